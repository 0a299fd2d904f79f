/- The linker's own names of a compartment, as a list (ownS), and small contracts for it: a name of a list, by a function value. -/
import Derived.Test.YtchkjfokoenlnaaQSyQ
import Derived.Test.YtchkjfokoenlnaaQSyx0
import Derived.Laws.Concat
import Derived.Laws.EntriesVeiled
import Derived.Deep.QuietTactic
import Derived.BigQuiet
import Derived.Outline
namespace Go.Proofs.Ytchkjfokoenlnaa.Sym
open Go.RowKit Go.Proofs.YtchkjfokoenlnaaW.PrintWords Go.Proofs.YtchkjfokoenlnaaW.PrintLast Go.Proofs.Ytchkjfokoenlnaa.QSy
set_option linter.unusedVariables false
set_option linter.unusedSimpArgs false
def wSw : ByteArray := ⟨#[115, 119, 105, 116, 99, 104]⟩
theorem cell_al {w : World} {a : Addr} {v : Value} (h : w.cell? a = some v) (ob : Obj) : (w.alloc ob).cell? a = some v := pw_cell_below (below_alloc (Below.refl _ _) ob) h
def nameC (cs : List S78) (n : Int) : ByteArray := if n < 0 ∨ (cs.length : Int) ≤ n then ⟨#[]⟩ else (rd_T78 cs n).f0
def nameH (hs : List S89) (n : Int) : ByteArray := if n < 0 ∨ (hs.length : Int) ≤ n then ⟨#[]⟩ else (rd_T89 hs n).f0
def impS (cs : List S78) (y : S80) : ByteArray := (((⟨#[105, 109, 112, 111, 114, 116, 46]⟩ : ByteArray) ++ nameC cs y.f0) ++ (⟨#[46]⟩ : ByteArray)) ++ y.f1
def devS (y : S84) : ByteArray := (⟨#[100, 101, 118, 105, 99, 101, 46]⟩ : ByteArray) ++ y.f0
def givS (hs : List S89) (y : S86) : ByteArray := (⟨#[115, 104, 97, 114, 101, 46]⟩ : ByteArray) ++ nameH hs y.f0
def own1 (cs : List S78) (x : S78) (j : Nat) : List ByteArray := [wSw] ++ (x.f3.take j).map (impS cs)
def own2 (cs : List S78) (x : S78) (j : Nat) : List ByteArray := own1 cs x x.f3.length ++ (x.f4.take j).map devS
def own3 (cs : List S78) (hs : List S89) (x : S78) (j : Nat) : List ByteArray := own2 cs x x.f4.length ++ (x.f5.take j).map (givS hs)
/-- Own's answer. -/
def ownS (cs : List S78) (hs : List S89) (c : Int) : List ByteArray := if c < 0 ∨ (cs.length : Int) ≤ c then [] else own3 cs hs (rd_T78 cs c) (rd_T78 cs c).f5.length
/-- Sizes that a plan within the bulk has. -/
structure OwnOk (cs : List S78) (hs : List S89) (x : S78) : Prop where
  c : ∀ n, (nameC cs n).size ≤ 140737488351232
  h : ∀ n, (nameH hs n).size ≤ 140737488351232
  i : ∀ j, (rd_T80 x.f3 j).f1.size ≤ 140737488351232
  d : ∀ j, (rd_T84 x.f4 j).f0.size ≤ 140737488351232
  l : x.f3.length + x.f4.length + x.f5.length ≤ 1048576
theorem own1_len (cs : List S78) (x : S78) (j : Nat) : (own1 cs x j).length ≤ 1 + x.f3.length := by unfold own1; simp; omega
theorem own2_len (cs : List S78) (x : S78) (j : Nat) : (own2 cs x j).length ≤ 1 + x.f3.length + x.f4.length := by
  unfold own2; have := own1_len cs x x.f3.length; simp only [List.length_append, List.length_map, List.length_take]; omega
theorem own3_len (cs : List S78) (hs : List S89) (x : S78) (j : Nat) : (own3 cs hs x j).length ≤ 1 + x.f3.length + x.f4.length + x.f5.length := by
  unfold own3; have := own2_len cs x x.f4.length; simp only [List.length_append, List.length_map, List.length_take]; omega
theorem take_map_succ {α β : Type} (l : List α) (f : α → β) (j : Nat) (z : α) (h : j < l.length) : (l.take (j + 1)).map f = (l.take j).map f ++ [f (l.getD j z)] := by
  rw [List.take_succ_eq_append_getElem h, List.map_append, List.getD_eq_getElem?_getD, List.getElem?_eq_getElem h]; rfl
theorem own1_succ (cs : List S78) (x : S78) (j : Nat) (h : j < x.f3.length) : own1 cs x (j + 1) = own1 cs x j ++ [impS cs (rd_T80 x.f3 (j : Int))] := by
  unfold own1 rd_T80; rw [take_map_succ _ _ _ z80 h, Int.toNat_natCast, List.append_assoc]
theorem own2_succ (cs : List S78) (x : S78) (j : Nat) (h : j < x.f4.length) : own2 cs x (j + 1) = own2 cs x j ++ [devS (rd_T84 x.f4 (j : Int))] := by
  unfold own2 rd_T84; rw [take_map_succ _ _ _ z84 h, Int.toNat_natCast, List.append_assoc]
theorem own3_succ (cs : List S78) (hs : List S89) (x : S78) (j : Nat) (h : j < x.f5.length) : own3 cs hs x (j + 1) = own3 cs hs x j ++ [givS hs (rd_T86 x.f5 (j : Int))] := by
  unfold own3 rd_T86; rw [take_map_succ _ _ _ z86 h, Int.toNat_natCast, List.append_assoc]
theorem own2_zero (cs : List S78) (x : S78) : own2 cs x 0 = own1 cs x x.f3.length := by unfold own2; simp
theorem own3_zero (cs : List S78) (hs : List S89) (x : S78) : own3 cs hs x 0 = own2 cs x x.f4.length := by unfold own3; simp
theorem nm78_calls (n : ByteArray) (a1 a2 a3 a4 a5 : Value) (w : World) : Calls Try.prog 29 #[.agg #[.string n, a1, a2, a3, a4, a5]] w fun e w' => e = .returned (.string n) ∧ Below w.heap.size w w' := by
  go_enter Try.func29, Try.ntmps29
  go_wp2
  go_ret
  exact ⟨rfl, below_alloc (Below.refl _ _) _⟩
theorem nm89_calls (n : ByteArray) (a1 : Value) (w : World) : Calls Try.prog 31 #[.agg #[.string n, a1]] w fun e w' => e = .returned (.string n) ∧ Below w.heap.size w w' := by
  go_enter Try.func31, Try.ntmps31
  go_wp2
  go_ret
  exact ⟨rfl, below_alloc (Below.refl _ _) _⟩
set_option maxRecDepth 100000 in
set_option maxHeartbeats 4000000 in
theorem called78 (A : Option Addr) (c : Nat) (cs : List S78) (n : Int) (w : World) (hr : Kd.C k78 w A cs.length cs) :
    Calls Try.prog 28 #[.slice A cs.length c, .int .i64 n, .func (.func 29) #[] #[]] w fun e w' => e = .returned (.string (nameC cs n)) ∧ Below w.heap.size w w' := by
  obtain ⟨r, hn⟩ : ∃ r, nameC cs n = r := ⟨_, rfl⟩
  rw [hn]
  have HN := Aside0.mk hn
  have HR := Aside0.mk hr
  clear hn hr
  by_cases h0 : n < 0
  · have hd : decide (n < 0) = true := decide_eq_true h0
    go_enter Try.func28, Try.ntmps28
    go_wp2_with fail
    go_ret
    exact ⟨by rw [← HN.out]; unfold nameC; rw [if_pos (.inl h0)]; rfl, Below.refl _ _⟩
  · have hd : decide (n < 0) = false := decide_eq_false h0
    by_cases h1 : (cs.length : Int) ≤ n
    · go_enter Try.func28, Try.ntmps28
      go_wp2_with fail
      go_ret
      exact ⟨by rw [← HN.out]; unfold nameC; rw [if_pos (.inr h1)]; rfl, Below.refl _ _⟩
    · obtain ⟨ad, A1, c1, A2, c2, A3, c3, A4, c4, A5, c5, rfl, k0, k1, k2, k3, k4, k5, _⟩ := at_T78 HR.out n (by omega) (by omega)
      have hl : cs.length ≤ 9223372036854775807 := HR.out.2.1
      have h0p : 0 ≤ n := by omega
      have h1p : n < cs.length := by omega
      have HV : Aside0 ((rd_T78 cs n).f0 = r) := ⟨by rw [← HN.out]; unfold nameC; rw [if_neg (by omega)]⟩
      rw [HV.out] at k0
      go_enter Try.func28, Try.ntmps28
      go_wp2_with fail
      refine (nm78_calls _ _ _ _ _ _ _).mono ?_
      intro e w' h
      obtain ⟨h, hb⟩ := h
      subst h
      have HB := Aside0.mk hb
      clear hb
      simp only []
      go_wp2_with fail
      go_ret
      exact ⟨rfl, HB.out⟩
set_option maxRecDepth 100000 in
set_option maxHeartbeats 4000000 in
theorem called89 (A : Option Addr) (c : Nat) (cs : List S89) (n : Int) (w : World) (hr : Kd.C k89 w A cs.length cs) :
    Calls Try.prog 30 #[.slice A cs.length c, .int .i64 n, .func (.func 31) #[] #[]] w fun e w' => e = .returned (.string (nameH cs n)) ∧ Below w.heap.size w w' := by
  obtain ⟨r, hn⟩ : ∃ r, nameH cs n = r := ⟨_, rfl⟩
  rw [hn]
  have HN := Aside0.mk hn
  have HR := Aside0.mk hr
  clear hn hr
  by_cases h0 : n < 0
  · have hd : decide (n < 0) = true := decide_eq_true h0
    go_enter Try.func30, Try.ntmps30
    go_wp2_with fail
    go_ret
    exact ⟨by rw [← HN.out]; unfold nameH; rw [if_pos (.inl h0)]; rfl, Below.refl _ _⟩
  · have hd : decide (n < 0) = false := decide_eq_false h0
    by_cases h1 : (cs.length : Int) ≤ n
    · go_enter Try.func30, Try.ntmps30
      go_wp2_with fail
      go_ret
      exact ⟨by rw [← HN.out]; unfold nameH; rw [if_pos (.inr h1)]; rfl, Below.refl _ _⟩
    · obtain ⟨ad, rfl, k0, k1⟩ := at_T89 HR.out n (by omega) (by omega)
      have hl : cs.length ≤ 9223372036854775807 := HR.out.2.1
      have h0p : 0 ≤ n := by omega
      have h1p : n < cs.length := by omega
      have HV : Aside0 ((rd_T89 cs n).f0 = r) := ⟨by rw [← HN.out]; unfold nameH; rw [if_neg (by omega)]⟩
      rw [HV.out] at k0
      go_enter Try.func30, Try.ntmps30
      go_wp2_with fail
      refine (nm89_calls _ _ _).mono ?_
      intro e w' h
      obtain ⟨h, hb⟩ := h
      subst h
      have HB := Aside0.mk hb
      clear hb
      simp only []
      go_wp2_with fail
      go_ret
      exact ⟨rfl, HB.out⟩
/-- What a round of Own's loops keeps: the compartment's copy (block bx), and the list. -/
structure KeepO (w0 wr : World) (bx : Nat) (xc : Array Value) (v : Value) (xs : List ByteArray) : Prop where
  below : Below w0.heap.size w0 wr
  x : wr.heap[bx]? = some (.cells xc 78 (0, 0))
  row : Kd.R Kd.string 9 wr w0.heap.size (fun k => k ≠ bx) v xs
theorem KeepO.size {w0 wr : World} {bx : Nat} {xc : Array Value} {v : Value} {xs : List ByteArray} (h : KeepO w0 wr bx xc v xs) : bx < wr.heap.size := (Array.getElem?_eq_some_iff.1 h.x).1
theorem KeepO.lower {w0 wr w' : World} {bx : Nat} {xc : Array Value} {v : Value} {xs : List ByteArray} (h : KeepO w0 wr bx xc v xs) (hb : Below wr.heap.size wr w') : KeepO w0 w' bx xc v xs :=
  ⟨h.below.trans (hb.mono h.below.size), (hb.block _ h.size).trans h.x, Kd.R_below h.row hb⟩
theorem KeepO.app {w0 wr w' : World} {bx : Nat} {xc : Array Value} {v v' : Value} {xs ys : List ByteArray} (h : KeepO w0 wr bx xc v xs) (hr : Kd.R Kd.string 9 w' w0.heap.size (fun k => k ≠ bx) v' ys) (hb : Below w0.heap.size w0 w') (hg : wr.grownBy w' v.ownBlock) : KeepO w0 w' bx xc v' ys :=
  ⟨hb, (hg.block _ h.size (fun he => h.row.1 _ he.symm rfl)).trans h.x, hr⟩
end Go.Proofs.Ytchkjfokoenlnaa.Sym
