/- A state of a machine, told by the row of its cells; blocks told by rows. No condition. -/
import Derived.Test.YtadbonmkockakaaQMb
import Derived.Deep.MidRow
import Derived.Deep.WholeRow
import Derived.Deep.OwnRows
import Derived.StillTailTactics
import Derived.WalkLawsBesides
namespace Go.Proofs.Ytadbonmkockakaa.Cp
open Go.RowKit Go.Proofs.YtadbonmkockakaaW.PrintWords Go.Proofs.YtadbonmkockakaaW.PrintLast Go.Proofs.YtadbonmkockakaaW.PrintMore Go.Proofs.Ytadbonmkockakaa.QCb Go.Proofs.Ytadbonmkockakaa.QCe
set_option linter.unusedVariables false
set_option linter.unusedSimpArgs false
theorem Fix.sets {S : Nat → Prop} {w : World} {g : Nat} (hg : S g) : ∀ (vs : List Value) (o : Nat) (w' : World), Fix S w w' → Fix S w (w'.setCells g o vs) := by
  intro vs
  induction vs with
  | nil => intro o w' h; exact h
  | cons v r ih => intro o w' h; exact ih (o + 1) _ (h.set hg)
structure St where
  regs : Nat → Cap
  pcc : Cap
  mtcc : Cap
  mtdc : Cap
  mscr : Cap
  mepcc : Cap
  cause : Int
  on : Bool
  was : Bool
  halted : Bool
def capL (c : Cap) : List Value := [.bool c.tag, .int .u32 c.addr, .int .u8 c.perms, .int .u8 c.ty, .int .u8 c.e, .int .u16 c.b, .int .u16 c.t]
theorem capV_L (c : Cap) : capV c = .agg (capL c).toArray := rfl
theorem capL_len (c : Cap) : (capL c).length = 7 := rfl
def regsL (r : Nat → Cap) : List Value := (List.range 16).flatMap fun i => capL (r i)
def stL (s : St) : List Value := regsL s.regs ++ (capL s.pcc ++ (capL s.mtcc ++ (capL s.mtdc ++ (capL s.mscr ++ (capL s.mepcc ++ [.int .u32 s.cause, .bool s.on, .bool s.was, .bool s.halted])))))
def stV (s : St) : Value := .agg (stL s).toArray
theorem regsL_len (r : Nat → Cap) : (regsL r).length = 112 := rfl
theorem stL_len (s : St) : (stL s).length = 151 := by unfold stL; simp [regsL_len, capL_len]
structure OkS (s : St) : Prop where
  regs : ∀ i, OkC (s.regs i)
  pcc : OkC s.pcc
  mtcc : OkC s.mtcc
  mtdc : OkC s.mtdc
  mscr : OkC s.mscr
  mepcc : OkC s.mepcc
  cause : 0 ≤ s.cause ∧ s.cause < 4294967296
/-- Cells put into a row. -/
def splice (L : List Value) (o : Nat) (vs : List Value) : List Value := L.take o ++ (vs ++ L.drop (o + vs.length))
def setR (r : Nat → Cap) (i : Nat) (c : Cap) : Nat → Cap := fun k => if k = i then c else r k
theorem regs_splice (r : Nat → Cap) (i : Nat) (hi : i < 16) (c : Cap) (A B : List Value) (n : Nat) (hA : A.length = n) : splice (A ++ (regsL r ++ B)) (n + i * 7) (capL c) = A ++ (regsL (setR r i c) ++ B) := by
  have h : ∀ i, i < 16 → splice (regsL r ++ B) (i * 7) (capL c) = regsL (setR r i c) ++ B := by
    intro i hi
    have hh : i = 0 ∨ i = 1 ∨ i = 2 ∨ i = 3 ∨ i = 4 ∨ i = 5 ∨ i = 6 ∨ i = 7 ∨ i = 8 ∨ i = 9 ∨ i = 10 ∨ i = 11 ∨ i = 12 ∨ i = 13 ∨ i = 14 ∨ i = 15 := by omega
    rcases hh with rfl | rfl | rfl | rfl | rfl | rfl | rfl | rfl | rfl | rfl | rfl | rfl | rfl | rfl | rfl | rfl <;> rfl
  have h2 := h i hi
  unfold splice at h2 ⊢
  rw [List.take_append, List.drop_append, hA, show n + i * 7 - n = i * 7 by omega, show n + i * 7 + (capL c).length - n = i * 7 + (capL c).length by omega, List.take_of_length_le (by omega), List.drop_of_length_le (by omega), List.nil_append, List.append_assoc, h2]
theorem regs_at (r : Nat → Cap) (i : Nat) (hi : i < 16) (A B : List Value) (n : Nat) (hA : A.length = n) : ((A ++ (regsL r ++ B)).drop (n + i * 7)).take 7 = capL (r i) := by
  have h : ∀ i, i < 16 → ((regsL r ++ B).drop (i * 7)).take 7 = capL (r i) := by
    intro i hi
    have hh : i = 0 ∨ i = 1 ∨ i = 2 ∨ i = 3 ∨ i = 4 ∨ i = 5 ∨ i = 6 ∨ i = 7 ∨ i = 8 ∨ i = 9 ∨ i = 10 ∨ i = 11 ∨ i = 12 ∨ i = 13 ∨ i = 14 ∨ i = 15 := by omega
    rcases hh with rfl | rfl | rfl | rfl | rfl | rfl | rfl | rfl | rfl | rfl | rfl | rfl | rfl | rfl | rfl | rfl <;> rfl
  rw [List.drop_append, hA, show n + i * 7 - n = i * 7 by omega, List.drop_of_length_le (by omega), List.nil_append, h i hi]
/-- A block, told by its row. -/
def BL (w : World) (g : Nat) (T : TypeId) (L : List Value) : Prop := w.heap[g]? = some (.cells L.toArray T (0, 0))
theorem BL.lt {w : World} {g : Nat} {T : TypeId} {L : List Value} (h : BL w g T L) : g < w.heap.size := (Array.getElem?_eq_some_iff.1 h).1
theorem BL.cell {w : World} {g : Nat} {T : TypeId} {L : List Value} (h : BL w g T L) (o : Nat) (v : Value) (hv : L[o]? = some v) : w.cell? ⟨g, o, none⟩ = some v := by
  unfold World.cell?
  rw [show w.heap[g]? = _ from h]
  show L.toArray[o]? = some v
  rw [List.getElem?_toArray]; exact hv
theorem BL.open_ {w : World} {g : Nat} {T : TypeId} {L : List Value} (h : BL w g T L) (o : Nat) : w.frozen? ⟨g, o, none⟩ = false := by
  unfold World.frozen?
  rw [show w.heap[g]? = _ from h]; simp
theorem BL.range {w : World} {g : Nat} {T : TypeId} {L : List Value} (h : BL w g T L) (o : Nat) (cs : List Value) (hc : (L.drop o).take cs.length = cs) : w.rangeAt g o cs := fun j v hj => by
  refine h.cell (o + j) v ?_
  have hl := (List.getElem?_eq_some_iff.1 hj).1
  rw [← hc, List.getElem?_take_of_lt (by rw [← hc] at hl; rw [List.length_take] at hl; omega), List.getElem?_drop] at hj
  exact hj
theorem BL.there {w : World} {g : Nat} {T : TypeId} {L : List Value} (h : BL w g T L) (o n : Nat) (hn : o + n ≤ L.length) : w.there g o n := fun j hj => by
  refine ⟨?_, h.open_ _⟩
  rw [h.cell (o + j) L[o + j] (List.getElem?_eq_getElem (by omega))]; rfl
theorem BL.set {w : World} {g : Nat} {T : TypeId} {L : List Value} (h : BL w g T L) (o : Nat) (v : Value) : BL (w.setCell ⟨g, o, none⟩ v) g T (L.set o v) := by
  have := setCell_at w g o v L.toArray T (0, 0) h
  unfold BL
  rw [this]
  simp
theorem BL.sets {g : Nat} {T : TypeId} : ∀ (vs : List Value) (o : Nat) (w : World) (L : List Value), BL w g T L → o + vs.length ≤ L.length → BL (w.setCells g o vs) g T (splice L o vs) := by
  intro vs
  induction vs with
  | nil =>
    intro o w L h _
    unfold splice
    simp only [List.nil_append, List.length_nil, Nat.add_zero, List.take_append_drop]
    exact h
  | cons v r ih =>
    intro o w L h hl
    simp only [List.length_cons] at hl
    have h1 := ih (o + 1) _ _ (h.set o v) (by rw [List.length_set]; omega)
    have e : splice (L.set o v) (o + 1) r = splice L o (v :: r) := by
      have h1 : (L.set o v).take (o + 1) = L.take o ++ [v] := by
        apply List.ext_getElem?
        intro i
        rcases Nat.lt_trichotomy i o with h | h | h
        · rw [List.getElem?_take_of_lt (by omega), List.getElem?_set_ne (by omega), List.getElem?_append_left (by rw [List.length_take]; omega), List.getElem?_take_of_lt h]
        · subst h
          rw [List.getElem?_take_of_lt (by omega), List.getElem?_set_self (by omega), List.getElem?_append_right (by rw [List.length_take]; omega), List.length_take, show i - min i L.length = 0 by omega]; rfl
        · rw [List.getElem?_eq_none (by rw [List.length_take]; omega), List.getElem?_eq_none (by rw [List.length_append, List.length_take]; simp; omega)]
      unfold splice
      rw [h1, List.drop_set, if_pos (by omega), List.append_assoc, List.length_cons, show o + 1 + r.length = o + (r.length + 1) by omega]
      rfl
    rw [e] at h1
    exact h1
theorem BL.below {w w1 : World} {g : Nat} {T : TypeId} {L : List Value} (h : BL w g T L) (hb : Below w.heap.size w w1) : BL w1 g T L := blkK hb h
theorem BL.fix {S : Nat → Prop} {w w1 : World} {g : Nat} {T : TypeId} {L : List Value} (h : BL w g T L) (hf : Fix S w w1) (hs : ¬ S g) : BL w1 g T L := hf.keep h hs
theorem BL.other {w : World} {g b : Nat} {T : TypeId} {L : List Value} (h : BL w g T L) (hne : g ≠ b) (o : Nat) (v : Value) : BL (w.setCell ⟨b, o, none⟩ v) g T L := (Below.heap_setCell _ _ _ _ hne).trans h
theorem BL.new (w : World) (L : List Value) (T : TypeId) : BL (w.alloc (.cells L.toArray T)) w.heap.size T L := heap_alloc_new w _
end Go.Proofs.Ytadbonmkockakaa.Cp

/- The machine under way, told by its row; its small functions by contract. -/
namespace Go.Proofs.Ytadbonmkockakaa.Cp
open Go.RowKit Go.Proofs.YtadbonmkockakaaW.PrintWords Go.Proofs.YtadbonmkockakaaW.PrintLast Go.Proofs.YtadbonmkockakaaW.PrintMore Go.Proofs.Ytadbonmkockakaa.QCb Go.Proofs.Ytadbonmkockakaa.QCe
set_option linter.unusedVariables false
set_option linter.unusedSimpArgs false
structure Mc where
  m : Nat
  was : St
  now : St
  cause : Int
  tv : Value
  told : Bool
  out : Int
  to_ : Int
  ans : Int
def mcL (x : Mc) : List Value := .pointer (some ⟨x.m, 0, none⟩) :: (stL x.was ++ (stL x.now ++ [.int .u32 x.cause, x.tv, .bool x.told, .int .u32 x.out, .int .u32 x.to_, .int .u32 x.ans]))
theorem mcL_len (x : Mc) : (mcL x).length = 309 := by unfold mcL; simp [stL_len]
theorem stop_calls (cause : Int) (w : World) : Calls Try.prog 21 #[.int .u32 cause] w fun e w' => e = .panicked [{ v := .iface 67 (.agg #[.int .u32 cause]), recovered := false }] ∧ Below w.heap.size w w' := by
  go_enter Try.func21, Try.ntmps21
  go_wp2
  exact ⟨rfl, rfl, Below.refl _ _⟩
theorem most_calls (n : Int) (hn : 0 ≤ n) (w : World) : Calls Try.prog 71 #[.int .u64 n] w fun e w' => e = .returned (.int .u32 (min n 4294967295)) ∧ Below w.heap.size w w' := by
  go_enter Try.func71, Try.ntmps71
  go_wp2
  · go_ret
    exact ⟨by rw [show min n 4294967295 = 4294967295 by omega]; rfl, Below.refl _ _⟩
  · go_ret
    exact ⟨by rw [show min n 4294967295 = n by omega]; rfl, Below.refl _ _⟩
theorem bit_calls (b : Bool) (w : World) : Calls Try.prog 74 #[.bool b] w fun e w' => e = .returned (.int .u32 (if b = true then 1 else 0)) ∧ Below w.heap.size w w' := by
  cases b
  · go_enter Try.func74, Try.ntmps74
    go_wp2
    go_ret
    exact ⟨rfl, Below.refl _ _⟩
  · go_enter Try.func74, Try.ntmps74
    go_wp2
    go_ret
    exact ⟨rfl, Below.refl _ _⟩
theorem Mc.wasPcc {w : World} {g : Nat} {x : Mc} (h : BL w g 51 (mcL x)) : w.rangeAt g 113 (capL x.was.pcc) := h.range 113 _ rfl
set_option maxRecDepth 100000 in
set_option maxHeartbeats 4000000 in
theorem from_calls (g : Nat) (x : Mc) (n : Int) (ok : OkC x.was.pcc) (w : World) (hx : BL w g 51 (mcL x)) :
    Calls Try.prog 24 #[.pointer (some ⟨g, 0, none⟩), .int .i32 n] w fun e w' => e = .returned (capV (setAddrS x.was.pcc ((x.was.pcc.addr + n) % 4294967296))) ∧ Below w.heap.size w w' := by
  have HX := Aside0.mk hx
  obtain ⟨⟨tag, a, p, ty, e, b, t⟩, hp⟩ : ∃ c, x.was.pcc = c := ⟨_, rfl⟩
  have HP := Aside0.mk hp
  rw [hp] at ok ⊢
  simp only []
  obtain ⟨⟨u0, u1, u2, u3, u4, u5, u6⟩, hu⟩ : ∃ c, setAddrS ⟨tag, a, p, ty, e, b, t⟩ ((a + n) % 4294967296) = c := ⟨_, rfl⟩
  have HS : Aside0 (∀ w, Calls Try.prog 34 #[.agg #[.bool tag, .int .u32 a, .int .u8 p, .int .u8 ty, .int .u8 e, .int .u16 b, .int .u16 t], .int .u32 ((a + n % 4294967296) % 4294967296)] w fun r w' => r = .returned (.agg #[.bool u0, .int .u32 u1, .int .u8 u2, .int .u8 u3, .int .u8 u4, .int .u16 u5, .int .u16 u6]) ∧ Below w.heap.size w w') := ⟨fun w => by have h := setAddr_calls tag a p ty e b t ok ((a + n) % 4294967296) (by omega) w; rw [hu] at h; rw [show (a + n % 4294967296) % 4294967296 = (a + n) % 4294967296 by omega]; exact h⟩
  rw [hu]
  clear hx hp ok hu
  go_enter Try.func24, Try.ntmps24
  go_wp2_with fail
  generalize hw1 : w.alloc (Obj.cells #[.bool false, .int .u32 0, .int .u8 0, .int .u8 0, .int .u8 0, .int .u16 0, .int .u16 0] 27) = w1
  have HB1 : Aside0 (Below w.heap.size w w1) := ⟨by rw [← hw1]; exact below_alloc (Below.refl _ _) _⟩
  have K1 : Aside0 (BL w1 w.heap.size 27 (capL nullC)) := ⟨by rw [← hw1]; exact BL.new _ _ _⟩
  have hx := HX.out.below HB1.out
  have e0 := hx.cell 113 _ rfl
  have e1 := hx.cell 114 _ rfl
  have e2 := hx.cell 115 _ rfl
  have e3 := hx.cell 116 _ rfl
  have e4 := hx.cell 117 _ rfl
  have e5 := hx.cell 118 _ rfl
  have e6 := hx.cell 119 _ rfl
  rw [HP.out] at e0 e1 e2 e3 e4 e5 e6
  simp only [] at e0 e1 e2 e3 e4 e5 e6
  clear hw1 hx
  go_still_tail 14, (by kernel_rfl)
  change wpList _ _ _ _ _ w1.drew
  have HB2 : Aside0 (Below w.heap.size w w1.drew) := ⟨below_drew HB1.out⟩
  have K2 : Aside0 (BL w1.drew w.heap.size 27 (capL nullC)) := ⟨K1.out⟩
  generalize w1.drew = w2 at HB2 K2 ⊢
  clear e0 e1 e2 e3 e4 e5 e6 HB1 K1
  go_wp2_with (first | (go_at_call 34; (with_reducible refine (HS.out _).mono ?_); rintro _ w3 ⟨rfl, hb⟩; have K3 := Aside0.mk (K2.out.below hb); have HB3 := Aside0.mk (HB2.out.trans (hb.mono HB2.out.size)); clear hb; have k3 : w3.heap[w.heap.size]? = some (.cells #[.bool false, .int .u32 0, .int .u8 0, .int .u8 0, .int .u8 0, .int .u16 0, .int .u16 0] 27 (0, 0)) := K3.out; obtain ⟨f0, f1, f2, f3, f4, f5, f6, z0, z1, z2, z3, z4, z5, z6⟩ := seven k3; clear k3))
  exact bodyPost_ret (v := .agg #[.bool u0, .int .u32 u1, .int .u8 u2, .int .u8 u3, .int .u8 u4, .int .u16 u5, .int .u16 u6]) (by simp [results, Try.results24, go_sem, f0, f1, f2, f3, f4, f5, f6]) rfl ⟨rfl, (by repeat (first | (with_reducible exact HB3.out) | (with_reducible refine Below.setCell ?_ (by simp) _)))⟩
end Go.Proofs.Ytadbonmkockakaa.Cp

/- The machine's put, number, link, touch, by contract. -/
namespace Go.Proofs.Ytadbonmkockakaa.Cp
open Go.RowKit Go.Proofs.YtadbonmkockakaaW.PrintWords Go.Proofs.YtadbonmkockakaaW.PrintLast Go.Proofs.YtadbonmkockakaaW.PrintMore Go.Proofs.Ytadbonmkockakaa.QCb Go.Proofs.Ytadbonmkockakaa.QCe
set_option linter.unusedVariables false
set_option linter.unusedSimpArgs false
def putR (s : St) (r : Nat) (c : Cap) : St := if r = 0 then s else { s with regs := setR s.regs r c }
def putM (x : Mc) (r : Nat) (c : Cap) : Mc := { x with now := putR x.now r c }
theorem putM_splice (x : Mc) (k : Nat) (hk : k < 16) (h0 : k ≠ 0) (c : Cap) : splice (mcL x) (152 + k * 7) (capL c) = mcL (putM x k c) := by
  have h := regs_splice x.now.regs k hk c (.pointer (some ⟨x.m, 0, none⟩) :: stL x.was) ((capL x.now.pcc ++ (capL x.now.mtcc ++ (capL x.now.mtdc ++ (capL x.now.mscr ++ (capL x.now.mepcc ++ [.int .u32 x.now.cause, .bool x.now.on, .bool x.now.was, .bool x.now.halted]))))) ++ [.int .u32 x.cause, x.tv, .bool x.told, .int .u32 x.out, .int .u32 x.to_, .int .u32 x.ans]) 152 (by simp [stL_len])
  have e1 : mcL x = (.pointer (some ⟨x.m, 0, none⟩) :: stL x.was) ++ (regsL x.now.regs ++ ((capL x.now.pcc ++ (capL x.now.mtcc ++ (capL x.now.mtdc ++ (capL x.now.mscr ++ (capL x.now.mepcc ++ [.int .u32 x.now.cause, .bool x.now.on, .bool x.now.was, .bool x.now.halted]))))) ++ [.int .u32 x.cause, x.tv, .bool x.told, .int .u32 x.out, .int .u32 x.to_, .int .u32 x.ans])) := by
    unfold mcL
    rw [show stL x.now = regsL x.now.regs ++ _ from rfl]
    simp only [List.append_assoc, List.cons_append]
  rw [← e1] at h
  rw [h]
  unfold putM putR mcL
  rw [if_neg h0]
  rw [show stL { x.now with regs := setR x.now.regs k c } = regsL (setR x.now.regs k c) ++ _ from rfl]
  simp only [List.append_assoc, List.cons_append]
theorem size31 : (Try.prog.info? 27).map (·.size) = some 7 := by kernel_rfl
theorem capL_one (c : Cap) : (capL c).toArray.all (·.oneCell') = true := by simp [capL, Value.oneCell']
set_option maxRecDepth 100000 in
set_option maxHeartbeats 4000000 in
theorem put_calls (g : Nat) (x : Mc) (k : Nat) (hk : k < 16) (c : Cap) (w : World) (hx : BL w g 51 (mcL x)) :
    Calls Try.prog 36 #[.pointer (some ⟨g, 0, none⟩), .int .u8 (k : Int), capV c] w fun e w' => e = .returned (.tuple #[]) ∧ Fix (· = g) w w' ∧ BL w' g 51 (mcL (putM x k c)) := by
  have HX := Aside0.mk hx
  obtain ⟨tag, a, p, ty, e, b, t⟩ := c
  by_cases h0 : k = 0
  · subst h0
    show Calls Try.prog 36 #[.pointer (some ⟨g, 0, none⟩), .int .u8 0, .agg #[.bool tag, .int .u32 a, .int .u8 p, .int .u8 ty, .int .u8 e, .int .u16 b, .int .u16 t]] w _
    clear hx
    go_enter Try.func36, Try.ntmps36
    go_wp2
    go_end0
    exact ⟨rfl, Fix.of (below_alloc (Below.refl _ _) _), HX.out.below (below_alloc (Below.refl _ _) _)⟩
  · have HS := Aside0.mk (putM_splice x k hk h0 ⟨tag, a, p, ty, e, b, t⟩)
    have HK := Aside0.mk hk
    have hk0 : (0 : Int) < (k : Int) := by omega
    have hkn : 0 < k := by omega
    have hk1 : (0 : Int) ≤ (k : Int) := by omega
    have hk2 : (k : Int) < 16 := by omega
    show Calls Try.prog 36 #[.pointer (some ⟨g, 0, none⟩), .int .u8 (k : Int), .agg #[.bool tag, .int .u32 a, .int .u8 p, .int .u8 ty, .int .u8 e, .int .u16 b, .int .u16 t]] w _
    clear hx h0
    go_enter Try.func36, Try.ntmps36
    go_wp2_with fail
    generalize hw1 : w.alloc (Obj.cells #[.bool tag, .int .u32 a, .int .u8 p, .int .u8 ty, .int .u8 e, .int .u16 b, .int .u16 t] 27) = w1
    have HB1 : Aside0 (Below w.heap.size w w1) := ⟨by rw [← hw1]; exact below_alloc (Below.refl _ _) _⟩
    have k1 : w1.heap[w.heap.size]? = some (.cells #[.bool tag, .int .u32 a, .int .u8 p, .int .u8 ty, .int .u8 e, .int .u16 b, .int .u16 t] 27 (0, 0)) := by rw [← hw1]; exact heap_alloc_new _ _
    have HX1 := Aside0.mk (HX.out.below HB1.out)
    obtain ⟨f0, f1, f2, f3, f4, f5, f6, -, -, -, -, -, -, -⟩ := seven k1
    clear hw1 k1 hkn
    go_still_tail 7, (by kernel_rfl)
    change wpList _ _ _ _ _ w1.drew
    have HB2 : Aside0 (Below w.heap.size w w1.drew) := ⟨below_drew HB1.out⟩
    have HX2 : Aside0 (BL w1.drew g 51 (mcL x)) := ⟨HX1.out⟩
    generalize w1.drew = w2 at HB2 HX2 ⊢
    clear f0 f1 f2 f3 f4 f5 f6 HB1 HX1
    refine wpList_store_mid rfl 27 (.tmp 14) (.tmp 10) rfl g (152 + k * 7) (capL ⟨tag, a, p, ty, e, b, t⟩).toArray ?hx ?hy ?ht size31 (capL_one _) ?_
    case hx => rfl
    case hy => rfl
    case ht => exact HX2.out.there _ _ (by rw [mcL_len]; have := HK.out; show 152 + k * 7 + 7 ≤ 309; omega)
    have HX3 : Aside0 (BL (w2.setCells g (152 + k * 7) (capL ⟨tag, a, p, ty, e, b, t⟩)) g 51 (mcL (putM x k ⟨tag, a, p, ty, e, b, t⟩))) := ⟨by rw [← HS.out]; exact HX2.out.sets _ _ _ _ (by rw [mcL_len]; have := HK.out; show 152 + k * 7 + 7 ≤ 309; omega)⟩
    have HF3 : Aside0 (Fix (· = g) w (w2.setCells g (152 + k * 7) (capL ⟨tag, a, p, ty, e, b, t⟩))) := ⟨Fix.sets (S := (· = g)) rfl _ _ _ (Fix.of HB2.out)⟩
    generalize w2.setCells g (152 + k * 7) (capL ⟨tag, a, p, ty, e, b, t⟩) = w3 at HX3 HF3 ⊢
    go_wp2
    go_end0
    exact ⟨rfl, HF3.out, HX3.out⟩
end Go.Proofs.Ytadbonmkockakaa.Cp

/- Steps of a walk over blocks that are told by rows: a store leaves a world of which the row is known, and no more. No condition. -/
namespace Go.Proofs.Ytadbonmkockakaa.Cp
open Go.RowKit Go.Proofs.YtadbonmkockakaaW.PrintWords Go.Proofs.YtadbonmkockakaaW.PrintLast Go.Proofs.YtadbonmkockakaaW.PrintMore Go.Proofs.Ytadbonmkockakaa.QCb Go.Proofs.Ytadbonmkockakaa.QCe
set_option linter.unusedVariables false
set_option linter.unusedSimpArgs false
section
variable {P : Program} {ops : Array Oper} {rest : List Oper} {o : Oper} {a : Act} {w : World} {Q : Exit → Act → World → Prop} {b : Nat} {T : TypeId} {L : List Value}
theorem wps_agg (hgd : o.guard = none) (ty : TypeId) (x y : Operand) (ho : o.op = .store ty x y) (hB : BL w b T L) (off : Nat) (cs : List Value) (hx : a.eval x = .pointer (some ⟨b, off, none⟩)) (hy : a.eval y = .agg cs.toArray)
    (hi : (P.info? ty).map (·.size) = some cs.length) (h1 : cs.toArray.all (·.oneCell') = true) (hl : off + cs.length ≤ L.length) (L' : List Value) (hL : splice L off cs = L')
    (h : ∀ w', BL w' b T L' → Fix (· = b) w w' → wpList P ops Q rest (a.put o.dst undef) w') : wpList P ops Q (o :: rest) a w := by
  subst hL
  exact wpList_store_mid hgd ty x y ho b off cs.toArray hx hy (hB.there _ _ (by simpa using hl)) (by simpa using hi) h1 (h _ (hB.sets _ _ _ _ hl) (Fix.sets (S := (· = b)) rfl _ _ _ (Fix.refl _ _)))
theorem run_storeVar_one (w : World) (b o : Nat) (ty : TypeId) (v : Value) (hv : v.cells = #[v]) (h1 : v.oneCell' = true) (ht : w.there b o 1) (hi : (P.info? ty).map (·.size) = some 1) :
    (storeVar ty ⟨b, o, none⟩ v).run P w = .ok () (w.setCells b o [v]) := by
  have := run_storeCells_cells (P := P) b o [v] 0 w (fun j hj => by simpa using (ht j (by simpa using hj)).1) (fun j hj => by simpa using (ht j (by simpa using hj)).2) (fun u hu => by rw [List.mem_singleton.1 hu]; exact h1)
  cases hq : P.info? ty with
  | none => simp [hq] at hi
  | some i =>
    have hs : i.size = 1 := by simpa [hq] using hi
    simp only [Nat.add_zero] at this
    simp [storeVar, sizeOf, typeInfo, hq, hv, hs, this]
theorem wps_one (hgd : o.guard = none) (ty : TypeId) (x y : Operand) (ho : o.op = .store ty x y) (hB : BL w b T L) (off : Nat) (v : Value) (hx : a.eval x = .pointer (some ⟨b, off, none⟩)) (hy : a.eval y = v)
    (hv : v.cells = #[v]) (h1 : v.oneCell' = true) (hi : (P.info? ty).map (·.size) = some 1) (hl : off + 1 ≤ L.length) (L' : List Value) (hL : splice L off [v] = L')
    (h : ∀ w', BL w' b T L' → Fix (· = b) w w' → wpList P ops Q rest (a.put o.dst undef) w') : wpList P ops Q (o :: rest) a w := by
  subst hL
  have hB2 := hB.sets [v] off w L
  refine wpList_plain hgd fun _ hK => ?_
  unfold Oper.wp execOp
  simp only [ho, hx, hy, Instr.storeAt, Instr.sureAddr, Sem.run_bind, Sem.run_pure, Result.andThen_ok, run_storeVar_one w b off ty v hv h1 (hB.there _ _ hl) hi]
  exact hK _ _ (h _ (hB.sets _ _ _ _ hl) (Fix.sets (S := (· = b)) rfl _ _ _ (Fix.refl _ _)))
theorem wpl_agg (hgd : o.guard = none) (ty : TypeId) (x : Operand) (ho : o.op = .load ty x) (hB : BL w b T L) (off : Nat) (cs : List Value) (hx : a.eval x = .pointer (some ⟨b, off, none⟩)) (hc : (L.drop off).take cs.length = cs) (d : TypeDesc) (hu : P.underlying ty = some d) (hd : d.isRow = true) (hi : (P.info? ty).map (·.size) = some cs.length)
    (h : wpList P ops Q rest (a.put o.dst (.agg cs.toArray)) w) : wpList P ops Q (o :: rest) a w :=
  wpList_load_mid hgd ty x ho b off hx cs d (hB.range _ _ hc) hu hd hi h
end
theorem splice_all (L vs : List Value) (h : L.length = vs.length) : splice L 0 vs = vs := by
  unfold splice
  rw [List.take_zero, List.nil_append, Nat.zero_add, ← h, List.drop_length, List.append_nil]
theorem results_cell {P : Program} {f : Func} {a : Act} {w : World} {b t : Nat} {T : TypeId} {v : Value} (hf : f.results = #[.cell t T]) (hp : a.tmps[t]? = some (.pointer (some ⟨b, 0, none⟩))) (hr : (loadVar T ⟨b, 0, none⟩).run P w = .ok v w) : (results f a.tmps).run P w = .ok v w := by
  have h1 : a.tmps.getD t undef = .pointer (some ⟨b, 0, none⟩) := by simp [Array.getD_eq_getD_getElem?, hp]
  unfold results
  rw [hf]
  simpa [go_sem, hp] using hr
/-- A whole row, out of a block's head. -/
theorem results_row {f : Func} {a : Act} {w : World} {b t : Nat} {L : List Value} (T : TypeId) (d : TypeDesc) (hu : Try.prog.underlying T = some d) (hd : d.isRow = true) (hi : (Try.prog.info? T).map (·.size) = some L.length) (hf : f.results = #[.cell t T]) (hp : a.tmps[t]? = some (.pointer (some ⟨b, 0, none⟩))) (hB : BL w b T L) : (results f a.tmps).run Try.prog w = .ok (.agg L.toArray) w :=
  results_cell hf hp (run_loadVar_mid (P := Try.prog) w b 0 T L d (hB.range 0 L (by rw [List.drop_zero, List.take_length])) hu hd hi)
end Go.Proofs.Ytadbonmkockakaa.Cp

/- trap, twice, and Start by contract: a whole state goes in and out. Written by wip/r5/trp.py. -/
namespace Go.Proofs.Ytadbonmkockakaa.Cp
open Go.RowKit Go.Proofs.YtadbonmkockakaaW.PrintWords Go.Proofs.YtadbonmkockakaaW.PrintLast Go.Proofs.YtadbonmkockakaaW.PrintMore Go.Proofs.Ytadbonmkockakaa.QCb Go.Proofs.Ytadbonmkockakaa.QCe
set_option linter.unusedVariables false
set_option linter.unusedSimpArgs false
def zeroS : St := ⟨fun _ => nullC, nullC, nullC, nullC, nullC, nullC, 0, false, false, false⟩
set_option maxRecDepth 100000 in
theorem info30 : (Try.prog.info? 30).map (fun i => (i.zero, i.size)) = some (some (.agg (stL zeroS).toArray), 151) := by kernel_rfl
theorem size34 : (Try.prog.info? 30).map (·.size) = some 151 := (zero_of_info info30).2
theorem size26 : (Try.prog.info? 22).map (·.size) = some 1 := by kernel_rfl
theorem size4 : (Try.prog.info? 4).map (·.size) = some 1 := by kernel_rfl
theorem wp_allocT {T : TypeId} {cells : Array Value} {n : Nat} (hinfo : (Try.prog.info? T).map (fun i => (i.zero, i.size)) = some (some (.agg cells), n)) {op : Oper} {a : Act} {w : World} {K : Act → World → Prop} {Q : Exit → Act → World → Prop} (ho : op.op = .alloc T)
    (h : K (a.put op.dst (.pointer (some ⟨w.heap.size, 0, none⟩))) (w.alloc (.cells cells T))) : op.wp Try.prog a w K Q := by
  have hz := (zero_of_info hinfo).1
  have hr : ∀ w, (Instr.alloc T true (.tuple #[])).run Try.prog w = .ok (.pointer (some ⟨w.heap.size, 0, none⟩)) (w.alloc (.cells cells T)) := by
    intro w
    unfold Instr.alloc
    rw [Sem.run_bind, hz]
    rfl
  unfold Oper.wp execOp
  simp only [ho, hr, Sem.run_bind, Sem.run_pure, Result.andThen_ok]
  exact h
theorem wpList_allocT {T : TypeId} {cells : Array Value} {n : Nat} (hinfo : (Try.prog.info? T).map (fun i => (i.zero, i.size)) = some (some (.agg cells), n)) {ops : Array Oper} {rest : List Oper} {o : Oper} {a : Act} {w : World} {Q : Exit → Act → World → Prop} (hgd : o.guard = none) (ho : o.op = .alloc T)
    (h : wpList Try.prog ops Q rest (a.put o.dst (.pointer (some ⟨w.heap.size, 0, none⟩))) (w.alloc (.cells cells T))) : wpList Try.prog ops Q (o :: rest) a w :=
  wpList_plain hgd fun _ hK => wp_allocT hinfo ho (hK _ _ h)
theorem stL_one (s : St) : (stL s).toArray.all (·.oneCell') = true := by
  rw [Array.all_eq_true_iff_forall_mem]
  intro v hv
  rw [List.mem_toArray] at hv
  have hc : ∀ c : Cap, v ∈ capL c → v.oneCell' = true := by
    intro c h
    simp only [capL, List.mem_cons, List.not_mem_nil, or_false] at h
    rcases h with rfl | rfl | rfl | rfl | rfl | rfl | rfl <;> rfl
  unfold stL regsL at hv
  simp only [List.mem_append, List.mem_flatMap, List.mem_cons, List.not_mem_nil, or_false] at hv
  rcases hv with ⟨i, _, h⟩ | h | h | h | h | h | rfl | rfl | rfl | rfl
  · exact hc _ h
  · exact hc _ h
  · exact hc _ h
  · exact hc _ h
  · exact hc _ h
  · exact hc _ h
  all_goals rfl
def trapS (s : St) (cause : Int) : St := { s with mepcc := s.pcc, cause := cause, was := s.on, on := false, pcc := s.mtcc, halted := !s.mtcc.tag || s.mtcc.ty != 0 }
/-- A whole state is the result. -/
theorem retAgg34 {f : Func} {Post : Ending → World → Prop} {a : Act} {w : World} {b t : Nat} {L : List Value} (hf : f.results = #[.cell t 30]) (hd : a.defers = []) (hp : a.tmps[t]? = some (.pointer (some ⟨b, 0, none⟩))) (hB : BL w b 30 L) (hl : L.length = 151) (h : Post (.returned (.agg L.toArray)) w) : bodyPost Try.prog f Post .ret a w :=
  bodyPost_ret (results_row 30 _ Try.underlying30 rfl (by rw [size34, hl]) hf hp hB) hd h
theorem below_two {w w1 w2 w3 : World} (h1 : Below w.heap.size w w1) (h2 : Fix (· = w.heap.size) w1 w2) (h3 : Fix (· = w.heap.size + 1) w2 w3) : Below w.heap.size w w3 :=
  h1.trans ((h2.below (B := w.heap.size) h1.size (fun k hk => by omega)).trans (h3.below (B := w.heap.size) (Nat.le_trans h1.size h2.size) (fun k hk => by omega)))
set_option maxRecDepth 100000 in
set_option maxHeartbeats 4000000 in
theorem trap_calls (s : St) (cause : Int) (w : World) : Calls Try.prog 9 #[stV s, .int .u32 cause] w fun e w' => e = .returned (stV (trapS s cause)) ∧ Below w.heap.size w w' := by
  obtain ⟨regs, ⟨p0, p1, p2, p3, p4, p5, p6⟩, ⟨m0, m1, m2, m3, m4, m5, m6⟩, mtdc, mscr, ⟨q0, q1, q2, q3, q4, q5, q6⟩, ca, on, was, ha⟩ := s
  obtain ⟨L, hL⟩ : ∃ L, stL ⟨regs, ⟨p0, p1, p2, p3, p4, p5, p6⟩, ⟨m0, m1, m2, m3, m4, m5, m6⟩, mtdc, mscr, ⟨q0, q1, q2, q3, q4, q5, q6⟩, ca, on, was, ha⟩ = L := ⟨_, rfl⟩
  obtain ⟨hv, hhv⟩ : ∃ q, (!m0 || m3 != 0) = q := ⟨_, rfl⟩
  show Calls _ _ #[.agg (stL ⟨regs, ⟨p0, p1, p2, p3, p4, p5, p6⟩, ⟨m0, m1, m2, m3, m4, m5, m6⟩, mtdc, mscr, ⟨q0, q1, q2, q3, q4, q5, q6⟩, ca, on, was, ha⟩).toArray, _] _ fun e w' => e = .returned (.agg (stL ⟨regs, ⟨m0, m1, m2, m3, m4, m5, m6⟩, ⟨m0, m1, m2, m3, m4, m5, m6⟩, mtdc, mscr, ⟨p0, p1, p2, p3, p4, p5, p6⟩, cause, false, on, (!m0 || m3 != 0)⟩).toArray) ∧ _
  rw [hL, hhv]
  have HL := Aside0.mk hL
  have HHV := Aside0.mk hhv
  clear hL hhv
  go_enter Try.func9, Try.ntmps9
  go_upto_region 1 with (first | ((with_reducible refine wpList_allocT info30 rfl rfl ?_)))
  generalize hw1 : (w.alloc (Obj.cells L.toArray 30)).alloc (Obj.cells (stL zeroS).toArray 30) = w1
  have HB1 : Aside0 (Below w.heap.size w w1) := ⟨by rw [← hw1]; exact below_alloc (below_alloc (Below.refl _ _) _) _⟩
  have B1 : Aside0 (BL w1 w.heap.size 30 L) := ⟨by rw [← hw1]; exact (BL.new w L 30).below (below_alloc (Below.refl _ _) _)⟩
  have HB2 : Aside0 (BL w1 (w.heap.size + 1) 30 (stL zeroS)) := ⟨by rw [← hw1]; have h := BL.new (w.alloc (Obj.cells L.toArray 30)) (stL zeroS) 30; simpa using h⟩
  have hsz : (w.alloc (Obj.cells L.toArray 30)).heap.size = w.heap.size + 1 := by simp
  rw [hsz]
  clear hw1 hsz
  have HB := B1
  rw [← HL.out] at HB
  have HF : Aside0 (Fix (· = w.heap.size) w1 w1) := ⟨Fix.refl _ _⟩
  clear HL B1
  have hb := HB.out
  have x112 := hb.cell 112 _ rfl
  have x113 := hb.cell 113 _ rfl
  have x114 := hb.cell 114 _ rfl
  have x115 := hb.cell 115 _ rfl
  have x116 := hb.cell 116 _ rfl
  have x117 := hb.cell 117 _ rfl
  have x118 := hb.cell 118 _ rfl
  have x119 := hb.cell 119 _ rfl
  have x120 := hb.cell 120 _ rfl
  have x121 := hb.cell 121 _ rfl
  have x122 := hb.cell 122 _ rfl
  have x123 := hb.cell 123 _ rfl
  have x124 := hb.cell 124 _ rfl
  have x125 := hb.cell 125 _ rfl
  have x148 := hb.cell 148 _ rfl
  clear hb
  go_upto_region 2 with (first | ((with_reducible refine wps_agg rfl 27 (.tmp 12) (.tmp 6) rfl HB.out ?off_1 ?cs_1 ?hx_1 ?hy_1 ?hi_1 ?h1_1 ?hl_1 (stL ⟨regs, ⟨p0, p1, p2, p3, p4, p5, p6⟩, ⟨m0, m1, m2, m3, m4, m5, m6⟩, mtdc, mscr, ⟨p0, p1, p2, p3, p4, p5, p6⟩, ca, on, was, ha⟩) ?hL_1 ?_); (case hx_1 => rfl); (case hy_1 => rfl); (case hi_1 => exact size31); (case h1_1 => simp [Value.oneCell']); (case hl_1 => exact Nat.le_of_ble_eq_true rfl); (case hL_1 => rfl); intro w9 hb9 hf9; replace HF := Aside0.mk (HF.out.trans hf9); replace HB := Aside0.mk hb9; clear hb9 hf9) | ((with_reducible refine wps_one rfl 22 (.tmp 13) (.tmp 7) rfl HB.out ?off_2 ?cs_2 ?hx_2 ?hy_2 ?hv_2 ?h1_2 ?hi_2 ?hl_2 (stL ⟨regs, ⟨p0, p1, p2, p3, p4, p5, p6⟩, ⟨m0, m1, m2, m3, m4, m5, m6⟩, mtdc, mscr, ⟨p0, p1, p2, p3, p4, p5, p6⟩, cause, on, was, ha⟩) ?hL_2 ?_); (case hx_2 => rfl); (case hy_2 => rfl); (case hv_2 => rfl); (case h1_2 => rfl); (case hi_2 => exact size26); (case hl_2 => exact Nat.le_of_ble_eq_true rfl); (case hL_2 => rfl); intro w9 hb9 hf9; replace HF := Aside0.mk (HF.out.trans hf9); replace HB := Aside0.mk hb9; clear hb9 hf9) | ((with_reducible refine wps_one rfl 4 (.tmp 14) (.tmp 9) rfl HB.out ?off_3 ?cs_3 ?hx_3 ?hy_3 ?hv_3 ?h1_3 ?hi_3 ?hl_3 (stL ⟨regs, ⟨p0, p1, p2, p3, p4, p5, p6⟩, ⟨m0, m1, m2, m3, m4, m5, m6⟩, mtdc, mscr, ⟨p0, p1, p2, p3, p4, p5, p6⟩, cause, on, on, ha⟩) ?hL_3 ?_); (case hx_3 => rfl); (case hy_3 => rfl); (case hv_3 => rfl); (case h1_3 => rfl); (case hi_3 => exact size4); (case hl_3 => exact Nat.le_of_ble_eq_true rfl); (case hL_3 => rfl); intro w9 hb9 hf9; replace HF := Aside0.mk (HF.out.trans hf9); replace HB := Aside0.mk hb9; clear hb9 hf9) | ((with_reducible refine wps_one rfl 4 (.tmp 15) (.const (.bool false)) rfl HB.out ?off_4 ?cs_4 ?hx_4 ?hy_4 ?hv_4 ?h1_4 ?hi_4 ?hl_4 (stL ⟨regs, ⟨p0, p1, p2, p3, p4, p5, p6⟩, ⟨m0, m1, m2, m3, m4, m5, m6⟩, mtdc, mscr, ⟨p0, p1, p2, p3, p4, p5, p6⟩, cause, false, on, ha⟩) ?hL_4 ?_); (case hx_4 => rfl); (case hy_4 => rfl); (case hv_4 => rfl); (case h1_4 => rfl); (case hi_4 => exact size4); (case hl_4 => exact Nat.le_of_ble_eq_true rfl); (case hL_4 => rfl); intro w9 hb9 hf9; replace HF := Aside0.mk (HF.out.trans hf9); replace HB := Aside0.mk hb9; clear hb9 hf9) | ((with_reducible refine wps_agg rfl 27 (.tmp 16) (.tmp 11) rfl HB.out ?off_5 ?cs_5 ?hx_5 ?hy_5 ?hi_5 ?h1_5 ?hl_5 (stL ⟨regs, ⟨m0, m1, m2, m3, m4, m5, m6⟩, ⟨m0, m1, m2, m3, m4, m5, m6⟩, mtdc, mscr, ⟨p0, p1, p2, p3, p4, p5, p6⟩, cause, false, on, ha⟩) ?hL_5 ?_); (case hx_5 => rfl); (case hy_5 => rfl); (case hi_5 => exact size31); (case h1_5 => simp [Value.oneCell']); (case hl_5 => exact Nat.le_of_ble_eq_true rfl); (case hL_5 => rfl); intro w9 hb9 hf9; replace HF := Aside0.mk (HF.out.trans hf9); replace HB := Aside0.mk hb9; clear hb9 hf9))
  have hb := HB.out
  have y0 := hb.cell 112 _ rfl
  have y3 := hb.cell 115 _ rfl
  clear hb x112 x113 x114 x115 x116 x117 x118 x119 x120 x121 x122 x123 x124 x125 x148
  cases m0
  · obtain rfl : true = hv := HHV.out
    go_upto_region 3 with (first | ((with_reducible refine wps_one rfl 4 (.tmp 27) (.tmp 26) rfl HB.out ?off_6 ?cs_6 ?hx_6 ?hy_6 ?hv_6 ?h1_6 ?hi_6 ?hl_6 (stL ⟨regs, ⟨false, m1, m2, m3, m4, m5, m6⟩, ⟨false, m1, m2, m3, m4, m5, m6⟩, mtdc, mscr, ⟨p0, p1, p2, p3, p4, p5, p6⟩, cause, false, on, true⟩) ?hL_6 ?_); (case hx_6 => rfl); (case hy_6 => rfl); (case hv_6 => rfl); (case h1_6 => rfl); (case hi_6 => exact size4); (case hl_6 => exact Nat.le_of_ble_eq_true rfl); (case hL_6 => rfl); intro w9 hb9 hf9; replace HF := Aside0.mk (HF.out.trans hf9); replace HB := Aside0.mk hb9; clear hb9 hf9))
    have HB2' := Aside0.mk (HB2.out.fix HF.out (by omega))
    go_wp2_with (first | ((with_reducible refine wpl_agg rfl 30 (.tmp 2) rfl HB.out ?off_7 (stL ⟨regs, ⟨false, m1, m2, m3, m4, m5, m6⟩, ⟨false, m1, m2, m3, m4, m5, m6⟩, mtdc, mscr, ⟨p0, p1, p2, p3, p4, p5, p6⟩, cause, false, on, true⟩) ?hx_7 ?hc_7 _ Try.underlying30 ?hd_7 ?hi_7 ?_); (case hx_7 => rfl); (case hc_7 => rfl); (case hd_7 => rfl); (case hi_7 => exact size34)) | ((with_reducible refine wps_agg rfl 30 (.tmp 4) (.tmp 28) rfl HB2'.out ?off_8 ?cs_8 ?hx_8 ?hy_8 ?hi_8 ?h1_8 ?hl_8 (stL ⟨regs, ⟨false, m1, m2, m3, m4, m5, m6⟩, ⟨false, m1, m2, m3, m4, m5, m6⟩, mtdc, mscr, ⟨p0, p1, p2, p3, p4, p5, p6⟩, cause, false, on, true⟩) ?hL_8 ?_); (case hx_8 => rfl); (case hy_8 => rfl); (case hi_8 => exact size34); (case h1_8 => exact stL_one _); (case hl_8 => exact Nat.le_of_ble_eq_true rfl); (case hL_8 => rfl); intro w9 hb9 hf9; have HG := Aside0.mk hb9; have HFG := Aside0.mk hf9; clear hb9 hf9))
    exact retAgg34 rfl rfl rfl HG.out (stL_len _) ⟨rfl, below_two HB1.out HF.out HFG.out⟩
  · by_cases h3 : m3 = 0
    · subst h3
      obtain rfl : false = hv := HHV.out
      go_upto_region 3 with (first | ((with_reducible refine wps_one rfl 4 (.tmp 27) (.tmp 26) rfl HB.out ?off_9 ?cs_9 ?hx_9 ?hy_9 ?hv_9 ?h1_9 ?hi_9 ?hl_9 (stL ⟨regs, ⟨true, m1, m2, 0, m4, m5, m6⟩, ⟨true, m1, m2, 0, m4, m5, m6⟩, mtdc, mscr, ⟨p0, p1, p2, p3, p4, p5, p6⟩, cause, false, on, false⟩) ?hL_9 ?_); (case hx_9 => rfl); (case hy_9 => rfl); (case hv_9 => rfl); (case h1_9 => rfl); (case hi_9 => exact size4); (case hl_9 => exact Nat.le_of_ble_eq_true rfl); (case hL_9 => rfl); intro w9 hb9 hf9; replace HF := Aside0.mk (HF.out.trans hf9); replace HB := Aside0.mk hb9; clear hb9 hf9))
      have HB2' := Aside0.mk (HB2.out.fix HF.out (by omega))
      go_wp2_with (first | ((with_reducible refine wpl_agg rfl 30 (.tmp 2) rfl HB.out ?off_10 (stL ⟨regs, ⟨true, m1, m2, 0, m4, m5, m6⟩, ⟨true, m1, m2, 0, m4, m5, m6⟩, mtdc, mscr, ⟨p0, p1, p2, p3, p4, p5, p6⟩, cause, false, on, false⟩) ?hx_10 ?hc_10 _ Try.underlying30 ?hd_10 ?hi_10 ?_); (case hx_10 => rfl); (case hc_10 => rfl); (case hd_10 => rfl); (case hi_10 => exact size34)) | ((with_reducible refine wps_agg rfl 30 (.tmp 4) (.tmp 28) rfl HB2'.out ?off_11 ?cs_11 ?hx_11 ?hy_11 ?hi_11 ?h1_11 ?hl_11 (stL ⟨regs, ⟨true, m1, m2, 0, m4, m5, m6⟩, ⟨true, m1, m2, 0, m4, m5, m6⟩, mtdc, mscr, ⟨p0, p1, p2, p3, p4, p5, p6⟩, cause, false, on, false⟩) ?hL_11 ?_); (case hx_11 => rfl); (case hy_11 => rfl); (case hi_11 => exact size34); (case h1_11 => exact stL_one _); (case hl_11 => exact Nat.le_of_ble_eq_true rfl); (case hL_11 => rfl); intro w9 hb9 hf9; have HG := Aside0.mk hb9; have HFG := Aside0.mk hf9; clear hb9 hf9))
      exact retAgg34 rfl rfl rfl HG.out (stL_len _) ⟨rfl, below_two HB1.out HF.out HFG.out⟩
    · obtain rfl : true = hv := by rw [← HHV.out]; simp [h3]
      have d1 : (m3 == 0) = false := beq_eq_false_iff_ne.2 h3
      have d2 : (m3 != 0) = true := by simp [h3]
      go_upto_region 3 with (first | ((with_reducible refine wps_one rfl 4 (.tmp 27) (.tmp 26) rfl HB.out ?off_12 ?cs_12 ?hx_12 ?hy_12 ?hv_12 ?h1_12 ?hi_12 ?hl_12 (stL ⟨regs, ⟨true, m1, m2, m3, m4, m5, m6⟩, ⟨true, m1, m2, m3, m4, m5, m6⟩, mtdc, mscr, ⟨p0, p1, p2, p3, p4, p5, p6⟩, cause, false, on, true⟩) ?hL_12 ?_); (case hx_12 => rfl); (case hy_12 => rfl); (case hv_12 => rfl); (case h1_12 => rfl); (case hi_12 => exact size4); (case hl_12 => exact Nat.le_of_ble_eq_true rfl); (case hL_12 => rfl); intro w9 hb9 hf9; replace HF := Aside0.mk (HF.out.trans hf9); replace HB := Aside0.mk hb9; clear hb9 hf9))
      have HB2' := Aside0.mk (HB2.out.fix HF.out (by omega))
      go_wp2_with (first | ((with_reducible refine wpl_agg rfl 30 (.tmp 2) rfl HB.out ?off_13 (stL ⟨regs, ⟨true, m1, m2, m3, m4, m5, m6⟩, ⟨true, m1, m2, m3, m4, m5, m6⟩, mtdc, mscr, ⟨p0, p1, p2, p3, p4, p5, p6⟩, cause, false, on, true⟩) ?hx_13 ?hc_13 _ Try.underlying30 ?hd_13 ?hi_13 ?_); (case hx_13 => rfl); (case hc_13 => rfl); (case hd_13 => rfl); (case hi_13 => exact size34)) | ((with_reducible refine wps_agg rfl 30 (.tmp 4) (.tmp 28) rfl HB2'.out ?off_14 ?cs_14 ?hx_14 ?hy_14 ?hi_14 ?h1_14 ?hl_14 (stL ⟨regs, ⟨true, m1, m2, m3, m4, m5, m6⟩, ⟨true, m1, m2, m3, m4, m5, m6⟩, mtdc, mscr, ⟨p0, p1, p2, p3, p4, p5, p6⟩, cause, false, on, true⟩) ?hL_14 ?_); (case hx_14 => rfl); (case hy_14 => rfl); (case hi_14 => exact size34); (case h1_14 => exact stL_one _); (case hl_14 => exact Nat.le_of_ble_eq_true rfl); (case hL_14 => rfl); intro w9 hb9 hf9; have HG := Aside0.mk hb9; have HFG := Aside0.mk hf9; clear hb9 hf9))
      exact retAgg34 rfl rfl rfl HG.out (stL_len _) ⟨rfl, below_two HB1.out HF.out HFG.out⟩
end Go.Proofs.Ytadbonmkockakaa.Cp

/- The machine's number, link, operand, size by contract. Written by wip/r5/mae.py. -/
namespace Go.Proofs.Ytadbonmkockakaa.Cp
open Go.RowKit Go.Proofs.YtadbonmkockakaaW.PrintWords Go.Proofs.YtadbonmkockakaaW.PrintLast Go.Proofs.YtadbonmkockakaaW.PrintMore Go.Proofs.Ytadbonmkockakaa.QCb Go.Proofs.Ytadbonmkockakaa.QCe
set_option linter.unusedVariables false
set_option linter.unusedSimpArgs false
set_option maxRecDepth 100000 in
set_option maxHeartbeats 4000000 in
theorem mnumber_calls (g : Nat) (x : Mc) (k : Nat) (hk : k < 16) (n : Int) (w : World) (hx : BL w g 51 (mcL x)) :
    Calls Try.prog 35 #[.pointer (some ⟨g, 0, none⟩), .int .u8 (k : Int), .int .u32 n] w fun e w' => e = .returned (.tuple #[]) ∧ Fix (· = g) w w' ∧ BL w' g 51 (mcL (putM x k (intC n))) := by
  have HX := Aside0.mk hx
  have HI : Aside0 (∀ w, Calls Try.prog 62 #[.int .u32 n] w fun r w' => r = .returned (.agg #[.bool false, .int .u32 n, .int .u8 0, .int .u8 0, .int .u8 0, .int .u16 0, .int .u16 0]) ∧ Below w.heap.size w w') := ⟨fun w => int_calls n w⟩
  have HP : Aside0 (∀ w, BL w g 51 (mcL x) → Calls Try.prog 36 #[.pointer (some ⟨g, 0, none⟩), .int .u8 (k : Int), .agg #[.bool false, .int .u32 n, .int .u8 0, .int .u8 0, .int .u8 0, .int .u16 0, .int .u16 0]] w fun e w' => e = .returned (.tuple #[]) ∧ Fix (· = g) w w' ∧ BL w' g 51 (mcL (putM x k (intC n)))) := ⟨fun w h => put_calls g x k hk (intC n) w h⟩
  clear hx
  go_enter Try.func35, Try.ntmps35
  go_wp2_with (first | (go_at_call 62; (with_reducible refine (HI.out _).mono ?_); rintro _ w1 ⟨rfl, hb⟩; have HB1 := Aside0.mk hb; clear hb) | (go_at_call 36; (with_reducible refine (HP.out _ (HX.out.below HB1.out)).mono ?_); rintro _ w2 ⟨rfl, hf, hb⟩; have HB2 := Aside0.mk hb; have HF2 := Aside0.mk ((Fix.of HB1.out).trans hf); clear hb hf))
  go_end0
  exact ⟨rfl, HF2.out, HB2.out⟩
def linkS (s : St) : Cap := sealS (setAddrS s.pcc ((s.pcc.addr + 4) % 4294967296)) (if s.on = true then 3 else 2)
set_option maxRecDepth 100000 in
set_option maxHeartbeats 4000000 in
theorem link_true (g : Nat) (x : Mc) (ok : OkC x.was.pcc) (hon : x.was.on = true) (w : World) (hx : BL w g 51 (mcL x)) :
    Calls Try.prog 37 #[.pointer (some ⟨g, 0, none⟩)] w fun e w' => e = .returned (capV (linkS x.was)) ∧ Below w.heap.size w w' := by
  have HX := Aside0.mk hx
  obtain ⟨⟨f0, f1, f2, f3, f4, f5, f6⟩, hf⟩ : ∃ c, setAddrS x.was.pcc ((x.was.pcc.addr + 4) % 4294967296) = c := ⟨_, rfl⟩
  have HFR : Aside0 (∀ w, BL w g 51 (mcL x) → Calls Try.prog 24 #[.pointer (some ⟨g, 0, none⟩), .int .i32 4] w fun e w' => e = .returned (.agg #[.bool f0, .int .u32 f1, .int .u8 f2, .int .u8 f3, .int .u8 f4, .int .u16 f5, .int .u16 f6]) ∧ Below w.heap.size w w') := ⟨fun w h => by have h2 := from_calls g x 4 ok w h; rw [hf] at h2; exact h2⟩
  have hl : linkS x.was = sealS ⟨f0, f1, f2, f3, f4, f5, f6⟩ 3 := by unfold linkS; rw [hf, hon]; rfl
  rw [hl]
  obtain ⟨⟨u0, u1, u2, u3, u4, u5, u6⟩, hu⟩ : ∃ c, sealS ⟨f0, f1, f2, f3, f4, f5, f6⟩ 3 = c := ⟨_, rfl⟩
  rw [hu]
  have HSE : Aside0 (∀ w, Calls Try.prog 63 #[.agg #[.bool f0, .int .u32 f1, .int .u8 f2, .int .u8 f3, .int .u8 f4, .int .u16 f5, .int .u16 f6], .int .u32 3] w fun r w' => r = .returned (.agg #[.bool u0, .int .u32 u1, .int .u8 u2, .int .u8 u3, .int .u8 u4, .int .u16 u5, .int .u16 u6]) ∧ Below w.heap.size w w') := ⟨fun w => by have h2 := seal_calls f0 f1 f2 f3 f4 f5 f6 3 (by omega) w; rw [hu] at h2; exact h2⟩
  have HON := Aside0.mk hon
  clear hx hf hl hu hon ok
  go_enter Try.func37, Try.ntmps37
  go_upto_region 2 with fail
  generalize hw0 : w.alloc (Obj.cells #[.bool false, .int .u32 0, .int .u8 0, .int .u8 0, .int .u8 0, .int .u16 0, .int .u16 0] 27) = w0
  have HB0 : Aside0 (Below w.heap.size w w0) := ⟨by rw [← hw0]; exact below_alloc (Below.refl _ _) _⟩
  have K0 : Aside0 (w0.heap[w.heap.size]? = some (.cells #[.bool false, .int .u32 0, .int .u8 0, .int .u8 0, .int .u8 0, .int .u16 0, .int .u16 0] 27 (0, 0))) := ⟨by rw [← hw0]; exact heap_alloc_new _ _⟩
  have e0 := (HX.out.below HB0.out).cell 149 _ rfl
  rw [HON.out] at e0
  clear hw0
  go_wp2_with (first | (go_at_call 24; (with_reducible refine (HFR.out _ (HX.out.below HB0.out)).mono ?_); rintro _ w1 ⟨rfl, hb⟩; have K1 := Aside0.mk (blkK hb K0.out); have HB1 := Aside0.mk (HB0.out.trans (hb.mono HB0.out.size)); clear hb) | (go_at_call 63; (with_reducible refine (HSE.out _).mono ?_); rintro _ w2 ⟨rfl, hb⟩; have K2 := Aside0.mk (blkK hb K1.out); have HB2 := Aside0.mk (HB1.out.trans (hb.mono HB1.out.size)); clear hb; have k2 := K2.out; obtain ⟨d0, d1, d2, d3, d4, d5, d6, z0, z1, z2, z3, z4, z5, z6⟩ := seven k2; clear k2))
  exact bodyPost_ret (v := .agg #[.bool u0, .int .u32 u1, .int .u8 u2, .int .u8 u3, .int .u8 u4, .int .u16 u5, .int .u16 u6]) (by simp [results, Try.results37, go_sem, d0, d1, d2, d3, d4, d5, d6]) rfl ⟨rfl, (by repeat (first | (with_reducible exact HB2.out) | (with_reducible refine Below.setCell ?_ (by simp) _)))⟩
set_option maxRecDepth 100000 in
set_option maxHeartbeats 4000000 in
theorem link_false (g : Nat) (x : Mc) (ok : OkC x.was.pcc) (hon : x.was.on = false) (w : World) (hx : BL w g 51 (mcL x)) :
    Calls Try.prog 37 #[.pointer (some ⟨g, 0, none⟩)] w fun e w' => e = .returned (capV (linkS x.was)) ∧ Below w.heap.size w w' := by
  have HX := Aside0.mk hx
  obtain ⟨⟨f0, f1, f2, f3, f4, f5, f6⟩, hf⟩ : ∃ c, setAddrS x.was.pcc ((x.was.pcc.addr + 4) % 4294967296) = c := ⟨_, rfl⟩
  have HFR : Aside0 (∀ w, BL w g 51 (mcL x) → Calls Try.prog 24 #[.pointer (some ⟨g, 0, none⟩), .int .i32 4] w fun e w' => e = .returned (.agg #[.bool f0, .int .u32 f1, .int .u8 f2, .int .u8 f3, .int .u8 f4, .int .u16 f5, .int .u16 f6]) ∧ Below w.heap.size w w') := ⟨fun w h => by have h2 := from_calls g x 4 ok w h; rw [hf] at h2; exact h2⟩
  have hl : linkS x.was = sealS ⟨f0, f1, f2, f3, f4, f5, f6⟩ 2 := by unfold linkS; rw [hf, hon]; rfl
  rw [hl]
  obtain ⟨⟨u0, u1, u2, u3, u4, u5, u6⟩, hu⟩ : ∃ c, sealS ⟨f0, f1, f2, f3, f4, f5, f6⟩ 2 = c := ⟨_, rfl⟩
  rw [hu]
  have HSE : Aside0 (∀ w, Calls Try.prog 63 #[.agg #[.bool f0, .int .u32 f1, .int .u8 f2, .int .u8 f3, .int .u8 f4, .int .u16 f5, .int .u16 f6], .int .u32 2] w fun r w' => r = .returned (.agg #[.bool u0, .int .u32 u1, .int .u8 u2, .int .u8 u3, .int .u8 u4, .int .u16 u5, .int .u16 u6]) ∧ Below w.heap.size w w') := ⟨fun w => by have h2 := seal_calls f0 f1 f2 f3 f4 f5 f6 2 (by omega) w; rw [hu] at h2; exact h2⟩
  have HON := Aside0.mk hon
  clear hx hf hl hu hon ok
  go_enter Try.func37, Try.ntmps37
  go_upto_region 2 with fail
  generalize hw0 : w.alloc (Obj.cells #[.bool false, .int .u32 0, .int .u8 0, .int .u8 0, .int .u8 0, .int .u16 0, .int .u16 0] 27) = w0
  have HB0 : Aside0 (Below w.heap.size w w0) := ⟨by rw [← hw0]; exact below_alloc (Below.refl _ _) _⟩
  have K0 : Aside0 (w0.heap[w.heap.size]? = some (.cells #[.bool false, .int .u32 0, .int .u8 0, .int .u8 0, .int .u8 0, .int .u16 0, .int .u16 0] 27 (0, 0))) := ⟨by rw [← hw0]; exact heap_alloc_new _ _⟩
  have e0 := (HX.out.below HB0.out).cell 149 _ rfl
  rw [HON.out] at e0
  clear hw0
  go_wp2_with (first | (go_at_call 24; (with_reducible refine (HFR.out _ (HX.out.below HB0.out)).mono ?_); rintro _ w1 ⟨rfl, hb⟩; have K1 := Aside0.mk (blkK hb K0.out); have HB1 := Aside0.mk (HB0.out.trans (hb.mono HB0.out.size)); clear hb) | (go_at_call 63; (with_reducible refine (HSE.out _).mono ?_); rintro _ w2 ⟨rfl, hb⟩; have K2 := Aside0.mk (blkK hb K1.out); have HB2 := Aside0.mk (HB1.out.trans (hb.mono HB1.out.size)); clear hb; have k2 := K2.out; obtain ⟨d0, d1, d2, d3, d4, d5, d6, z0, z1, z2, z3, z4, z5, z6⟩ := seven k2; clear k2))
  exact bodyPost_ret (v := .agg #[.bool u0, .int .u32 u1, .int .u8 u2, .int .u8 u3, .int .u8 u4, .int .u16 u5, .int .u16 u6]) (by simp [results, Try.results37, go_sem, d0, d1, d2, d3, d4, d5, d6]) rfl ⟨rfl, (by repeat (first | (with_reducible exact HB2.out) | (with_reducible refine Below.setCell ?_ (by simp) _)))⟩
theorem link_calls (g : Nat) (x : Mc) (ok : OkC x.was.pcc) (w : World) (hx : BL w g 51 (mcL x)) :
    Calls Try.prog 37 #[.pointer (some ⟨g, 0, none⟩)] w fun e w' => e = .returned (capV (linkS x.was)) ∧ Below w.heap.size w w' := by
  cases hon : x.was.on
  · exact link_false g x ok hon w hx
  · exact link_true g x ok hon w hx
def operandS (op imm b : Int) : Int := if 21 ≤ op ∧ op ≤ 29 then imm % 4294967296 else b
set_option maxRecDepth 100000 in
set_option maxHeartbeats 4000000 in
theorem operand_calls (op rd rs1 rs2 imm : Int) (tag : Bool) (a p ty e b t : Int) (w : World) :
    Calls Try.prog 70 #[.agg #[.int .u8 op, .int .u8 rd, .int .u8 rs1, .int .u8 rs2, .int .i32 imm], .agg #[.bool tag, .int .u32 a, .int .u8 p, .int .u8 ty, .int .u8 e, .int .u16 b, .int .u16 t]] w fun r w' => r = .returned (.int .u32 (operandS op imm a)) ∧ Below w.heap.size w w' := by
  by_cases h1 : 21 ≤ op
  · by_cases h2 : op ≤ 29
    · have hr : operandS op imm a = imm % 4294967296 := if_pos ⟨h1, h2⟩
      rw [hr]
      have d1 : decide (21 ≤ op) = true := decide_eq_true h1
      have d2 : decide (op ≤ 29) = true := decide_eq_true h2
      go_enter Try.func70, Try.ntmps70
      go_wp2
      go_ret
      exact ⟨rfl, below_alloc (below_alloc (Below.refl _ _) _) _⟩
    · have hr : operandS op imm a = a := if_neg (fun h => h2 h.2)
      rw [hr]
      have d1 : decide (21 ≤ op) = true := decide_eq_true h1
      have d2 : decide (op ≤ 29) = false := decide_eq_false h2
      go_enter Try.func70, Try.ntmps70
      go_wp2
      go_ret
      exact ⟨rfl, below_alloc (below_alloc (Below.refl _ _) _) _⟩
  · have hr : operandS op imm a = a := if_neg (fun h => h1 h.1)
    rw [hr]
    have d1 : decide (21 ≤ op) = false := decide_eq_false h1
    go_enter Try.func70, Try.ntmps70
    go_wp2
    go_ret
    exact ⟨rfl, below_alloc (below_alloc (Below.refl _ _) _) _⟩
end Go.Proofs.Ytadbonmkockakaa.Cp

/- What is touched, told by a row of the call's own; the machine's touch by contract. Written by wip/r5/tch.py. -/
namespace Go.Proofs.Ytadbonmkockakaa.Cp
open Go.RowKit Go.Proofs.YtadbonmkockakaaW.PrintWords Go.Proofs.YtadbonmkockakaaW.PrintLast Go.Proofs.YtadbonmkockakaaW.PrintMore Go.Proofs.Ytadbonmkockakaa.QCb Go.Proofs.Ytadbonmkockakaa.QCe
set_option linter.unusedVariables false
set_option linter.unusedSimpArgs false
structure Tch where
  what : Int
  at_ : Int
  n : Int
deriving DecidableEq
def k52 : Kd Tch := Kd.iso (Kd.pair (Kd.int .i64) (Kd.pair (Kd.int .u32) (Kd.int .i64))) (fun x : Tch => (x.what, x.at_, x.n))
theorem k52_mkM (w : World) (base : Nat) (ok : Nat → Prop) (x : Tch) : k52.M w base ok x [.int .i64 x.what, .int .u32 x.at_, .int .i64 x.n] := ⟨[.int .i64 x.what], [.int .u32 x.at_, .int .i64 x.n], rfl, rfl, [.int .u32 x.at_], [.int .i64 x.n], rfl, rfl, rfl⟩
theorem k52_open {w : World} {x : Tch} {cs : List Value} (h : k52.K w x cs) : cs = [.int .i64 x.what, .int .u32 x.at_, .int .i64 x.n] := by
  obtain ⟨c0, c1, rfl, h0, c2, c3, rfl, h2, h3⟩ := h
  rw [show c0 = _ from h0, show c2 = _ from h2, show c3 = _ from h3]; rfl
theorem info54 : (Try.prog.info? 54).map (fun i => (i.zero, i.size, i.bytes)) = some (some (.agg #[.int .i64 0, .int .u32 0, .int .i64 0]), 3, 24) := by kernel_rfl
theorem size46 : (Try.prog.info? 36).map (·.size) = some 1 := by kernel_rfl
theorem Fix.grown {w w1 : World} {row : Option Nat} (h : w.grownBy w1 row) : Fix (fun k => some k = row) w w1 := ⟨h.os, h.tape, h.output, h.size, fun k hk hs => h.block k hk hs⟩
theorem row_far {w w' : World} {base g : Nat} {v : Value} {T : List Tch} {L : List Value} (h : k52.R 54 w base (fun _ => True) v T) (hg : BL w g 51 L) (hf : Fix (· = g) w w') : k52.R 54 w' base (fun _ => True) v T :=
  Kd.R_mono (Kd.R_step (Kd.R_types h (show w.heap[g]? = some (.cells _ 51 (0, 0)) from hg) (by decide)) (fun k hk hlt => hf.block k hlt hk.2)) (fun _ _ => trivial)
set_option maxRecDepth 100000 in
set_option maxHeartbeats 4000000 in
theorem touch_calls (g : Nat) (x : Mc) (what at_ n : Int) (T : List Tch) (hT : T.length ≤ 1000) (w : World) (base : Nat) (hbase : base ≤ w.heap.size) (hx : BL w g 51 (mcL x)) (hr : k52.R 54 w base (fun _ => True) x.tv T) :
    Calls Try.prog 22 #[.pointer (some ⟨g, 0, none⟩), .int .i64 what, .int .u32 at_, .int .i64 n] w fun e w' => e = .returned (.tuple #[]) ∧ ∃ tv, BL w' g 51 (mcL { x with tv := tv }) ∧ k52.R 54 w' base (fun _ => True) tv (T ++ [⟨what, at_, n⟩]) ∧ Fix (fun k => k = g ∨ some k = x.tv.ownBlock) w w' := by
  have HX := Aside0.mk hx
  have HR := Aside0.mk hr
  obtain ⟨A, c, hv⟩ := Kd.R_slice hr
  have HG : Aside0 (some g ≠ x.tv.ownBlock) := ⟨Kd.R_ne hr (show w.heap[g]? = some (.cells _ 51 (0, 0)) from hx) (by decide)⟩
  have HV := Aside0.mk hv
  have HBS := Aside0.mk hbase
  have HTL := Aside0.mk hT
  have e0 : w.cell? ⟨g, 304, none⟩ = some (.slice A T.length c) := by rw [← hv]; exact hx.cell 304 _ rfl
  clear hx hr hv hbase hT
  go_enter Try.func22, Try.ntmps22
  go_wp2_with ((with_reducible refine gate_builtin (b := .append) (xs := #[.tmp 13, .tmp 18]) rfl ?_); at_builtin; refine Aside0.out ?_)
  refine Aside0.mk ?_
  refine Kd.R_append k52 (w0 := w) base rfl (.tmp 13) (.tmp 18) 36 54 (.agg #[.int .i64 0, .int .u32 0, .int .i64 0]) 24 rfl Try.underlying36 info54 rfl (by decide) (by omega) (.slice A T.length c) T ⟨what, at_, n⟩ [.int .i64 what, .int .u32 at_, .int .i64 n] (fun _ => True) (fun _ => False) rfl ?aX ?aP (fun _ hk => hk.elim) ?aF ?aO ?aB ?aS ?aL ?_
  case aX => simp [Act.eval]
  case aP => exact k52_mkM _ _ _ ⟨what, at_, n⟩
  case aB => exact Below.refl _ _
  case aF => exact (fun _ _ => trivial)
  case aO => rw [← HV.out]; exact HR.out
  case aS => exact HBS.out
  case aL => have := HTL.out; omega
  intro v7 w7 ho hb hg hat
  rw [← HV.out] at hg
  have HO := Aside0.mk ho
  have HF7 : Aside0 (Fix (fun k => k = g ∨ some k = x.tv.ownBlock) w w7) := ⟨(Fix.grown hg).mono (fun k hk => .inr hk)⟩
  have HX7 : Aside0 (BL w7 g 51 (mcL x)) := ⟨HX.out.fix (Fix.grown hg) HG.out⟩
  obtain ⟨A7, n7, c7, rfl⟩ : ∃ A n c, v7 = .slice A n c := by obtain ⟨A7, c7, h⟩ := Kd.R_slice ho; exact ⟨_, _, _, h⟩
  have e7 := HX7.out.cell 304 _ rfl
  clear ho hb hg hat e0
  go_wp2_with (first | ((with_reducible refine wps_one rfl 36 (.tmp 22) (.tmp 19) rfl HX7.out ?off_1 ?cs_1 ?hx_1 ?hy_1 ?hv_1 ?h1_1 ?hi_1 ?hl_1 (mcL { x with tv := Value.slice A7 n7 c7 }) ?hL_1 ?_); (case hx_1 => rfl); (case hy_1 => rfl); (case hv_1 => rfl); (case h1_1 => rfl); (case hi_1 => exact size46); (case hl_1 => exact Nat.le_of_ble_eq_true rfl); (case hL_1 => rfl); intro w9 hb9 hf9; have HX8 := Aside0.mk hb9; have HF8 := Aside0.mk (HF7.out.trans (hf9.mono (fun k hk => .inl hk))); have HO8 : Aside0 (k52.R 54 w9 base (fun _ => True) (Value.slice A7 n7 c7) (T ++ [⟨what, at_, n⟩])) := ⟨row_far HO.out HX7.out hf9⟩; clear hb9 hf9))
  go_end0
  refine ⟨rfl, _, HX8.out, ?_, HF8.out⟩
  exact HO8.out
end Go.Proofs.Ytadbonmkockakaa.Cp
