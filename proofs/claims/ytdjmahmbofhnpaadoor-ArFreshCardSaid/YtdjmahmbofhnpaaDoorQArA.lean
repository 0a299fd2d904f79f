/- Small contracts of archives: a padded text, a head, a name, a text with a 0 in it, four bytes. Condition: the variables that the library reads hold what the program lays. -/
import Derived.Test.YtdjmahmbofhnpaaDoorQArP
import Derived.Test.YtdjmahmbofhnpaaDoorQShelf
import Derived.Test.YtdjmahmbofhnpaaDoorQArx13
import Derived.Lib.ItoaLen
import Derived.Laws.Concat
import Derived.Laws.EntriesVeiled
import Derived.Deep.QuietTactic
import Derived.BigQuiet
import Derived.Outline
namespace Go.Proofs.YtdjmahmbofhnpaaDoor.Ar
open Go.RowKit Go.Proofs.YtdjmahmbofhnpaaDoorW.PrintWords Go.Proofs.YtdjmahmbofhnpaaDoorW.PrintLast Go.Proofs.YtdjmahmbofhnpaaDoor.QAr
set_option linter.unusedVariables false
set_option linter.unusedSimpArgs false
/-- What the library's functions read of the package-level variables. -/
structure Vars (w : World) : Prop where
  tab : Lib.TabIs Tryd.prog w "internal/strconv.uint64pow10" .u64 Lib.pow10Tab
  syn : ∃ te pe, w.cell? ⟨1, 0, none⟩ = some (.iface te pe)
  rng : ∃ te pe, w.cell? ⟨2, 0, none⟩ = some (.iface te pe)
theorem var_below {w w' : World} {name : String} {cs : Array Value} (h : w.var? Tryd.prog name = some cs) (hb : Below w.heap.size w w') : w'.var? Tryd.prog name = some cs := by
  unfold World.var? at h ⊢
  cases hg : Tryd.prog.globalNamed name with
  | none => rw [hg] at h; cases h
  | some g =>
    rw [hg] at h
    simp only [Option.bind_some] at h ⊢
    cases hh : w.heap[g]? with
    | none => rw [hh] at h; cases h
    | some o => rw [hb.block g (Array.getElem?_eq_some_iff.1 hh).1, hh]; rw [hh] at h; exact h
theorem Vars.below {w w' : World} (h : Vars w) (hb : Below w.heap.size w w') : Vars w' :=
  ⟨var_below h.tab hb, let ⟨a, b, c⟩ := h.syn; ⟨a, b, pw_cell_below hb c⟩, let ⟨a, b, c⟩ := h.rng; ⟨a, b, pw_cell_below hb c⟩⟩
theorem padS_size (s : ByteArray) (n : Nat) : (padS s n).size = s.size + (n - s.size) := by
  unfold padS; rw [ByteArray.size_append]; congr 1; show (List.replicate (n - s.size) (32 : UInt8)).toArray.size = _; simp
theorem rep32 (c : Nat) : (⟨(Lib.repeatL [32] c).toArray⟩ : ByteArray) = ⟨(List.replicate c (32 : UInt8)).toArray⟩ := by
  have := Lib.repeatL_replicate 32 1 c
  simp only [List.replicate_one, Nat.mul_one] at this
  rw [this]
set_option maxRecDepth 100000 in
set_option maxHeartbeats 4000000 in
theorem padded_calls (s : ByteArray) (n : Nat) (hs : s.size ≤ 140737488351233) (hn : n ≤ 1000) (w : World) :
    Calls Tryd.prog 35 #[.string s, .int .i64 n] w fun e w' => e = .returned (.string (padS s n)) ∧ Below w.heap.size w w' := by
  obtain ⟨r, hr⟩ : ∃ r, padS s n = r := ⟨_, rfl⟩
  rw [hr]
  have HR := Aside0.mk hr
  have RC := Aside0.mk (Tryd.strings_Repeat ⟨#[32]⟩ (n - s.size) w (by omega) (by show 1 * _ ≤ _; omega))
  have hq : ¬ (9223372036854775807 < s.size + (n - s.size)) := by omega
  have hmx : IntKind.i64.wrap ((n : Int) - (s.size : Int)) = (n : Int) - s.size := by rw [IntKind.wrap_i64]; omega
  have hm2 : max ((n : Int) - (s.size : Int)) 0 = ((n - s.size : Nat) : Int) := by omega
  clear hr
  go_enter Tryd.func35, Tryd.ntmps35
  go_wp2_with fail
  refine RC.out.mono ?_
  intro e w1 h1
  obtain ⟨h1, hb1⟩ := h1
  rw [rep32] at h1
  subst h1
  have HB := Aside0.mk hb1
  have hsz : (⟨(List.replicate (n - s.size) (32 : UInt8)).toArray⟩ : ByteArray).size = n - s.size := by show (List.replicate (n - s.size) (32 : UInt8)).toArray.size = _; simp
  obtain ⟨t, ht⟩ : ∃ t, (⟨(List.replicate (n - s.size) (32 : UInt8)).toArray⟩ : ByteArray) = t := ⟨_, rfl⟩
  rw [ht] at hsz ⊢
  have hq2 : ¬ (9223372036854775807 < s.size + t.size) := by omega
  have HT := Aside0.mk ht
  clear hb1 hmx hm2 hsz ht
  simp only []
  go_wp2_with fail
  go_ret
  exact ⟨by rw [← HR.out, ← HT.out]; rfl, HB.out⟩
theorem ret_str {a b : ByteArray} (h : a = b) : Ending.returned (.string a) = .returned (.string b) := by rw [h]
theorem decS_size (n : Nat) (h : n ≤ 9223372036854775807) : (decS n).size ≤ 21 := by
  have := Lib.itoa_length_le (n : Int) (by omega) (by omega)
  rw [Lib.itoa_nonneg] at this
  show (Lib.decDigits n).toArray.size ≤ 21
  simpa using this
theorem grow_below {w w' : World} (h : ∃ k os, w' = Go.Sort.grow (w.drewN k) os) : Below w.heap.size w w' := by
  obtain ⟨k, os, rfl⟩ := h
  exact ⟨rfl, rfl, rfl, by simp [Go.Sort.grow], fun k hk => by simp [Go.Sort.grow, Array.getElem?_append_left hk]⟩
set_option maxRecDepth 100000 in
set_option maxHeartbeats 8000000 in
theorem head_calls (s : ByteArray) (n : Nat) (hs : s.size ≤ 140737488351233) (hn : n ≤ 9223372036854775807) (w : World) (hv : Vars w) :
    Calls Tryd.prog 22 #[.string s, .int .i64 n] w fun e w' => e = .returned (.string (headS s n)) ∧ Below w.heap.size w w' := by
  obtain ⟨r, hr⟩ : ∃ r, headS s n = r := ⟨_, rfl⟩
  rw [hr]
  have HR := Aside0.mk hr
  have HV := Aside0.mk hv
  have s0 := padS_size s 16
  have s1 := padS_size z1 12
  have s2 := padS_size z1 6
  have s3 := padS_size z1 8
  have s4 := padS_size (decS n) 10
  have s5 := decS_size n hn
  have sz : z1.size = 1 := rfl
  have P0 := Aside0.mk (fun w => padded_calls s 16 hs (by decide) w)
  have P1 := Aside0.mk (fun w => padded_calls z1 12 (by decide) (by decide) w)
  have P2 := Aside0.mk (fun w => padded_calls z1 6 (by decide) (by decide) w)
  have P3 := Aside0.mk (fun w => padded_calls z1 8 (by decide) (by decide) w)
  have P4 := Aside0.mk (fun w => padded_calls (decS n) 10 (by omega) (by decide) w)
  obtain ⟨p0, h0⟩ : ∃ p, padS s 16 = p := ⟨_, rfl⟩
  obtain ⟨p1, h1⟩ : ∃ p, padS z1 12 = p := ⟨_, rfl⟩
  obtain ⟨p2, h2⟩ : ∃ p, padS z1 6 = p := ⟨_, rfl⟩
  obtain ⟨p3, h3⟩ : ∃ p, padS z1 8 = p := ⟨_, rfl⟩
  obtain ⟨p4, h4⟩ : ∃ p, padS (decS n) 10 = p := ⟨_, rfl⟩
  rw [h0] at s0 P0
  rw [h1] at s1 P1
  rw [h2] at s2 P2
  rw [h3] at s3 P3
  rw [h4] at s4 P4
  have q1 : ¬ (9223372036854775807 < p0.size + p1.size) := by omega
  have q2 : ¬ (9223372036854775807 < p0.size + p1.size + p2.size) := by omega
  have q3 : ¬ (9223372036854775807 < p0.size + p1.size + p2.size + p2.size) := by omega
  have q4 : ¬ (9223372036854775807 < p0.size + p1.size + p2.size + p2.size + p3.size) := by omega
  have q5 : ¬ (9223372036854775807 < p0.size + p1.size + p2.size + p2.size + p3.size + p4.size) := by omega
  have q6 : ¬ (9223372036854775807 < p0.size + p1.size + p2.size + p2.size + p3.size + p4.size + 2) := by omega
  have HH : Aside0 ((((((p0 ++ p1) ++ p2) ++ p2) ++ p3) ++ p4) ++ (⟨#[96, 10]⟩ : ByteArray) = r) := ⟨by rw [← hr, ← h0, ← h1, ← h2, ← h3, ← h4]; rfl⟩
  have IT := Aside0.mk (fun w hv => Tryd.strconv_Itoa (n : Int) (by omega) (by omega) w hv)
  clear hr hv h0 h1 h2 h3 h4 s0 s1 s2 s3 s4 s5 sz
  go_enter Tryd.func22, Tryd.ntmps22
  go_wp2_with fail
  refine (P0.out _).mono ?_
  intro e w1 h1
  obtain ⟨h1, b1⟩ := h1
  subst h1
  have B1 := Aside0.mk b1
  clear b1
  simp only []
  go_wp2_with fail
  refine (P1.out _).mono ?_
  intro e w2 h2
  obtain ⟨h2, b2⟩ := h2
  subst h2
  have B2 : Aside0 (Below w.heap.size w w2) := ⟨B1.out.trans (b2.mono B1.out.size)⟩
  clear b2
  simp only []
  go_wp2_with fail
  refine (P2.out _).mono ?_
  intro e w3 h3
  obtain ⟨h3, b3⟩ := h3
  subst h3
  have B3 : Aside0 (Below w.heap.size w w3) := ⟨B2.out.trans (b3.mono B2.out.size)⟩
  clear b3
  simp only []
  go_wp2_with fail
  refine (P2.out _).mono ?_
  intro e w4 h4
  obtain ⟨h4, b4⟩ := h4
  subst h4
  have B4 : Aside0 (Below w.heap.size w w4) := ⟨B3.out.trans (b4.mono B3.out.size)⟩
  clear b4
  simp only []
  go_wp2_with fail
  refine (P3.out _).mono ?_
  intro e w5 h5
  obtain ⟨h5, b5⟩ := h5
  subst h5
  have B5 : Aside0 (Below w.heap.size w w5) := ⟨B4.out.trans (b5.mono B4.out.size)⟩
  clear b5
  simp only []
  go_wp2_with fail
  refine (IT.out _ (HV.out.below B5.out).tab).mono ?_
  intro e w6 h6
  obtain ⟨h6, b6⟩ := h6
  rw [Lib.itoa_nonneg] at h6
  subst h6
  have B6 : Aside0 (Below w.heap.size w w6) := ⟨B5.out.trans ((grow_below b6).mono B5.out.size)⟩
  clear b6
  simp only []
  go_wp2_with fail
  refine (P4.out _).mono ?_
  intro e w7 h7
  obtain ⟨h7, b7⟩ := h7
  subst h7
  have B7 : Aside0 (Below w.heap.size w w7) := ⟨B6.out.trans (b7.mono B6.out.size)⟩
  clear b7
  simp only []
  go_wp2_with fail
  go_ret
  exact ⟨ret_str HH.out, B7.out⟩
end Go.Proofs.YtdjmahmbofhnpaaDoor.Ar
