/- The walks of the law AluDivides. No condition. -/
import Derived.Test.YthkbjoglhfclmaaQAluC
namespace Go.Proofs.Ythkbjoglhfclmaa.Alu
open Go.RowKit Go.Proofs.YthkbjoglhfclmaaW.PrintWords Go.Proofs.YthkbjoglhfclmaaW.PrintLast Go.Proofs.YthkbjoglhfclmaaW.PrintMore
set_option linter.unusedVariables false
set_option linter.unusedSimpArgs false

theorem bd_u32 {a : Int} (h : (Lit.int .u32 a).wf = true) : 0 ≤ a ∧ a < 4294967296 := by
  simp [Lit.wf, IntKind.min, IntKind.max, IntKind.signed, IntKind.bits] at h; omega
set_option maxHeartbeats 4000000 in
set_option maxRecDepth 100000 in
theorem divides_true (a b q r u v : Int) (w : World)
    (C44 : Aside0 (∀ w, Calls Try.prog 20 #[.int .u8 44, .int .u32 a, .int .u32 b] w fun e w' => e = .returned (.tuple #[.int .u32 q, .int .i64 0]) ∧ Drawn0 w w'))
    (C46 : Aside0 (∀ w, Calls Try.prog 20 #[.int .u8 46, .int .u32 a, .int .u32 b] w fun e w' => e = .returned (.tuple #[.int .u32 r, .int .i64 0]) ∧ Drawn0 w w'))
    (C45 : Aside0 (∀ w, Calls Try.prog 20 #[.int .u8 45, .int .u32 a, .int .u32 b] w fun e w' => e = .returned (.tuple #[.int .u32 u, .int .i64 0]) ∧ Drawn0 w w'))
    (C47 : Aside0 (∀ w, Calls Try.prog 20 #[.int .u8 47, .int .u32 a, .int .u32 b] w fun e w' => e = .returned (.tuple #[.int .u32 v, .int .i64 0]) ∧ Drawn0 w w'))
    (hb : (b == 0) = false) (h1 : ((q * b + r) % 4294967296 == a) = true) (h2 : ((u * b + v) % 4294967296 == a) = true) (h3 : decide (v < b) = true)
    (x y z : Bool) (hx : decide (0 ≤ wrap32 r) = x) (hy : decide (0 ≤ wrap32 a) = y) (hz : (r == 0) = z) (hxyz : (x == (y || z)) = true) :
    Calls Try.prog 6 #[.int .u32 a, .int .u32 b] w fun e w' => e = .returned (.bool true) ∧ Drawn0 w w' := by
  cases x <;> cases y <;> cases z <;> first | (exfalso; simp at hxyz; done) | skip
  all_goals
    clear hxyz
    go_enter Try.func6, Try.ntmps6
    repeat' (first | (with_reducible refine ex_then ?_) | (with_reducible refine ex_norm ?_) | (with_reducible refine ex_eq ?_) | ((with_reducible refine ex_ne ?_ ?_); exact rfl) | (with_reducible refine ex_thenR ?_) | (with_reducible refine ex_inN ?_) | (with_reducible refine ex_inR ?_) | (go_at_call 20; (first | (with_reducible refine (C44.out _).mono ?_) | (with_reducible refine (C46.out _).mono ?_) | (with_reducible refine (C45.out _).mono ?_) | (with_reducible refine (C47.out _).mono ?_)); intro e w' h; obtain ⟨h1, ⟨nq, rfl⟩⟩ := h; subst h1; simp only []) | (go_at_call 24; refine (works_calls _).mono ?_; intro e w' h; obtain ⟨h1, ⟨nq, rfl⟩⟩ := h; subst h1; simp only []) | go_values | go_skip | go_guarded | go_step | go_upon)
    go_ret
    exact ⟨by first | rfl | simp, by repeat (first | exact Drawn0.refl _ | apply Drawn0.step)⟩

set_option maxHeartbeats 4000000 in
set_option maxRecDepth 100000 in
theorem divides_zero (a : Int) (w : World)
    (C44 : Aside0 (∀ w, Calls Try.prog 20 #[.int .u8 44, .int .u32 a, .int .u32 0] w fun e w' => e = .returned (.tuple #[.int .u32 4294967295, .int .i64 0]) ∧ Drawn0 w w'))
    (C46 : Aside0 (∀ w, Calls Try.prog 20 #[.int .u8 46, .int .u32 a, .int .u32 0] w fun e w' => e = .returned (.tuple #[.int .u32 a, .int .i64 0]) ∧ Drawn0 w w'))
    (C45 : Aside0 (∀ w, Calls Try.prog 20 #[.int .u8 45, .int .u32 a, .int .u32 0] w fun e w' => e = .returned (.tuple #[.int .u32 4294967295, .int .i64 0]) ∧ Drawn0 w w'))
    (C47 : Aside0 (∀ w, Calls Try.prog 20 #[.int .u8 47, .int .u32 a, .int .u32 0] w fun e w' => e = .returned (.tuple #[.int .u32 a, .int .i64 0]) ∧ Drawn0 w w')) :
    Calls Try.prog 6 #[.int .u32 a, .int .u32 0] w fun e w' => e = .returned (.bool true) ∧ Drawn0 w w' := by
  go_enter Try.func6, Try.ntmps6
  repeat' (first | (with_reducible refine ex_then ?_) | (with_reducible refine ex_norm ?_) | (with_reducible refine ex_eq ?_) | ((with_reducible refine ex_ne ?_ ?_); exact rfl) | (with_reducible refine ex_thenR ?_) | (with_reducible refine ex_inN ?_) | (with_reducible refine ex_inR ?_) | (go_at_call 20; (first | (with_reducible refine (C44.out _).mono ?_) | (with_reducible refine (C46.out _).mono ?_) | (with_reducible refine (C45.out _).mono ?_) | (with_reducible refine (C47.out _).mono ?_)); intro e w' h; obtain ⟨h1, ⟨nq, rfl⟩⟩ := h; subst h1; simp only []) | (go_at_call 24; refine (works_calls _).mono ?_; intro e w' h; obtain ⟨h1, ⟨nq, rfl⟩⟩ := h; subst h1; simp only []) | go_values | go_skip | go_guarded | go_step | go_upon)
  go_ret
  exact ⟨by first | rfl | simp, by repeat (first | exact Drawn0.refl _ | apply Drawn0.step)⟩

theorem aluDivides_walk (a b : Int) (w : World) (w0 : (Lit.int .u32 a).wf = true) (w1 : (Lit.int .u32 b).wf = true) :
    Calls Try.prog 6 #[.int .u32 a, .int .u32 b] w fun e w' => e = .returned (.bool true) ∧ Below w.heap.size w w' := by
  obtain ⟨ha, ha'⟩ := bd_u32 w0
  obtain ⟨hb, hb'⟩ := bd_u32 w1
  refine Calls.mono ?_ (fun e w' h => ⟨h.1, h.2.below⟩ : ∀ e w', (e = .returned (.bool true) ∧ Drawn0 w w') → _)
  by_cases h0 : b = 0
  · subst h0
    exact divides_zero a w ⟨fun w => by simpa [divQ] using do_44 a 0 w ha ha' hb hb'⟩ ⟨fun w => by simpa [divR] using do_46 a 0 w ha ha' hb hb'⟩
      ⟨fun w => by simpa using do_45 a 0 w ha ha' hb hb'⟩ ⟨fun w => by simpa using do_47 a 0 w ha ha' hb hb'⟩
  · have e45 : (if b = 0 then 4294967295 else a / b) = a / b := if_neg h0
    have e47 : (if b = 0 then a else a % b) = a % b := if_neg h0
    have h32 : wrap32 b ≠ 0 := by unfold wrap32; omega
    have wa := w32_bd a
    have wb := w32_bd b
    have da : (wrap32 a - a) % 4294967296 = 0 := by unfold wrap32; omega
    have db : (wrap32 b - b) % 4294967296 = 0 := by unfold wrap32; omega
    have hq : divQ a b = Int.tdiv (wrap32 a) (wrap32 b) % 4294967296 := by unfold divQ; rw [if_neg h0]
    have hr : divR a b = Int.tmod (wrap32 a) (wrap32 b) % 4294967296 := by unfold divR; rw [if_neg h0]
    have hdm := Int.mul_tdiv_add_tmod (wrap32 a) (wrap32 b)
    have hlt : (Int.tmod (wrap32 a) (wrap32 b)).natAbs < (wrap32 b).natAbs := by
      rw [Int.natAbs_tmod]; exact Nat.mod_lt _ (by omega)
    have hsg : 0 ≤ wrap32 a → 0 ≤ Int.tmod (wrap32 a) (wrap32 b) := fun h => Int.tmod_nonneg _ h
    have hsn : wrap32 a ≤ 0 → Int.tmod (wrap32 a) (wrap32 b) ≤ 0 := fun h => by
      have := Int.tmod_nonneg (a := -(wrap32 a)) (wrap32 b) (by omega)
      rw [Int.neg_tmod] at this; omega
    refine divides_true a b (divQ a b) (divR a b) (a / b) (a % b) w ⟨fun w => do_44 a b w ha ha' hb hb'⟩ ⟨fun w => do_46 a b w ha ha' hb hb'⟩
      ⟨fun w => by rw [← e45]; exact do_45 a b w ha ha' hb hb'⟩ ⟨fun w => by rw [← e47]; exact do_47 a b w ha ha' hb hb'⟩
      (by simpa using h0) ?_ ?_ ?_ _ _ _ rfl rfl rfl ?_
    · rw [beq_iff_eq, hq, hr]
      generalize Int.tdiv (wrap32 a) (wrap32 b) = q at *
      generalize Int.tmod (wrap32 a) (wrap32 b) = r at *
      have e1 : (q % 4294967296 * b + r % 4294967296) % 4294967296 = (q * b + r) % 4294967296 := by
        rw [Int.add_emod, Int.emod_emod_of_dvd _ (Int.dvd_refl _), ← Int.add_emod_right, Int.mul_emod, Int.emod_emod_of_dvd _ (Int.dvd_refl _), ← Int.mul_emod]
        simp [Int.add_emod]
      rw [e1]
      obtain ⟨k, hk⟩ : ∃ k, wrap32 b = b + 4294967296 * k := ⟨(wrap32 b - b) / 4294967296, by omega⟩
      have e2 : q * b + r = wrap32 a - 4294967296 * (q * k) := by
        rw [← hdm, hk, Int.add_mul, Int.mul_comm b q, show 4294967296 * k * q = 4294967296 * (q * k) from by rw [Int.mul_assoc, Int.mul_comm k q]]; omega
      rw [e2]
      generalize q * k = m
      omega
    · rw [beq_iff_eq]
      have := Int.mul_ediv_add_emod a b
      rw [Int.mul_comm (a / b) b, this]; omega
    · rw [decide_eq_true_eq]; exact Int.emod_lt_of_pos a (by omega)
    · rw [hr]
      generalize Int.tmod (wrap32 a) (wrap32 b) = r at *
      have hw : wrap32 (r % 4294967296) = r := by unfold wrap32 at *; omega
      have hz : (r % 4294967296 = 0) ↔ r = 0 := by omega
      rw [hw]
      rw [beq_iff_eq, Bool.eq_iff_iff]
      simp only [Bool.or_eq_true, decide_eq_true_eq, beq_iff_eq, hz]
      omega
end Go.Proofs.Ythkbjoglhfclmaa.Alu
