/- Contracts of alu.Is and of the law package's works; the walks of the laws AluDivides, AluOrders and AluBits. No condition. -/
import Derived.Test.YthkbjoglhfclmaaQAluA
namespace Go.Proofs.Ythkbjoglhfclmaa.Alu
open Go.RowKit Go.Proofs.YthkbjoglhfclmaaW.PrintWords Go.Proofs.YthkbjoglhfclmaaW.PrintLast
set_option linter.unusedVariables false
set_option linter.unusedSimpArgs false

set_option maxHeartbeats 4000000 in
set_option maxRecDepth 100000 in
theorem is_5 (a b : Int) (w : World) : Calls Try.prog 22 #[.int .u8 5, .int .u32 a, .int .u32 b] w fun e w' => e = .returned (.tuple #[.bool (a == b), .int .i64 0]) ∧ Drawn0 w w' := by
  go_enter Try.func22, Try.ntmps22
  repeat' (first | (with_reducible refine ex_then ?_) | (with_reducible refine ex_norm ?_) | (with_reducible refine ex_eq ?_) | ((with_reducible refine ex_ne ?_ ?_); exact rfl) | (with_reducible refine ex_thenR ?_) | (with_reducible refine ex_inN ?_) | (with_reducible refine ex_inR ?_) | go_values | go_skip | go_guarded | go_step | go_upon)
  go_ret2
  exact ⟨by first | rfl | simp, by repeat (first | exact Drawn0.refl _ | apply Drawn0.step)⟩

set_option maxHeartbeats 4000000 in
set_option maxRecDepth 100000 in
theorem is_6 (a b : Int) (w : World) : Calls Try.prog 22 #[.int .u8 6, .int .u32 a, .int .u32 b] w fun e w' => e = .returned (.tuple #[.bool (!(a == b)), .int .i64 0]) ∧ Drawn0 w w' := by
  go_enter Try.func22, Try.ntmps22
  repeat' (first | (with_reducible refine ex_then ?_) | (with_reducible refine ex_norm ?_) | (with_reducible refine ex_eq ?_) | ((with_reducible refine ex_ne ?_ ?_); exact rfl) | (with_reducible refine ex_thenR ?_) | (with_reducible refine ex_inN ?_) | (with_reducible refine ex_inR ?_) | go_values | go_skip | go_guarded | go_step | go_upon)
  go_ret2
  exact ⟨by first | rfl | simp, by repeat (first | exact Drawn0.refl _ | apply Drawn0.step)⟩

set_option maxHeartbeats 4000000 in
set_option maxRecDepth 100000 in
theorem is_7 (a b : Int) (w : World) : Calls Try.prog 22 #[.int .u8 7, .int .u32 a, .int .u32 b] w fun e w' => e = .returned (.tuple #[.bool (decide (wrap32 a < wrap32 b)), .int .i64 0]) ∧ Drawn0 w w' := by
  go_enter Try.func22, Try.ntmps22
  repeat' (first | (with_reducible refine ex_then ?_) | (with_reducible refine ex_norm ?_) | (with_reducible refine ex_eq ?_) | ((with_reducible refine ex_ne ?_ ?_); exact rfl) | (with_reducible refine ex_thenR ?_) | (with_reducible refine ex_inN ?_) | (with_reducible refine ex_inR ?_) | go_values | go_skip | go_guarded | go_step | go_upon)
  go_ret2
  exact ⟨by first | rfl | simp, by repeat (first | exact Drawn0.refl _ | apply Drawn0.step)⟩

set_option maxHeartbeats 4000000 in
set_option maxRecDepth 100000 in
theorem is_8 (a b : Int) (w : World) : Calls Try.prog 22 #[.int .u8 8, .int .u32 a, .int .u32 b] w fun e w' => e = .returned (.tuple #[.bool (!decide (wrap32 a < wrap32 b)), .int .i64 0]) ∧ Drawn0 w w' := by
  go_enter Try.func22, Try.ntmps22
  repeat' (first | (with_reducible refine ex_then ?_) | (with_reducible refine ex_norm ?_) | (with_reducible refine ex_eq ?_) | ((with_reducible refine ex_ne ?_ ?_); exact rfl) | (with_reducible refine ex_thenR ?_) | (with_reducible refine ex_inN ?_) | (with_reducible refine ex_inR ?_) | go_values | go_skip | go_guarded | go_step | go_upon)
  go_ret2
  exact ⟨by first | rfl | simp, by repeat (first | exact Drawn0.refl _ | apply Drawn0.step)⟩

set_option maxHeartbeats 4000000 in
set_option maxRecDepth 100000 in
theorem is_9 (a b : Int) (w : World) : Calls Try.prog 22 #[.int .u8 9, .int .u32 a, .int .u32 b] w fun e w' => e = .returned (.tuple #[.bool (decide (a < b)), .int .i64 0]) ∧ Drawn0 w w' := by
  go_enter Try.func22, Try.ntmps22
  repeat' (first | (with_reducible refine ex_then ?_) | (with_reducible refine ex_norm ?_) | (with_reducible refine ex_eq ?_) | ((with_reducible refine ex_ne ?_ ?_); exact rfl) | (with_reducible refine ex_thenR ?_) | (with_reducible refine ex_inN ?_) | (with_reducible refine ex_inR ?_) | go_values | go_skip | go_guarded | go_step | go_upon)
  go_ret2
  exact ⟨by first | rfl | simp, by repeat (first | exact Drawn0.refl _ | apply Drawn0.step)⟩

set_option maxHeartbeats 4000000 in
set_option maxRecDepth 100000 in
theorem is_10 (a b : Int) (w : World) : Calls Try.prog 22 #[.int .u8 10, .int .u32 a, .int .u32 b] w fun e w' => e = .returned (.tuple #[.bool (!decide (a < b)), .int .i64 0]) ∧ Drawn0 w w' := by
  go_enter Try.func22, Try.ntmps22
  repeat' (first | (with_reducible refine ex_then ?_) | (with_reducible refine ex_norm ?_) | (with_reducible refine ex_eq ?_) | ((with_reducible refine ex_ne ?_ ?_); exact rfl) | (with_reducible refine ex_thenR ?_) | (with_reducible refine ex_inN ?_) | (with_reducible refine ex_inR ?_) | go_values | go_skip | go_guarded | go_step | go_upon)
  go_ret2
  exact ⟨by first | rfl | simp, by repeat (first | exact Drawn0.refl _ | apply Drawn0.step)⟩

set_option maxHeartbeats 4000000 in
set_option maxRecDepth 100000 in
theorem is_no (o a b : Int) (w : World) (h5 : (o == 5) = false) (h6 : (o == 6) = false) (h7 : (o == 7) = false) (h8 : (o == 8) = false) (h9 : (o == 9) = false) (h10 : (o == 10) = false) : Calls Try.prog 22 #[.int .u8 o, .int .u32 a, .int .u32 b] w fun e w' => e = .returned (.tuple #[.bool false, .int .i64 2]) ∧ Drawn0 w w' := by
  go_enter Try.func22, Try.ntmps22
  repeat' (first | (with_reducible refine ex_then ?_) | (with_reducible refine ex_norm ?_) | (with_reducible refine ex_eq ?_) | ((with_reducible refine ex_ne ?_ ?_); exact rfl) | (with_reducible refine ex_thenR ?_) | (with_reducible refine ex_inN ?_) | (with_reducible refine ex_inR ?_) | go_values | go_skip | go_guarded | go_step | go_upon)
  go_ret2
  exact ⟨by first | rfl | simp, by repeat (first | exact Drawn0.refl _ | apply Drawn0.step)⟩
/-- Whether a condition holds; its error. -/
def aluIs (o a b : Int) : Bool × Int :=
  if o = 5 then ((a == b), 0) else
  if o = 6 then ((!(a == b)), 0) else
  if o = 7 then ((decide (wrap32 a < wrap32 b)), 0) else
  if o = 8 then ((!decide (wrap32 a < wrap32 b)), 0) else
  if o = 9 then ((decide (a < b)), 0) else
  if o = 10 then ((!decide (a < b)), 0) else
  (false, 2)

theorem is_calls (o a b : Int) (w : World) : Calls Try.prog 22 #[.int .u8 o, .int .u32 a, .int .u32 b] w fun e w' => e = .returned (.tuple #[.bool (aluIs o a b).1, .int .i64 (aluIs o a b).2]) ∧ Drawn0 w w' := by
  by_cases h5 : o = 5
  · subst h5; exact is_5 a b w
  by_cases h6 : o = 6
  · subst h6; exact is_6 a b w
  by_cases h7 : o = 7
  · subst h7; exact is_7 a b w
  by_cases h8 : o = 8
  · subst h8; exact is_8 a b w
  by_cases h9 : o = 9
  · subst h9; exact is_9 a b w
  by_cases h10 : o = 10
  · subst h10; exact is_10 a b w
  have hd : aluIs o a b = (false, 2) := by unfold aluIs; rw [if_neg h5, if_neg h6, if_neg h7, if_neg h8, if_neg h9, if_neg h10]
  rw [hd]
  exact is_no o a b w (by simpa using h5) (by simpa using h6) (by simpa using h7) (by simpa using h8) (by simpa using h9) (by simpa using h10)
theorem wk_44 (w : World) : Calls Try.prog 20 #[.int .u8 44, .int .u32 2147483648, .int .u32 4294967295] w fun e w' => e = .returned (.tuple #[.int .u32 2147483648, .int .i64 0]) ∧ Drawn0 w w' := by
  have h := do_44 2147483648 4294967295 w (by decide) (by decide) (by decide) (by decide)
  rw [show (divQ 2147483648 4294967295 : Int) = 2147483648 from by decide +kernel] at h
  exact h
theorem wk_46 (w : World) : Calls Try.prog 20 #[.int .u8 46, .int .u32 7, .int .u32 0] w fun e w' => e = .returned (.tuple #[.int .u32 7, .int .i64 0]) ∧ Drawn0 w w' := by
  have h := do_46 7 0 w (by decide) (by decide) (by decide) (by decide)
  rw [show (divR 7 0 : Int) = 7 from by decide +kernel] at h
  exact h
theorem wk_42 (w : World) : Calls Try.prog 20 #[.int .u8 42, .int .u32 4294967295, .int .u32 2] w fun e w' => e = .returned (.tuple #[.int .u32 4294967295, .int .i64 0]) ∧ Drawn0 w w' := by
  have h := do_42 4294967295 2 w (by decide) (by decide) (by decide) (by decide)
  rw [show (wrap32 4294967295 * 2 / 4294967296 % 4294967296 : Int) = 4294967295 from by decide +kernel] at h
  exact h
theorem wk_37 (w : World) : Calls Try.prog 20 #[.int .u8 37, .int .u32 2147483648, .int .u32 31] w fun e w' => e = .returned (.tuple #[.int .u32 4294967295, .int .i64 0]) ∧ Drawn0 w w' := by
  have h := do_37 2147483648 31 w (by decide) (by decide) (by decide) (by decide)
  rw [show (wrap32 2147483648 / 2 ^ ((31:Int) % 32).toNat % 4294967296 : Int) = 4294967295 from by decide +kernel] at h
  exact h
theorem wk_5 (w : World) : Calls Try.prog 20 #[.int .u8 5, .int .u32 1, .int .u32 1] w fun e w' => e = .returned (.tuple #[.int .u32 0, .int .i64 2]) ∧ Drawn0 w w' :=
  do_no 5 1 1 w rfl rfl rfl rfl rfl rfl rfl rfl rfl rfl rfl rfl rfl rfl rfl rfl rfl rfl rfl rfl rfl rfl rfl rfl rfl rfl rfl
theorem wk_9 (w : World) : Calls Try.prog 22 #[.int .u8 9, .int .u32 1, .int .u32 2147483648] w fun e w' => e = .returned (.tuple #[.bool true, .int .i64 0]) ∧ Drawn0 w w' := by
  have h := is_9 1 2147483648 w
  rw [show (decide ((1 : Int) < 2147483648)) = true from rfl] at h
  exact h

set_option maxHeartbeats 4000000 in
set_option maxRecDepth 100000 in
theorem works_calls (w : World) : Calls Try.prog 24 #[] w fun e w' => e = .returned (.bool true) ∧ Drawn0 w w' := by
  go_enter Try.func24, Try.ntmps24
  repeat' (first | (with_reducible refine ex_then ?_) | (with_reducible refine ex_norm ?_) | (with_reducible refine ex_eq ?_) | ((with_reducible refine ex_ne ?_ ?_); exact rfl) | (with_reducible refine ex_thenR ?_) | (with_reducible refine ex_inN ?_) | (with_reducible refine ex_inR ?_) | go_values | go_skip | go_guarded | go_step | go_upon)
  refine (wk_44 _).mono ?_; intro e w' h; obtain ⟨h1, ⟨nq, rfl⟩⟩ := h; subst h1; simp only []
  repeat' (first | (with_reducible refine ex_then ?_) | (with_reducible refine ex_norm ?_) | (with_reducible refine ex_eq ?_) | ((with_reducible refine ex_ne ?_ ?_); exact rfl) | (with_reducible refine ex_thenR ?_) | (with_reducible refine ex_inN ?_) | (with_reducible refine ex_inR ?_) | go_values | go_skip | go_guarded | go_step | go_upon)
  refine (wk_46 _).mono ?_; intro e w' h; obtain ⟨h1, ⟨nq, rfl⟩⟩ := h; subst h1; simp only []
  repeat' (first | (with_reducible refine ex_then ?_) | (with_reducible refine ex_norm ?_) | (with_reducible refine ex_eq ?_) | ((with_reducible refine ex_ne ?_ ?_); exact rfl) | (with_reducible refine ex_thenR ?_) | (with_reducible refine ex_inN ?_) | (with_reducible refine ex_inR ?_) | go_values | go_skip | go_guarded | go_step | go_upon)
  refine (wk_42 _).mono ?_; intro e w' h; obtain ⟨h1, ⟨nq, rfl⟩⟩ := h; subst h1; simp only []
  repeat' (first | (with_reducible refine ex_then ?_) | (with_reducible refine ex_norm ?_) | (with_reducible refine ex_eq ?_) | ((with_reducible refine ex_ne ?_ ?_); exact rfl) | (with_reducible refine ex_thenR ?_) | (with_reducible refine ex_inN ?_) | (with_reducible refine ex_inR ?_) | go_values | go_skip | go_guarded | go_step | go_upon)
  refine (wk_37 _).mono ?_; intro e w' h; obtain ⟨h1, ⟨nq, rfl⟩⟩ := h; subst h1; simp only []
  repeat' (first | (with_reducible refine ex_then ?_) | (with_reducible refine ex_norm ?_) | (with_reducible refine ex_eq ?_) | ((with_reducible refine ex_ne ?_ ?_); exact rfl) | (with_reducible refine ex_thenR ?_) | (with_reducible refine ex_inN ?_) | (with_reducible refine ex_inR ?_) | go_values | go_skip | go_guarded | go_step | go_upon)
  refine (wk_5 _).mono ?_; intro e w' h; obtain ⟨h1, ⟨nq, rfl⟩⟩ := h; subst h1; simp only []
  repeat' (first | (with_reducible refine ex_then ?_) | (with_reducible refine ex_norm ?_) | (with_reducible refine ex_eq ?_) | ((with_reducible refine ex_ne ?_ ?_); exact rfl) | (with_reducible refine ex_thenR ?_) | (with_reducible refine ex_inN ?_) | (with_reducible refine ex_inR ?_) | go_values | go_skip | go_guarded | go_step | go_upon)
  refine (wk_9 _).mono ?_; intro e w' h; obtain ⟨h1, ⟨nq, rfl⟩⟩ := h; subst h1; simp only []
  repeat' (first | (with_reducible refine ex_then ?_) | (with_reducible refine ex_norm ?_) | (with_reducible refine ex_eq ?_) | ((with_reducible refine ex_ne ?_ ?_); exact rfl) | (with_reducible refine ex_thenR ?_) | (with_reducible refine ex_inN ?_) | (with_reducible refine ex_inR ?_) | go_values | go_skip | go_guarded | go_step | go_upon)
  go_ret
  exact ⟨by first | rfl | simp, by repeat (first | exact Drawn0.refl _ | apply Drawn0.step)⟩

set_option maxHeartbeats 4000000 in
set_option maxRecDepth 100000 in
theorem aluOrders_walk (a b : Int) (w : World) (w0 : (Lit.int .u32 a).wf = true) (w1 : (Lit.int .u32 b).wf = true) :
    Calls Try.prog 7 #[.int .u32 a, .int .u32 b] w fun e w' => e = .returned (.bool true) ∧ Below w.heap.size w w' := by
  have hs' : 0 ≤ a ∧ a < 4294967296 := by simp [Lit.wf, IntKind.min, IntKind.max, IntKind.signed, IntKind.bits] at w0; omega
  have ha' : 0 ≤ b ∧ b < 4294967296 := by simp [Lit.wf, IntKind.min, IntKind.max, IntKind.signed, IntKind.bits] at w1; omega
  clear w0 w1
  obtain ⟨x, hx⟩ : ∃ x, decide (wrap32 a < wrap32 b) = x := ⟨_, rfl⟩
  obtain ⟨y, hy⟩ : ∃ y, (a == b) = y := ⟨_, rfl⟩
  obtain ⟨z, hz⟩ : ∃ z, decide (wrap32 b < wrap32 a) = z := ⟨_, rfl⟩
  obtain ⟨u, hu⟩ : ∃ u, decide (a < b) = u := ⟨_, rfl⟩
  have H : (x = true ∧ y = false ∧ z = false) ∨ (x = false ∧ y = true ∧ z = false) ∨ (x = false ∧ y = false ∧ z = true) := by
    subst hx hy hz
    simp only [decide_eq_true_eq, decide_eq_false_iff_not, beq_iff_eq, beq_eq_false_iff_ne, ne_eq]
    unfold wrap32; omega
  have C7 : ∀ w, Calls Try.prog 22 #[.int .u8 7, .int .u32 a, .int .u32 b] w fun e w' => e = .returned (.tuple #[.bool x, .int .i64 0]) ∧ Drawn0 w w' := fun w => by rw [← hx]; exact is_7 a b w
  have C5 : ∀ w, Calls Try.prog 22 #[.int .u8 5, .int .u32 a, .int .u32 b] w fun e w' => e = .returned (.tuple #[.bool y, .int .i64 0]) ∧ Drawn0 w w' := fun w => by rw [← hy]; exact is_5 a b w
  have C7b : ∀ w, Calls Try.prog 22 #[.int .u8 7, .int .u32 b, .int .u32 a] w fun e w' => e = .returned (.tuple #[.bool z, .int .i64 0]) ∧ Drawn0 w w' := fun w => by rw [← hz]; exact is_7 b a w
  have C6 : ∀ w, Calls Try.prog 22 #[.int .u8 6, .int .u32 a, .int .u32 b] w fun e w' => e = .returned (.tuple #[.bool (!y), .int .i64 0]) ∧ Drawn0 w w' := fun w => by rw [← hy]; exact is_6 a b w
  have C8 : ∀ w, Calls Try.prog 22 #[.int .u8 8, .int .u32 a, .int .u32 b] w fun e w' => e = .returned (.tuple #[.bool (!x), .int .i64 0]) ∧ Drawn0 w w' := fun w => by rw [← hx]; exact is_8 a b w
  have C9 : ∀ w, Calls Try.prog 22 #[.int .u8 9, .int .u32 a, .int .u32 b] w fun e w' => e = .returned (.tuple #[.bool u, .int .i64 0]) ∧ Drawn0 w w' := fun w => by rw [← hu]; exact is_9 a b w
  have C10 : ∀ w, Calls Try.prog 22 #[.int .u8 10, .int .u32 a, .int .u32 b] w fun e w' => e = .returned (.tuple #[.bool (!u), .int .i64 0]) ∧ Drawn0 w w' := fun w => by rw [← hu]; exact is_10 a b w
  clear hx hy hz hu hs' ha'
  have G7 := Aside0.mk C7; have G5 := Aside0.mk C5; have G7b := Aside0.mk C7b; have G6 := Aside0.mk C6; have G8 := Aside0.mk C8; have G9 := Aside0.mk C9; have G10 := Aside0.mk C10
  clear C7 C5 C7b C6 C8 C9 C10
  have GD : Calls Try.prog 7 #[.int .u32 a, .int .u32 b] w fun e w' => e = .returned (.bool true) ∧ Drawn0 w w' := by
    rcases H with ⟨rfl, rfl, rfl⟩ | ⟨rfl, rfl, rfl⟩ | ⟨rfl, rfl, rfl⟩
    all_goals
      cases u
      all_goals
        go_enter Try.func7, Try.ntmps7
        repeat' (first | (with_reducible refine ex_then ?_) | (with_reducible refine ex_norm ?_) | (with_reducible refine ex_eq ?_) | ((with_reducible refine ex_ne ?_ ?_); exact rfl) | (with_reducible refine ex_thenR ?_) | (with_reducible refine ex_inN ?_) | (with_reducible refine ex_inR ?_) | (go_at_call 22; (first | (with_reducible refine (G7.out _).mono ?_) | (with_reducible refine (G5.out _).mono ?_) | (with_reducible refine (G7b.out _).mono ?_) | (with_reducible refine (G6.out _).mono ?_) | (with_reducible refine (G8.out _).mono ?_) | (with_reducible refine (G9.out _).mono ?_) | (with_reducible refine (G10.out _).mono ?_)); intro e w' h; obtain ⟨h1, ⟨nq, rfl⟩⟩ := h; subst h1; simp only []) | (go_at_call 24; refine (works_calls _).mono ?_; intro e w' h; obtain ⟨h1, ⟨nq, rfl⟩⟩ := h; subst h1; simp only []) | go_values | go_skip | go_guarded | go_step | go_upon)
        go_ret
        exact ⟨by first | rfl | simp, by repeat (first | exact Drawn0.refl _ | apply Drawn0.step)⟩
  exact GD.mono fun e w' h => ⟨h.1, h.2.below⟩
end Go.Proofs.Ythkbjoglhfclmaa.Alu
