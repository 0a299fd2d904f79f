/- Contracts of alu.Is and of the law package's works; the walks of the laws AluDivides, AluOrders and AluBits. No condition. -/
import Derived.Test.YtadbonmkockakaaQAluA
namespace Go.Proofs.Ytadbonmkockakaa.Alu
open Go.RowKit Go.Proofs.YtadbonmkockakaaW.PrintWords Go.Proofs.YtadbonmkockakaaW.PrintLast
set_option linter.unusedVariables false
set_option linter.unusedSimpArgs false

set_option maxHeartbeats 4000000 in
set_option maxRecDepth 100000 in
theorem is_5 (a b : Int) (w : World) : Calls Try.prog 39 #[.int .u8 5, .int .u32 a, .int .u32 b] w fun e w' => e = .returned (.tuple #[.bool (a == b), .int .i64 0]) ∧ Drawn0 w w' := by
  go_enter Try.func39, Try.ntmps39
  repeat' (first | (with_reducible refine ex_then ?_) | (with_reducible refine ex_norm ?_) | (with_reducible refine ex_eq ?_) | ((with_reducible refine ex_ne ?_ ?_); exact rfl) | (with_reducible refine ex_thenR ?_) | (with_reducible refine ex_inN ?_) | (with_reducible refine ex_inR ?_) | go_values | go_skip | go_guarded | go_step | go_upon)
  go_ret2
  exact ⟨by first | rfl | simp, by repeat (first | exact Drawn0.refl _ | apply Drawn0.step)⟩

set_option maxHeartbeats 4000000 in
set_option maxRecDepth 100000 in
theorem is_6 (a b : Int) (w : World) : Calls Try.prog 39 #[.int .u8 6, .int .u32 a, .int .u32 b] w fun e w' => e = .returned (.tuple #[.bool (!(a == b)), .int .i64 0]) ∧ Drawn0 w w' := by
  go_enter Try.func39, Try.ntmps39
  repeat' (first | (with_reducible refine ex_then ?_) | (with_reducible refine ex_norm ?_) | (with_reducible refine ex_eq ?_) | ((with_reducible refine ex_ne ?_ ?_); exact rfl) | (with_reducible refine ex_thenR ?_) | (with_reducible refine ex_inN ?_) | (with_reducible refine ex_inR ?_) | go_values | go_skip | go_guarded | go_step | go_upon)
  go_ret2
  exact ⟨by first | rfl | simp, by repeat (first | exact Drawn0.refl _ | apply Drawn0.step)⟩

set_option maxHeartbeats 4000000 in
set_option maxRecDepth 100000 in
theorem is_7 (a b : Int) (w : World) : Calls Try.prog 39 #[.int .u8 7, .int .u32 a, .int .u32 b] w fun e w' => e = .returned (.tuple #[.bool (decide (wrap32 a < wrap32 b)), .int .i64 0]) ∧ Drawn0 w w' := by
  go_enter Try.func39, Try.ntmps39
  repeat' (first | (with_reducible refine ex_then ?_) | (with_reducible refine ex_norm ?_) | (with_reducible refine ex_eq ?_) | ((with_reducible refine ex_ne ?_ ?_); exact rfl) | (with_reducible refine ex_thenR ?_) | (with_reducible refine ex_inN ?_) | (with_reducible refine ex_inR ?_) | go_values | go_skip | go_guarded | go_step | go_upon)
  go_ret2
  exact ⟨by first | rfl | simp, by repeat (first | exact Drawn0.refl _ | apply Drawn0.step)⟩

set_option maxHeartbeats 4000000 in
set_option maxRecDepth 100000 in
theorem is_8 (a b : Int) (w : World) : Calls Try.prog 39 #[.int .u8 8, .int .u32 a, .int .u32 b] w fun e w' => e = .returned (.tuple #[.bool (!decide (wrap32 a < wrap32 b)), .int .i64 0]) ∧ Drawn0 w w' := by
  go_enter Try.func39, Try.ntmps39
  repeat' (first | (with_reducible refine ex_then ?_) | (with_reducible refine ex_norm ?_) | (with_reducible refine ex_eq ?_) | ((with_reducible refine ex_ne ?_ ?_); exact rfl) | (with_reducible refine ex_thenR ?_) | (with_reducible refine ex_inN ?_) | (with_reducible refine ex_inR ?_) | go_values | go_skip | go_guarded | go_step | go_upon)
  go_ret2
  exact ⟨by first | rfl | simp, by repeat (first | exact Drawn0.refl _ | apply Drawn0.step)⟩

set_option maxHeartbeats 4000000 in
set_option maxRecDepth 100000 in
theorem is_9 (a b : Int) (w : World) : Calls Try.prog 39 #[.int .u8 9, .int .u32 a, .int .u32 b] w fun e w' => e = .returned (.tuple #[.bool (decide (a < b)), .int .i64 0]) ∧ Drawn0 w w' := by
  go_enter Try.func39, Try.ntmps39
  repeat' (first | (with_reducible refine ex_then ?_) | (with_reducible refine ex_norm ?_) | (with_reducible refine ex_eq ?_) | ((with_reducible refine ex_ne ?_ ?_); exact rfl) | (with_reducible refine ex_thenR ?_) | (with_reducible refine ex_inN ?_) | (with_reducible refine ex_inR ?_) | go_values | go_skip | go_guarded | go_step | go_upon)
  go_ret2
  exact ⟨by first | rfl | simp, by repeat (first | exact Drawn0.refl _ | apply Drawn0.step)⟩

set_option maxHeartbeats 4000000 in
set_option maxRecDepth 100000 in
theorem is_10 (a b : Int) (w : World) : Calls Try.prog 39 #[.int .u8 10, .int .u32 a, .int .u32 b] w fun e w' => e = .returned (.tuple #[.bool (!decide (a < b)), .int .i64 0]) ∧ Drawn0 w w' := by
  go_enter Try.func39, Try.ntmps39
  repeat' (first | (with_reducible refine ex_then ?_) | (with_reducible refine ex_norm ?_) | (with_reducible refine ex_eq ?_) | ((with_reducible refine ex_ne ?_ ?_); exact rfl) | (with_reducible refine ex_thenR ?_) | (with_reducible refine ex_inN ?_) | (with_reducible refine ex_inR ?_) | go_values | go_skip | go_guarded | go_step | go_upon)
  go_ret2
  exact ⟨by first | rfl | simp, by repeat (first | exact Drawn0.refl _ | apply Drawn0.step)⟩

set_option maxHeartbeats 4000000 in
set_option maxRecDepth 100000 in
theorem is_no (o a b : Int) (w : World) (h5 : (o == 5) = false) (h6 : (o == 6) = false) (h7 : (o == 7) = false) (h8 : (o == 8) = false) (h9 : (o == 9) = false) (h10 : (o == 10) = false) : Calls Try.prog 39 #[.int .u8 o, .int .u32 a, .int .u32 b] w fun e w' => e = .returned (.tuple #[.bool false, .int .i64 2]) ∧ Drawn0 w w' := by
  go_enter Try.func39, Try.ntmps39
  repeat' (first | (with_reducible refine ex_then ?_) | (with_reducible refine ex_norm ?_) | (with_reducible refine ex_eq ?_) | ((with_reducible refine ex_ne ?_ ?_); exact rfl) | (with_reducible refine ex_thenR ?_) | (with_reducible refine ex_inN ?_) | (with_reducible refine ex_inR ?_) | go_values | go_skip | go_guarded | go_step | go_upon)
  go_ret2
  exact ⟨by first | rfl | simp, by repeat (first | exact Drawn0.refl _ | apply Drawn0.step)⟩
/-- Whether a condition holds; its error. -/
def aluIs (o a b : Int) : Bool × Int :=
  if o = 5 then ((a == b), 0) else
  if o = 6 then ((!(a == b)), 0) else
  if o = 7 then ((decide (wrap32 a < wrap32 b)), 0) else
  if o = 8 then ((!decide (wrap32 a < wrap32 b)), 0) else
  if o = 9 then ((decide (a < b)), 0) else
  if o = 10 then ((!decide (a < b)), 0) else
  (false, 2)

theorem is_calls (o a b : Int) (w : World) : Calls Try.prog 39 #[.int .u8 o, .int .u32 a, .int .u32 b] w fun e w' => e = .returned (.tuple #[.bool (aluIs o a b).1, .int .i64 (aluIs o a b).2]) ∧ Drawn0 w w' := by
  by_cases h5 : o = 5
  · subst h5; exact is_5 a b w
  by_cases h6 : o = 6
  · subst h6; exact is_6 a b w
  by_cases h7 : o = 7
  · subst h7; exact is_7 a b w
  by_cases h8 : o = 8
  · subst h8; exact is_8 a b w
  by_cases h9 : o = 9
  · subst h9; exact is_9 a b w
  by_cases h10 : o = 10
  · subst h10; exact is_10 a b w
  have hd : aluIs o a b = (false, 2) := by unfold aluIs; rw [if_neg h5, if_neg h6, if_neg h7, if_neg h8, if_neg h9, if_neg h10]
  rw [hd]
  exact is_no o a b w (by simpa using h5) (by simpa using h6) (by simpa using h7) (by simpa using h8) (by simpa using h9) (by simpa using h10)
theorem wk_44 (w : World) : Calls Try.prog 69 #[.int .u8 44, .int .u32 2147483648, .int .u32 4294967295] w fun e w' => e = .returned (.tuple #[.int .u32 2147483648, .int .i64 0]) ∧ Drawn0 w w' := by
  have h := do_44 2147483648 4294967295 w (by decide) (by decide) (by decide) (by decide)
  rw [show (divQ 2147483648 4294967295 : Int) = 2147483648 from by decide +kernel] at h
  exact h
theorem wk_46 (w : World) : Calls Try.prog 69 #[.int .u8 46, .int .u32 7, .int .u32 0] w fun e w' => e = .returned (.tuple #[.int .u32 7, .int .i64 0]) ∧ Drawn0 w w' := by
  have h := do_46 7 0 w (by decide) (by decide) (by decide) (by decide)
  rw [show (divR 7 0 : Int) = 7 from by decide +kernel] at h
  exact h
theorem wk_42 (w : World) : Calls Try.prog 69 #[.int .u8 42, .int .u32 4294967295, .int .u32 2] w fun e w' => e = .returned (.tuple #[.int .u32 4294967295, .int .i64 0]) ∧ Drawn0 w w' := by
  have h := do_42 4294967295 2 w (by decide) (by decide) (by decide) (by decide)
  rw [show (wrap32 4294967295 * 2 / 4294967296 % 4294967296 : Int) = 4294967295 from by decide +kernel] at h
  exact h
theorem wk_37 (w : World) : Calls Try.prog 69 #[.int .u8 37, .int .u32 2147483648, .int .u32 31] w fun e w' => e = .returned (.tuple #[.int .u32 4294967295, .int .i64 0]) ∧ Drawn0 w w' := by
  have h := do_37 2147483648 31 w (by decide) (by decide) (by decide) (by decide)
  rw [show (wrap32 2147483648 / 2 ^ ((31:Int) % 32).toNat % 4294967296 : Int) = 4294967295 from by decide +kernel] at h
  exact h
theorem wk_5 (w : World) : Calls Try.prog 69 #[.int .u8 5, .int .u32 1, .int .u32 1] w fun e w' => e = .returned (.tuple #[.int .u32 0, .int .i64 2]) ∧ Drawn0 w w' :=
  do_no 5 1 1 w rfl rfl rfl rfl rfl rfl rfl rfl rfl rfl rfl rfl rfl rfl rfl rfl rfl rfl rfl rfl rfl rfl rfl rfl rfl rfl rfl
theorem wk_9 (w : World) : Calls Try.prog 39 #[.int .u8 9, .int .u32 1, .int .u32 2147483648] w fun e w' => e = .returned (.tuple #[.bool true, .int .i64 0]) ∧ Drawn0 w w' := by
  have h := is_9 1 2147483648 w
  rw [show (decide ((1 : Int) < 2147483648)) = true from rfl] at h
  exact h
end Go.Proofs.Ytadbonmkockakaa.Alu
