/- Contracts of reloc.asks and ref16.form: is an instruction of the form that a Kind asks for? No condition. -/
import Derived.Test.YthkbjoglhfclmaaQInsT
namespace Go.Proofs.Ythkbjoglhfclmaa.Fld
open Go.RowKit Go.Proofs.YthkbjoglhfclmaaW.PrintWords Go.Proofs.YthkbjoglhfclmaaW.PrintLast Go.Proofs.Ythkbjoglhfclmaa.Alu Go.Proofs.Ythkbjoglhfclmaa.InsP Go.Proofs.Ythkbjoglhfclmaa.Ins
set_option linter.unusedVariables false
set_option linter.unusedSimpArgs false
def asksB (k o : Int) : Bool :=
  if 5 ≤ o ∧ o ≤ 10 then k == 16 else if o = 3 then k == 17 else if o = 1 ∨ o = 2 then k == 23 || k == 26
  else if 17 ≤ o ∧ o ≤ 20 then k == 25 || k == 28 || k == 194 else if o = 4 ∨ (11 ≤ o ∧ o ≤ 16) ∨ (21 ≤ o ∧ o ≤ 26) ∨ o = 48 then k == 24 || k == 27 || k == 193 else false
set_option maxHeartbeats 4000000 in
set_option maxRecDepth 100000 in
theorem asks_5 (k : Int) (w : World) : Calls Try.prog 58 #[.int .u8 k, .int .u8 5] w fun e w' => e = .returned (.bool (asksB k 5)) ∧ w' = w := by
  go_enter Try.func58, Try.ntmps58
  repeat' (first | (with_reducible refine ex_then ?_) | (with_reducible refine ex_norm ?_) | (with_reducible refine ex_eq ?_) | ((with_reducible refine ex_ne ?_ ?_); exact rfl) | (with_reducible refine ex_thenR ?_) | (with_reducible refine ex_inN ?_) | (with_reducible refine ex_inR ?_) | go_values | go_skip | go_guarded | go_step | go_upon)
  all_goals
    go_ret
    exact ⟨by first | rfl | (simp [*, asksB]; done), rfl⟩
set_option maxHeartbeats 4000000 in
set_option maxRecDepth 100000 in
theorem asks_6 (k : Int) (w : World) : Calls Try.prog 58 #[.int .u8 k, .int .u8 6] w fun e w' => e = .returned (.bool (asksB k 6)) ∧ w' = w := by
  go_enter Try.func58, Try.ntmps58
  repeat' (first | (with_reducible refine ex_then ?_) | (with_reducible refine ex_norm ?_) | (with_reducible refine ex_eq ?_) | ((with_reducible refine ex_ne ?_ ?_); exact rfl) | (with_reducible refine ex_thenR ?_) | (with_reducible refine ex_inN ?_) | (with_reducible refine ex_inR ?_) | go_values | go_skip | go_guarded | go_step | go_upon)
  all_goals
    go_ret
    exact ⟨by first | rfl | (simp [*, asksB]; done), rfl⟩
set_option maxHeartbeats 4000000 in
set_option maxRecDepth 100000 in
theorem asks_7 (k : Int) (w : World) : Calls Try.prog 58 #[.int .u8 k, .int .u8 7] w fun e w' => e = .returned (.bool (asksB k 7)) ∧ w' = w := by
  go_enter Try.func58, Try.ntmps58
  repeat' (first | (with_reducible refine ex_then ?_) | (with_reducible refine ex_norm ?_) | (with_reducible refine ex_eq ?_) | ((with_reducible refine ex_ne ?_ ?_); exact rfl) | (with_reducible refine ex_thenR ?_) | (with_reducible refine ex_inN ?_) | (with_reducible refine ex_inR ?_) | go_values | go_skip | go_guarded | go_step | go_upon)
  all_goals
    go_ret
    exact ⟨by first | rfl | (simp [*, asksB]; done), rfl⟩
set_option maxHeartbeats 4000000 in
set_option maxRecDepth 100000 in
theorem asks_8 (k : Int) (w : World) : Calls Try.prog 58 #[.int .u8 k, .int .u8 8] w fun e w' => e = .returned (.bool (asksB k 8)) ∧ w' = w := by
  go_enter Try.func58, Try.ntmps58
  repeat' (first | (with_reducible refine ex_then ?_) | (with_reducible refine ex_norm ?_) | (with_reducible refine ex_eq ?_) | ((with_reducible refine ex_ne ?_ ?_); exact rfl) | (with_reducible refine ex_thenR ?_) | (with_reducible refine ex_inN ?_) | (with_reducible refine ex_inR ?_) | go_values | go_skip | go_guarded | go_step | go_upon)
  all_goals
    go_ret
    exact ⟨by first | rfl | (simp [*, asksB]; done), rfl⟩
set_option maxHeartbeats 4000000 in
set_option maxRecDepth 100000 in
theorem asks_9 (k : Int) (w : World) : Calls Try.prog 58 #[.int .u8 k, .int .u8 9] w fun e w' => e = .returned (.bool (asksB k 9)) ∧ w' = w := by
  go_enter Try.func58, Try.ntmps58
  repeat' (first | (with_reducible refine ex_then ?_) | (with_reducible refine ex_norm ?_) | (with_reducible refine ex_eq ?_) | ((with_reducible refine ex_ne ?_ ?_); exact rfl) | (with_reducible refine ex_thenR ?_) | (with_reducible refine ex_inN ?_) | (with_reducible refine ex_inR ?_) | go_values | go_skip | go_guarded | go_step | go_upon)
  all_goals
    go_ret
    exact ⟨by first | rfl | (simp [*, asksB]; done), rfl⟩
set_option maxHeartbeats 4000000 in
set_option maxRecDepth 100000 in
theorem asks_10 (k : Int) (w : World) : Calls Try.prog 58 #[.int .u8 k, .int .u8 10] w fun e w' => e = .returned (.bool (asksB k 10)) ∧ w' = w := by
  go_enter Try.func58, Try.ntmps58
  repeat' (first | (with_reducible refine ex_then ?_) | (with_reducible refine ex_norm ?_) | (with_reducible refine ex_eq ?_) | ((with_reducible refine ex_ne ?_ ?_); exact rfl) | (with_reducible refine ex_thenR ?_) | (with_reducible refine ex_inN ?_) | (with_reducible refine ex_inR ?_) | go_values | go_skip | go_guarded | go_step | go_upon)
  all_goals
    go_ret
    exact ⟨by first | rfl | (simp [*, asksB]; done), rfl⟩
set_option maxHeartbeats 4000000 in
set_option maxRecDepth 100000 in
theorem asks_3 (k : Int) (w : World) : Calls Try.prog 58 #[.int .u8 k, .int .u8 3] w fun e w' => e = .returned (.bool (asksB k 3)) ∧ w' = w := by
  go_enter Try.func58, Try.ntmps58
  repeat' (first | (with_reducible refine ex_then ?_) | (with_reducible refine ex_norm ?_) | (with_reducible refine ex_eq ?_) | ((with_reducible refine ex_ne ?_ ?_); exact rfl) | (with_reducible refine ex_thenR ?_) | (with_reducible refine ex_inN ?_) | (with_reducible refine ex_inR ?_) | go_values | go_skip | go_guarded | go_step | go_upon)
  all_goals
    go_ret
    exact ⟨by first | rfl | (simp [*, asksB]; done), rfl⟩
set_option maxHeartbeats 4000000 in
set_option maxRecDepth 100000 in
theorem asks_1 (k : Int) (w : World) : Calls Try.prog 58 #[.int .u8 k, .int .u8 1] w fun e w' => e = .returned (.bool (asksB k 1)) ∧ w' = w := by
  go_enter Try.func58, Try.ntmps58
  repeat' (first | (with_reducible refine ex_then ?_) | (with_reducible refine ex_norm ?_) | (with_reducible refine ex_eq ?_) | ((with_reducible refine ex_ne ?_ ?_); exact rfl) | (with_reducible refine ex_thenR ?_) | (with_reducible refine ex_inN ?_) | (with_reducible refine ex_inR ?_) | go_values | go_skip | go_guarded | go_step | go_upon)
  all_goals
    go_ret
    exact ⟨by first | rfl | (simp [*, asksB]; done), rfl⟩
set_option maxHeartbeats 4000000 in
set_option maxRecDepth 100000 in
theorem asks_2 (k : Int) (w : World) : Calls Try.prog 58 #[.int .u8 k, .int .u8 2] w fun e w' => e = .returned (.bool (asksB k 2)) ∧ w' = w := by
  go_enter Try.func58, Try.ntmps58
  repeat' (first | (with_reducible refine ex_then ?_) | (with_reducible refine ex_norm ?_) | (with_reducible refine ex_eq ?_) | ((with_reducible refine ex_ne ?_ ?_); exact rfl) | (with_reducible refine ex_thenR ?_) | (with_reducible refine ex_inN ?_) | (with_reducible refine ex_inR ?_) | go_values | go_skip | go_guarded | go_step | go_upon)
  all_goals
    go_ret
    exact ⟨by first | rfl | (simp [*, asksB]; done), rfl⟩
set_option maxHeartbeats 4000000 in
set_option maxRecDepth 100000 in
theorem asks_17 (k : Int) (w : World) : Calls Try.prog 58 #[.int .u8 k, .int .u8 17] w fun e w' => e = .returned (.bool (asksB k 17)) ∧ w' = w := by
  go_enter Try.func58, Try.ntmps58
  repeat' (first | (with_reducible refine ex_then ?_) | (with_reducible refine ex_norm ?_) | (with_reducible refine ex_eq ?_) | ((with_reducible refine ex_ne ?_ ?_); exact rfl) | (with_reducible refine ex_thenR ?_) | (with_reducible refine ex_inN ?_) | (with_reducible refine ex_inR ?_) | go_values | go_skip | go_guarded | go_step | go_upon)
  all_goals
    go_ret
    exact ⟨by first | rfl | (simp [*, asksB]; done), rfl⟩
set_option maxHeartbeats 4000000 in
set_option maxRecDepth 100000 in
theorem asks_18 (k : Int) (w : World) : Calls Try.prog 58 #[.int .u8 k, .int .u8 18] w fun e w' => e = .returned (.bool (asksB k 18)) ∧ w' = w := by
  go_enter Try.func58, Try.ntmps58
  repeat' (first | (with_reducible refine ex_then ?_) | (with_reducible refine ex_norm ?_) | (with_reducible refine ex_eq ?_) | ((with_reducible refine ex_ne ?_ ?_); exact rfl) | (with_reducible refine ex_thenR ?_) | (with_reducible refine ex_inN ?_) | (with_reducible refine ex_inR ?_) | go_values | go_skip | go_guarded | go_step | go_upon)
  all_goals
    go_ret
    exact ⟨by first | rfl | (simp [*, asksB]; done), rfl⟩
set_option maxHeartbeats 4000000 in
set_option maxRecDepth 100000 in
theorem asks_19 (k : Int) (w : World) : Calls Try.prog 58 #[.int .u8 k, .int .u8 19] w fun e w' => e = .returned (.bool (asksB k 19)) ∧ w' = w := by
  go_enter Try.func58, Try.ntmps58
  repeat' (first | (with_reducible refine ex_then ?_) | (with_reducible refine ex_norm ?_) | (with_reducible refine ex_eq ?_) | ((with_reducible refine ex_ne ?_ ?_); exact rfl) | (with_reducible refine ex_thenR ?_) | (with_reducible refine ex_inN ?_) | (with_reducible refine ex_inR ?_) | go_values | go_skip | go_guarded | go_step | go_upon)
  all_goals
    go_ret
    exact ⟨by first | rfl | (simp [*, asksB]; done), rfl⟩
set_option maxHeartbeats 4000000 in
set_option maxRecDepth 100000 in
theorem asks_20 (k : Int) (w : World) : Calls Try.prog 58 #[.int .u8 k, .int .u8 20] w fun e w' => e = .returned (.bool (asksB k 20)) ∧ w' = w := by
  go_enter Try.func58, Try.ntmps58
  repeat' (first | (with_reducible refine ex_then ?_) | (with_reducible refine ex_norm ?_) | (with_reducible refine ex_eq ?_) | ((with_reducible refine ex_ne ?_ ?_); exact rfl) | (with_reducible refine ex_thenR ?_) | (with_reducible refine ex_inN ?_) | (with_reducible refine ex_inR ?_) | go_values | go_skip | go_guarded | go_step | go_upon)
  all_goals
    go_ret
    exact ⟨by first | rfl | (simp [*, asksB]; done), rfl⟩
set_option maxHeartbeats 4000000 in
set_option maxRecDepth 100000 in
theorem asks_4 (k : Int) (w : World) : Calls Try.prog 58 #[.int .u8 k, .int .u8 4] w fun e w' => e = .returned (.bool (asksB k 4)) ∧ w' = w := by
  go_enter Try.func58, Try.ntmps58
  repeat' (first | (with_reducible refine ex_then ?_) | (with_reducible refine ex_norm ?_) | (with_reducible refine ex_eq ?_) | ((with_reducible refine ex_ne ?_ ?_); exact rfl) | (with_reducible refine ex_thenR ?_) | (with_reducible refine ex_inN ?_) | (with_reducible refine ex_inR ?_) | go_values | go_skip | go_guarded | go_step | go_upon)
  all_goals
    go_ret
    exact ⟨by first | rfl | (simp [*, asksB]; done), rfl⟩
set_option maxHeartbeats 4000000 in
set_option maxRecDepth 100000 in
theorem asks_11 (k : Int) (w : World) : Calls Try.prog 58 #[.int .u8 k, .int .u8 11] w fun e w' => e = .returned (.bool (asksB k 11)) ∧ w' = w := by
  go_enter Try.func58, Try.ntmps58
  repeat' (first | (with_reducible refine ex_then ?_) | (with_reducible refine ex_norm ?_) | (with_reducible refine ex_eq ?_) | ((with_reducible refine ex_ne ?_ ?_); exact rfl) | (with_reducible refine ex_thenR ?_) | (with_reducible refine ex_inN ?_) | (with_reducible refine ex_inR ?_) | go_values | go_skip | go_guarded | go_step | go_upon)
  all_goals
    go_ret
    exact ⟨by first | rfl | (simp [*, asksB]; done), rfl⟩
set_option maxHeartbeats 4000000 in
set_option maxRecDepth 100000 in
theorem asks_12 (k : Int) (w : World) : Calls Try.prog 58 #[.int .u8 k, .int .u8 12] w fun e w' => e = .returned (.bool (asksB k 12)) ∧ w' = w := by
  go_enter Try.func58, Try.ntmps58
  repeat' (first | (with_reducible refine ex_then ?_) | (with_reducible refine ex_norm ?_) | (with_reducible refine ex_eq ?_) | ((with_reducible refine ex_ne ?_ ?_); exact rfl) | (with_reducible refine ex_thenR ?_) | (with_reducible refine ex_inN ?_) | (with_reducible refine ex_inR ?_) | go_values | go_skip | go_guarded | go_step | go_upon)
  all_goals
    go_ret
    exact ⟨by first | rfl | (simp [*, asksB]; done), rfl⟩
set_option maxHeartbeats 4000000 in
set_option maxRecDepth 100000 in
theorem asks_13 (k : Int) (w : World) : Calls Try.prog 58 #[.int .u8 k, .int .u8 13] w fun e w' => e = .returned (.bool (asksB k 13)) ∧ w' = w := by
  go_enter Try.func58, Try.ntmps58
  repeat' (first | (with_reducible refine ex_then ?_) | (with_reducible refine ex_norm ?_) | (with_reducible refine ex_eq ?_) | ((with_reducible refine ex_ne ?_ ?_); exact rfl) | (with_reducible refine ex_thenR ?_) | (with_reducible refine ex_inN ?_) | (with_reducible refine ex_inR ?_) | go_values | go_skip | go_guarded | go_step | go_upon)
  all_goals
    go_ret
    exact ⟨by first | rfl | (simp [*, asksB]; done), rfl⟩
set_option maxHeartbeats 4000000 in
set_option maxRecDepth 100000 in
theorem asks_14 (k : Int) (w : World) : Calls Try.prog 58 #[.int .u8 k, .int .u8 14] w fun e w' => e = .returned (.bool (asksB k 14)) ∧ w' = w := by
  go_enter Try.func58, Try.ntmps58
  repeat' (first | (with_reducible refine ex_then ?_) | (with_reducible refine ex_norm ?_) | (with_reducible refine ex_eq ?_) | ((with_reducible refine ex_ne ?_ ?_); exact rfl) | (with_reducible refine ex_thenR ?_) | (with_reducible refine ex_inN ?_) | (with_reducible refine ex_inR ?_) | go_values | go_skip | go_guarded | go_step | go_upon)
  all_goals
    go_ret
    exact ⟨by first | rfl | (simp [*, asksB]; done), rfl⟩
set_option maxHeartbeats 4000000 in
set_option maxRecDepth 100000 in
theorem asks_15 (k : Int) (w : World) : Calls Try.prog 58 #[.int .u8 k, .int .u8 15] w fun e w' => e = .returned (.bool (asksB k 15)) ∧ w' = w := by
  go_enter Try.func58, Try.ntmps58
  repeat' (first | (with_reducible refine ex_then ?_) | (with_reducible refine ex_norm ?_) | (with_reducible refine ex_eq ?_) | ((with_reducible refine ex_ne ?_ ?_); exact rfl) | (with_reducible refine ex_thenR ?_) | (with_reducible refine ex_inN ?_) | (with_reducible refine ex_inR ?_) | go_values | go_skip | go_guarded | go_step | go_upon)
  all_goals
    go_ret
    exact ⟨by first | rfl | (simp [*, asksB]; done), rfl⟩
set_option maxHeartbeats 4000000 in
set_option maxRecDepth 100000 in
theorem asks_16 (k : Int) (w : World) : Calls Try.prog 58 #[.int .u8 k, .int .u8 16] w fun e w' => e = .returned (.bool (asksB k 16)) ∧ w' = w := by
  go_enter Try.func58, Try.ntmps58
  repeat' (first | (with_reducible refine ex_then ?_) | (with_reducible refine ex_norm ?_) | (with_reducible refine ex_eq ?_) | ((with_reducible refine ex_ne ?_ ?_); exact rfl) | (with_reducible refine ex_thenR ?_) | (with_reducible refine ex_inN ?_) | (with_reducible refine ex_inR ?_) | go_values | go_skip | go_guarded | go_step | go_upon)
  all_goals
    go_ret
    exact ⟨by first | rfl | (simp [*, asksB]; done), rfl⟩
set_option maxHeartbeats 4000000 in
set_option maxRecDepth 100000 in
theorem asks_21 (k : Int) (w : World) : Calls Try.prog 58 #[.int .u8 k, .int .u8 21] w fun e w' => e = .returned (.bool (asksB k 21)) ∧ w' = w := by
  go_enter Try.func58, Try.ntmps58
  repeat' (first | (with_reducible refine ex_then ?_) | (with_reducible refine ex_norm ?_) | (with_reducible refine ex_eq ?_) | ((with_reducible refine ex_ne ?_ ?_); exact rfl) | (with_reducible refine ex_thenR ?_) | (with_reducible refine ex_inN ?_) | (with_reducible refine ex_inR ?_) | go_values | go_skip | go_guarded | go_step | go_upon)
  all_goals
    go_ret
    exact ⟨by first | rfl | (simp [*, asksB]; done), rfl⟩
set_option maxHeartbeats 4000000 in
set_option maxRecDepth 100000 in
theorem asks_22 (k : Int) (w : World) : Calls Try.prog 58 #[.int .u8 k, .int .u8 22] w fun e w' => e = .returned (.bool (asksB k 22)) ∧ w' = w := by
  go_enter Try.func58, Try.ntmps58
  repeat' (first | (with_reducible refine ex_then ?_) | (with_reducible refine ex_norm ?_) | (with_reducible refine ex_eq ?_) | ((with_reducible refine ex_ne ?_ ?_); exact rfl) | (with_reducible refine ex_thenR ?_) | (with_reducible refine ex_inN ?_) | (with_reducible refine ex_inR ?_) | go_values | go_skip | go_guarded | go_step | go_upon)
  all_goals
    go_ret
    exact ⟨by first | rfl | (simp [*, asksB]; done), rfl⟩
set_option maxHeartbeats 4000000 in
set_option maxRecDepth 100000 in
theorem asks_23 (k : Int) (w : World) : Calls Try.prog 58 #[.int .u8 k, .int .u8 23] w fun e w' => e = .returned (.bool (asksB k 23)) ∧ w' = w := by
  go_enter Try.func58, Try.ntmps58
  repeat' (first | (with_reducible refine ex_then ?_) | (with_reducible refine ex_norm ?_) | (with_reducible refine ex_eq ?_) | ((with_reducible refine ex_ne ?_ ?_); exact rfl) | (with_reducible refine ex_thenR ?_) | (with_reducible refine ex_inN ?_) | (with_reducible refine ex_inR ?_) | go_values | go_skip | go_guarded | go_step | go_upon)
  all_goals
    go_ret
    exact ⟨by first | rfl | (simp [*, asksB]; done), rfl⟩
set_option maxHeartbeats 4000000 in
set_option maxRecDepth 100000 in
theorem asks_24 (k : Int) (w : World) : Calls Try.prog 58 #[.int .u8 k, .int .u8 24] w fun e w' => e = .returned (.bool (asksB k 24)) ∧ w' = w := by
  go_enter Try.func58, Try.ntmps58
  repeat' (first | (with_reducible refine ex_then ?_) | (with_reducible refine ex_norm ?_) | (with_reducible refine ex_eq ?_) | ((with_reducible refine ex_ne ?_ ?_); exact rfl) | (with_reducible refine ex_thenR ?_) | (with_reducible refine ex_inN ?_) | (with_reducible refine ex_inR ?_) | go_values | go_skip | go_guarded | go_step | go_upon)
  all_goals
    go_ret
    exact ⟨by first | rfl | (simp [*, asksB]; done), rfl⟩
set_option maxHeartbeats 4000000 in
set_option maxRecDepth 100000 in
theorem asks_25 (k : Int) (w : World) : Calls Try.prog 58 #[.int .u8 k, .int .u8 25] w fun e w' => e = .returned (.bool (asksB k 25)) ∧ w' = w := by
  go_enter Try.func58, Try.ntmps58
  repeat' (first | (with_reducible refine ex_then ?_) | (with_reducible refine ex_norm ?_) | (with_reducible refine ex_eq ?_) | ((with_reducible refine ex_ne ?_ ?_); exact rfl) | (with_reducible refine ex_thenR ?_) | (with_reducible refine ex_inN ?_) | (with_reducible refine ex_inR ?_) | go_values | go_skip | go_guarded | go_step | go_upon)
  all_goals
    go_ret
    exact ⟨by first | rfl | (simp [*, asksB]; done), rfl⟩
set_option maxHeartbeats 4000000 in
set_option maxRecDepth 100000 in
theorem asks_26 (k : Int) (w : World) : Calls Try.prog 58 #[.int .u8 k, .int .u8 26] w fun e w' => e = .returned (.bool (asksB k 26)) ∧ w' = w := by
  go_enter Try.func58, Try.ntmps58
  repeat' (first | (with_reducible refine ex_then ?_) | (with_reducible refine ex_norm ?_) | (with_reducible refine ex_eq ?_) | ((with_reducible refine ex_ne ?_ ?_); exact rfl) | (with_reducible refine ex_thenR ?_) | (with_reducible refine ex_inN ?_) | (with_reducible refine ex_inR ?_) | go_values | go_skip | go_guarded | go_step | go_upon)
  all_goals
    go_ret
    exact ⟨by first | rfl | (simp [*, asksB]; done), rfl⟩
set_option maxHeartbeats 4000000 in
set_option maxRecDepth 100000 in
theorem asks_48 (k : Int) (w : World) : Calls Try.prog 58 #[.int .u8 k, .int .u8 48] w fun e w' => e = .returned (.bool (asksB k 48)) ∧ w' = w := by
  go_enter Try.func58, Try.ntmps58
  repeat' (first | (with_reducible refine ex_then ?_) | (with_reducible refine ex_norm ?_) | (with_reducible refine ex_eq ?_) | ((with_reducible refine ex_ne ?_ ?_); exact rfl) | (with_reducible refine ex_thenR ?_) | (with_reducible refine ex_inN ?_) | (with_reducible refine ex_inR ?_) | go_values | go_skip | go_guarded | go_step | go_upon)
  all_goals
    go_ret
    exact ⟨by first | rfl | (simp [*, asksB]; done), rfl⟩
end Go.Proofs.Ythkbjoglhfclmaa.Fld
