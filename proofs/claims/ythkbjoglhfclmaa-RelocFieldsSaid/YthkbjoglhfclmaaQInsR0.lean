/- Small contracts of the package bulwarkref05: bits, signed, imm. No condition. -/
import Derived.Test.YthkbjoglhfclmaaQInsG0
import Derived.Test.YthkbjoglhfclmaaQInsT
namespace Go.Proofs.Ythkbjoglhfclmaa.Ins
open Go.RowKit Go.Proofs.YthkbjoglhfclmaaW.PrintWords Go.Proofs.YthkbjoglhfclmaaW.PrintLast Go.Proofs.Ythkbjoglhfclmaa.Alu Go.Proofs.Ythkbjoglhfclmaa.InsP
set_option linter.unusedVariables false
set_option linter.unusedSimpArgs false
/-- The family's form of a form of the table. -/
def fmR (rf : Nat) : Nat := ([0, 1, 2, 7, 5, 4, 3, 6, 8, 5, 9] : List Nat).getD rf 9
theorem tmod0 (n k : Int) : n.tmod k = 0 ↔ n % k = 0 := by rw [← Int.dvd_iff_tmod_eq_zero, ← Int.dvd_iff_emod_eq_zero]
def immR (rf : Nat) (n : Int) : Bool := if rf = 9 then decide (27 ≤ n ∧ n ≤ 31) else immOk (fmR rf) n
theorem bits_20_1 (n : Int) (w : World) (h0 : 0 ≤ n) (h1 : n < 4294967296) : Calls Try.prog 53 #[.int .u32 n, .int .u64 20, .int .u64 1] w fun e w' => e = .returned (.int .u32 (n / 1048576 % 2)) ∧ w' = w := by
  have h2 := and_low (n / 1048576) 1 (by decide) (by omega) (by omega)
  have H2 := Aside0.mk h2
  clear h2
  go_enter Try.func53, Try.ntmps53
  go_wp2
  go_ret
  exact ⟨by have h2 := H2.out; simp only [Int.reducePow, Int.reduceSub] at h2; first | rfl | (simp; done) | (simp [h2]; done), rfl⟩
theorem bits_1_10 (n : Int) (w : World) (h0 : 0 ≤ n) (h1 : n < 4294967296) : Calls Try.prog 53 #[.int .u32 n, .int .u64 1, .int .u64 10] w fun e w' => e = .returned (.int .u32 (n / 2 % 1024)) ∧ w' = w := by
  have h2 := and_low (n / 2) 10 (by decide) (by omega) (by omega)
  have H2 := Aside0.mk h2
  clear h2
  go_enter Try.func53, Try.ntmps53
  go_wp2
  go_ret
  exact ⟨by have h2 := H2.out; simp only [Int.reducePow, Int.reduceSub] at h2; first | rfl | (simp; done) | (simp [h2]; done), rfl⟩
theorem bits_11_1 (n : Int) (w : World) (h0 : 0 ≤ n) (h1 : n < 4294967296) : Calls Try.prog 53 #[.int .u32 n, .int .u64 11, .int .u64 1] w fun e w' => e = .returned (.int .u32 (n / 2048 % 2)) ∧ w' = w := by
  have h2 := and_low (n / 2048) 1 (by decide) (by omega) (by omega)
  have H2 := Aside0.mk h2
  clear h2
  go_enter Try.func53, Try.ntmps53
  go_wp2
  go_ret
  exact ⟨by have h2 := H2.out; simp only [Int.reducePow, Int.reduceSub] at h2; first | rfl | (simp; done) | (simp [h2]; done), rfl⟩
theorem bits_12_8 (n : Int) (w : World) (h0 : 0 ≤ n) (h1 : n < 4294967296) : Calls Try.prog 53 #[.int .u32 n, .int .u64 12, .int .u64 8] w fun e w' => e = .returned (.int .u32 (n / 4096 % 256)) ∧ w' = w := by
  have h2 := and_low (n / 4096) 8 (by decide) (by omega) (by omega)
  have H2 := Aside0.mk h2
  clear h2
  go_enter Try.func53, Try.ntmps53
  go_wp2
  go_ret
  exact ⟨by have h2 := H2.out; simp only [Int.reducePow, Int.reduceSub] at h2; first | rfl | (simp; done) | (simp [h2]; done), rfl⟩
theorem bits_0_12 (n : Int) (w : World) (h0 : 0 ≤ n) (h1 : n < 4294967296) : Calls Try.prog 53 #[.int .u32 n, .int .u64 0, .int .u64 12] w fun e w' => e = .returned (.int .u32 (n % 4096)) ∧ w' = w := by
  have h2 := and_low (n) 12 (by decide) (by omega) (by omega)
  have H2 := Aside0.mk h2
  clear h2
  go_enter Try.func53, Try.ntmps53
  go_wp2
  go_ret
  exact ⟨by have h2 := H2.out; simp only [Int.reducePow, Int.reduceSub] at h2; first | rfl | (simp; done) | (simp [h2]; done), rfl⟩
theorem bits_0_5 (n : Int) (w : World) (h0 : 0 ≤ n) (h1 : n < 4294967296) : Calls Try.prog 53 #[.int .u32 n, .int .u64 0, .int .u64 5] w fun e w' => e = .returned (.int .u32 (n % 32)) ∧ w' = w := by
  have h2 := and_low (n) 5 (by decide) (by omega) (by omega)
  have H2 := Aside0.mk h2
  clear h2
  go_enter Try.func53, Try.ntmps53
  go_wp2
  go_ret
  exact ⟨by have h2 := H2.out; simp only [Int.reducePow, Int.reduceSub] at h2; first | rfl | (simp; done) | (simp [h2]; done), rfl⟩
theorem bits_5_7 (n : Int) (w : World) (h0 : 0 ≤ n) (h1 : n < 4294967296) : Calls Try.prog 53 #[.int .u32 n, .int .u64 5, .int .u64 7] w fun e w' => e = .returned (.int .u32 (n / 32 % 128)) ∧ w' = w := by
  have h2 := and_low (n / 32) 7 (by decide) (by omega) (by omega)
  have H2 := Aside0.mk h2
  clear h2
  go_enter Try.func53, Try.ntmps53
  go_wp2
  go_ret
  exact ⟨by have h2 := H2.out; simp only [Int.reducePow, Int.reduceSub] at h2; first | rfl | (simp; done) | (simp [h2]; done), rfl⟩
theorem bits_1_4 (n : Int) (w : World) (h0 : 0 ≤ n) (h1 : n < 4294967296) : Calls Try.prog 53 #[.int .u32 n, .int .u64 1, .int .u64 4] w fun e w' => e = .returned (.int .u32 (n / 2 % 16)) ∧ w' = w := by
  have h2 := and_low (n / 2) 4 (by decide) (by omega) (by omega)
  have H2 := Aside0.mk h2
  clear h2
  go_enter Try.func53, Try.ntmps53
  go_wp2
  go_ret
  exact ⟨by have h2 := H2.out; simp only [Int.reducePow, Int.reduceSub] at h2; first | rfl | (simp; done) | (simp [h2]; done), rfl⟩
theorem bits_5_6 (n : Int) (w : World) (h0 : 0 ≤ n) (h1 : n < 4294967296) : Calls Try.prog 53 #[.int .u32 n, .int .u64 5, .int .u64 6] w fun e w' => e = .returned (.int .u32 (n / 32 % 64)) ∧ w' = w := by
  have h2 := and_low (n / 32) 6 (by decide) (by omega) (by omega)
  have H2 := Aside0.mk h2
  clear h2
  go_enter Try.func53, Try.ntmps53
  go_wp2
  go_ret
  exact ⟨by have h2 := H2.out; simp only [Int.reducePow, Int.reduceSub] at h2; first | rfl | (simp; done) | (simp [h2]; done), rfl⟩
theorem bits_12_1 (n : Int) (w : World) (h0 : 0 ≤ n) (h1 : n < 4294967296) : Calls Try.prog 53 #[.int .u32 n, .int .u64 12, .int .u64 1] w fun e w' => e = .returned (.int .u32 (n / 4096 % 2)) ∧ w' = w := by
  have h2 := and_low (n / 4096) 1 (by decide) (by omega) (by omega)
  have H2 := Aside0.mk h2
  clear h2
  go_enter Try.func53, Try.ntmps53
  go_wp2
  go_ret
  exact ⟨by have h2 := H2.out; simp only [Int.reducePow, Int.reduceSub] at h2; first | rfl | (simp; done) | (simp [h2]; done), rfl⟩
theorem bits_7_5 (n : Int) (w : World) (h0 : 0 ≤ n) (h1 : n < 4294967296) : Calls Try.prog 53 #[.int .u32 n, .int .u64 7, .int .u64 5] w fun e w' => e = .returned (.int .u32 (n / 128 % 32)) ∧ w' = w := by
  have h2 := and_low (n / 128) 5 (by decide) (by omega) (by omega)
  have H2 := Aside0.mk h2
  clear h2
  go_enter Try.func53, Try.ntmps53
  go_wp2
  go_ret
  exact ⟨by have h2 := H2.out; simp only [Int.reducePow, Int.reduceSub] at h2; first | rfl | (simp; done) | (simp [h2]; done), rfl⟩
theorem bits_15_5 (n : Int) (w : World) (h0 : 0 ≤ n) (h1 : n < 4294967296) : Calls Try.prog 53 #[.int .u32 n, .int .u64 15, .int .u64 5] w fun e w' => e = .returned (.int .u32 (n / 32768 % 32)) ∧ w' = w := by
  have h2 := and_low (n / 32768) 5 (by decide) (by omega) (by omega)
  have H2 := Aside0.mk h2
  clear h2
  go_enter Try.func53, Try.ntmps53
  go_wp2
  go_ret
  exact ⟨by have h2 := H2.out; simp only [Int.reducePow, Int.reduceSub] at h2; first | rfl | (simp; done) | (simp [h2]; done), rfl⟩
theorem bits_20_5 (n : Int) (w : World) (h0 : 0 ≤ n) (h1 : n < 4294967296) : Calls Try.prog 53 #[.int .u32 n, .int .u64 20, .int .u64 5] w fun e w' => e = .returned (.int .u32 (n / 1048576 % 32)) ∧ w' = w := by
  have h2 := and_low (n / 1048576) 5 (by decide) (by omega) (by omega)
  have H2 := Aside0.mk h2
  clear h2
  go_enter Try.func53, Try.ntmps53
  go_wp2
  go_ret
  exact ⟨by have h2 := H2.out; simp only [Int.reducePow, Int.reduceSub] at h2; first | rfl | (simp; done) | (simp [h2]; done), rfl⟩
theorem bits_31_1 (n : Int) (w : World) (h0 : 0 ≤ n) (h1 : n < 4294967296) : Calls Try.prog 53 #[.int .u32 n, .int .u64 31, .int .u64 1] w fun e w' => e = .returned (.int .u32 (n / 2147483648 % 2)) ∧ w' = w := by
  have h2 := and_low (n / 2147483648) 1 (by decide) (by omega) (by omega)
  have H2 := Aside0.mk h2
  clear h2
  go_enter Try.func53, Try.ntmps53
  go_wp2
  go_ret
  exact ⟨by have h2 := H2.out; simp only [Int.reducePow, Int.reduceSub] at h2; first | rfl | (simp; done) | (simp [h2]; done), rfl⟩
theorem bits_21_10 (n : Int) (w : World) (h0 : 0 ≤ n) (h1 : n < 4294967296) : Calls Try.prog 53 #[.int .u32 n, .int .u64 21, .int .u64 10] w fun e w' => e = .returned (.int .u32 (n / 2097152 % 1024)) ∧ w' = w := by
  have h2 := and_low (n / 2097152) 10 (by decide) (by omega) (by omega)
  have H2 := Aside0.mk h2
  clear h2
  go_enter Try.func53, Try.ntmps53
  go_wp2
  go_ret
  exact ⟨by have h2 := H2.out; simp only [Int.reducePow, Int.reduceSub] at h2; first | rfl | (simp; done) | (simp [h2]; done), rfl⟩
theorem bits_20_12 (n : Int) (w : World) (h0 : 0 ≤ n) (h1 : n < 4294967296) : Calls Try.prog 53 #[.int .u32 n, .int .u64 20, .int .u64 12] w fun e w' => e = .returned (.int .u32 (n / 1048576 % 4096)) ∧ w' = w := by
  have h2 := and_low (n / 1048576) 12 (by decide) (by omega) (by omega)
  have H2 := Aside0.mk h2
  clear h2
  go_enter Try.func53, Try.ntmps53
  go_wp2
  go_ret
  exact ⟨by have h2 := H2.out; simp only [Int.reducePow, Int.reduceSub] at h2; first | rfl | (simp; done) | (simp [h2]; done), rfl⟩
theorem bits_25_7 (n : Int) (w : World) (h0 : 0 ≤ n) (h1 : n < 4294967296) : Calls Try.prog 53 #[.int .u32 n, .int .u64 25, .int .u64 7] w fun e w' => e = .returned (.int .u32 (n / 33554432 % 128)) ∧ w' = w := by
  have h2 := and_low (n / 33554432) 7 (by decide) (by omega) (by omega)
  have H2 := Aside0.mk h2
  clear h2
  go_enter Try.func53, Try.ntmps53
  go_wp2
  go_ret
  exact ⟨by have h2 := H2.out; simp only [Int.reducePow, Int.reduceSub] at h2; first | rfl | (simp; done) | (simp [h2]; done), rfl⟩
theorem bits_25_6 (n : Int) (w : World) (h0 : 0 ≤ n) (h1 : n < 4294967296) : Calls Try.prog 53 #[.int .u32 n, .int .u64 25, .int .u64 6] w fun e w' => e = .returned (.int .u32 (n / 33554432 % 64)) ∧ w' = w := by
  have h2 := and_low (n / 33554432) 6 (by decide) (by omega) (by omega)
  have H2 := Aside0.mk h2
  clear h2
  go_enter Try.func53, Try.ntmps53
  go_wp2
  go_ret
  exact ⟨by have h2 := H2.out; simp only [Int.reducePow, Int.reduceSub] at h2; first | rfl | (simp; done) | (simp [h2]; done), rfl⟩
theorem bits_8_4 (n : Int) (w : World) (h0 : 0 ≤ n) (h1 : n < 4294967296) : Calls Try.prog 53 #[.int .u32 n, .int .u64 8, .int .u64 4] w fun e w' => e = .returned (.int .u32 (n / 256 % 16)) ∧ w' = w := by
  have h2 := and_low (n / 256) 4 (by decide) (by omega) (by omega)
  have H2 := Aside0.mk h2
  clear h2
  go_enter Try.func53, Try.ntmps53
  go_wp2
  go_ret
  exact ⟨by have h2 := H2.out; simp only [Int.reducePow, Int.reduceSub] at h2; first | rfl | (simp; done) | (simp [h2]; done), rfl⟩
theorem bits_7_1 (n : Int) (w : World) (h0 : 0 ≤ n) (h1 : n < 4294967296) : Calls Try.prog 53 #[.int .u32 n, .int .u64 7, .int .u64 1] w fun e w' => e = .returned (.int .u32 (n / 128 % 2)) ∧ w' = w := by
  have h2 := and_low (n / 128) 1 (by decide) (by omega) (by omega)
  have H2 := Aside0.mk h2
  clear h2
  go_enter Try.func53, Try.ntmps53
  go_wp2
  go_ret
  exact ⟨by have h2 := H2.out; simp only [Int.reducePow, Int.reduceSub] at h2; first | rfl | (simp; done) | (simp [h2]; done), rfl⟩
theorem signed_21 (v : Int) (w : World) (h0 : 0 ≤ v) (h1 : v < 4294967296) : Calls Try.prog 57 #[.int .u32 v, .int .u64 21] w fun e w' => e = .returned (.int .i32 ((v + 1048576) % (2 * 1048576) - 1048576)) ∧ w' = w := by
  have hs := sign_is v 21 (by decide) h0 h1 2048 1048576 (by decide) (by decide)
  have HS := Aside0.mk hs
  clear hs
  go_enter Try.func57, Try.ntmps57
  go_wp2
  go_ret
  exact ⟨by rw [← HS.out]; first | rfl | simp, rfl⟩
theorem signed_12 (v : Int) (w : World) (h0 : 0 ≤ v) (h1 : v < 4294967296) : Calls Try.prog 57 #[.int .u32 v, .int .u64 12] w fun e w' => e = .returned (.int .i32 ((v + 2048) % (2 * 2048) - 2048)) ∧ w' = w := by
  have hs := sign_is v 12 (by decide) h0 h1 1048576 2048 (by decide) (by decide)
  have HS := Aside0.mk hs
  clear hs
  go_enter Try.func57, Try.ntmps57
  go_wp2
  go_ret
  exact ⟨by rw [← HS.out]; first | rfl | simp, rfl⟩
theorem signed_13 (v : Int) (w : World) (h0 : 0 ≤ v) (h1 : v < 4294967296) : Calls Try.prog 57 #[.int .u32 v, .int .u64 13] w fun e w' => e = .returned (.int .i32 ((v + 4096) % (2 * 4096) - 4096)) ∧ w' = w := by
  have hs := sign_is v 13 (by decide) h0 h1 524288 4096 (by decide) (by decide)
  have HS := Aside0.mk hs
  clear hs
  go_enter Try.func57, Try.ntmps57
  go_wp2
  go_ret
  exact ⟨by rw [← HS.out]; first | rfl | simp, rfl⟩
set_option maxHeartbeats 4000000 in
set_option maxRecDepth 100000 in
theorem imm_R_0 (n : Int) (w : World) : Calls Try.prog 60 #[.int .i64 0, .int .i32 n] w fun e w' => e = .returned (.bool (immR 0 n)) ∧ w' = w := by
  cases hb : (n.tmod 4096 == 0)
  all_goals
    have hr : immR 0 n = (n.tmod 4096 == 0) := by
      simp only [immR, fmR, immOk, List.getD_cons_zero, List.getD_cons_succ, reduceIte, reduceCtorEq]
      rw [Bool.eq_iff_iff]; simp only [decide_eq_true_eq, beq_iff_eq, tmod0]
    rw [hr, hb]
    clear hr
    go_enter Try.func60, Try.ntmps60
    repeat' (first | (with_reducible refine ex_then ?_) | (with_reducible refine ex_norm ?_) | (with_reducible refine ex_eq ?_) | ((with_reducible refine ex_ne ?_ ?_); exact rfl) | (with_reducible refine ex_thenR ?_) | (with_reducible refine ex_inN ?_) | (with_reducible refine ex_inR ?_) | go_values | go_skip | go_guarded | go_step | go_upon)
    go_ret
    exact ⟨rfl, rfl⟩
set_option maxHeartbeats 4000000 in
set_option maxRecDepth 100000 in
theorem imm_R_1 (n : Int) (w : World) : Calls Try.prog 60 #[.int .i64 1, .int .i32 n] w fun e w' => e = .returned (.bool (immR 1 n)) ∧ w' = w := by
  have hr : immR 1 n = (decide (-1048576 ≤ n) && decide (n < 1048576) && (n.tmod 2 == 0)) := by
    simp only [immR, fmR, immOk, List.getD_cons_zero, List.getD_cons_succ, reduceIte, reduceCtorEq, Nat.reduceEqDiff]
    rw [Bool.eq_iff_iff]; simp only [decide_eq_true_eq, beq_iff_eq, Bool.and_eq_true, tmod0]; try omega
  rw [hr]
  clear hr
  cases h1 : decide (-1048576 ≤ n)
  case' true => cases h2 : decide (n < 1048576)
  case' true.true => cases h3 : (n.tmod 2 == 0)
  all_goals
    simp only [Bool.false_and, Bool.true_and, Bool.and_false, Bool.and_true]
    go_enter Try.func60, Try.ntmps60
    repeat' (first | (with_reducible refine ex_then ?_) | (with_reducible refine ex_norm ?_) | (with_reducible refine ex_eq ?_) | ((with_reducible refine ex_ne ?_ ?_); exact rfl) | (with_reducible refine ex_thenR ?_) | (with_reducible refine ex_inN ?_) | (with_reducible refine ex_inR ?_) | go_values | go_skip | go_guarded | go_step | go_upon)
    go_ret
    exact ⟨rfl, rfl⟩
set_option maxHeartbeats 4000000 in
set_option maxRecDepth 100000 in
theorem imm_R_2 (n : Int) (w : World) : Calls Try.prog 60 #[.int .i64 2, .int .i32 n] w fun e w' => e = .returned (.bool (immR 2 n)) ∧ w' = w := by
  have hr : immR 2 n = (decide (-2048 ≤ n) && decide (n < 2048)) := by
    simp only [immR, fmR, immOk, List.getD_cons_zero, List.getD_cons_succ, reduceIte, reduceCtorEq, Nat.reduceEqDiff]
    rw [Bool.eq_iff_iff]; simp only [decide_eq_true_eq, beq_iff_eq, Bool.and_eq_true, tmod0]; try omega
  rw [hr]
  clear hr
  cases h1 : decide (-2048 ≤ n)
  case' true => cases h2 : decide (n < 2048)
  all_goals
    simp only [Bool.false_and, Bool.true_and, Bool.and_false, Bool.and_true]
    go_enter Try.func60, Try.ntmps60
    repeat' (first | (with_reducible refine ex_then ?_) | (with_reducible refine ex_norm ?_) | (with_reducible refine ex_eq ?_) | ((with_reducible refine ex_ne ?_ ?_); exact rfl) | (with_reducible refine ex_thenR ?_) | (with_reducible refine ex_inN ?_) | (with_reducible refine ex_inR ?_) | go_values | go_skip | go_guarded | go_step | go_upon)
    go_ret
    exact ⟨rfl, rfl⟩
set_option maxHeartbeats 4000000 in
set_option maxRecDepth 100000 in
theorem imm_R_3 (n : Int) (w : World) : Calls Try.prog 60 #[.int .i64 3, .int .i32 n] w fun e w' => e = .returned (.bool (immR 3 n)) ∧ w' = w := by
  have hr : immR 3 n = (decide (0 ≤ n) && decide (n < 4096)) := by
    simp only [immR, fmR, immOk, List.getD_cons_zero, List.getD_cons_succ, reduceIte, reduceCtorEq, Nat.reduceEqDiff]
    rw [Bool.eq_iff_iff]; simp only [decide_eq_true_eq, beq_iff_eq, Bool.and_eq_true, tmod0]; try omega
  rw [hr]
  clear hr
  cases h1 : decide (0 ≤ n)
  case' true => cases h2 : decide (n < 4096)
  all_goals
    simp only [Bool.false_and, Bool.true_and, Bool.and_false, Bool.and_true]
    go_enter Try.func60, Try.ntmps60
    repeat' (first | (with_reducible refine ex_then ?_) | (with_reducible refine ex_norm ?_) | (with_reducible refine ex_eq ?_) | ((with_reducible refine ex_ne ?_ ?_); exact rfl) | (with_reducible refine ex_thenR ?_) | (with_reducible refine ex_inN ?_) | (with_reducible refine ex_inR ?_) | go_values | go_skip | go_guarded | go_step | go_upon)
    go_ret
    exact ⟨rfl, rfl⟩
set_option maxHeartbeats 4000000 in
set_option maxRecDepth 100000 in
theorem imm_R_4 (n : Int) (w : World) : Calls Try.prog 60 #[.int .i64 4, .int .i32 n] w fun e w' => e = .returned (.bool (immR 4 n)) ∧ w' = w := by
  have hr : immR 4 n = (decide (0 ≤ n) && decide (n < 32)) := by
    simp only [immR, fmR, immOk, List.getD_cons_zero, List.getD_cons_succ, reduceIte, reduceCtorEq, Nat.reduceEqDiff]
    rw [Bool.eq_iff_iff]; simp only [decide_eq_true_eq, beq_iff_eq, Bool.and_eq_true, tmod0]; try omega
  rw [hr]
  clear hr
  cases h1 : decide (0 ≤ n)
  case' true => cases h2 : decide (n < 32)
  all_goals
    simp only [Bool.false_and, Bool.true_and, Bool.and_false, Bool.and_true]
    go_enter Try.func60, Try.ntmps60
    repeat' (first | (with_reducible refine ex_then ?_) | (with_reducible refine ex_norm ?_) | (with_reducible refine ex_eq ?_) | ((with_reducible refine ex_ne ?_ ?_); exact rfl) | (with_reducible refine ex_thenR ?_) | (with_reducible refine ex_inN ?_) | (with_reducible refine ex_inR ?_) | go_values | go_skip | go_guarded | go_step | go_upon)
    go_ret
    exact ⟨rfl, rfl⟩
set_option maxHeartbeats 4000000 in
set_option maxRecDepth 100000 in
theorem imm_R_5 (n : Int) (w : World) : Calls Try.prog 60 #[.int .i64 5, .int .i32 n] w fun e w' => e = .returned (.bool (immR 5 n)) ∧ w' = w := by
  have hr : immR 5 n = (decide (-2048 ≤ n) && decide (n < 2048)) := by
    simp only [immR, fmR, immOk, List.getD_cons_zero, List.getD_cons_succ, reduceIte, reduceCtorEq, Nat.reduceEqDiff]
    rw [Bool.eq_iff_iff]; simp only [decide_eq_true_eq, beq_iff_eq, Bool.and_eq_true, tmod0]; try omega
  rw [hr]
  clear hr
  cases h1 : decide (-2048 ≤ n)
  case' true => cases h2 : decide (n < 2048)
  all_goals
    simp only [Bool.false_and, Bool.true_and, Bool.and_false, Bool.and_true]
    go_enter Try.func60, Try.ntmps60
    repeat' (first | (with_reducible refine ex_then ?_) | (with_reducible refine ex_norm ?_) | (with_reducible refine ex_eq ?_) | ((with_reducible refine ex_ne ?_ ?_); exact rfl) | (with_reducible refine ex_thenR ?_) | (with_reducible refine ex_inN ?_) | (with_reducible refine ex_inR ?_) | go_values | go_skip | go_guarded | go_step | go_upon)
    go_ret
    exact ⟨rfl, rfl⟩
set_option maxHeartbeats 4000000 in
set_option maxRecDepth 100000 in
theorem imm_R_6 (n : Int) (w : World) : Calls Try.prog 60 #[.int .i64 6, .int .i32 n] w fun e w' => e = .returned (.bool (immR 6 n)) ∧ w' = w := by
  have hr : immR 6 n = (decide (-4096 ≤ n) && decide (n < 4096) && (n.tmod 2 == 0)) := by
    simp only [immR, fmR, immOk, List.getD_cons_zero, List.getD_cons_succ, reduceIte, reduceCtorEq, Nat.reduceEqDiff]
    rw [Bool.eq_iff_iff]; simp only [decide_eq_true_eq, beq_iff_eq, Bool.and_eq_true, tmod0]; try omega
  rw [hr]
  clear hr
  cases h1 : decide (-4096 ≤ n)
  case' true => cases h2 : decide (n < 4096)
  case' true.true => cases h3 : (n.tmod 2 == 0)
  all_goals
    simp only [Bool.false_and, Bool.true_and, Bool.and_false, Bool.and_true]
    go_enter Try.func60, Try.ntmps60
    repeat' (first | (with_reducible refine ex_then ?_) | (with_reducible refine ex_norm ?_) | (with_reducible refine ex_eq ?_) | ((with_reducible refine ex_ne ?_ ?_); exact rfl) | (with_reducible refine ex_thenR ?_) | (with_reducible refine ex_inN ?_) | (with_reducible refine ex_inR ?_) | go_values | go_skip | go_guarded | go_step | go_upon)
    go_ret
    exact ⟨rfl, rfl⟩
set_option maxHeartbeats 4000000 in
set_option maxRecDepth 100000 in
theorem imm_R_7 (n : Int) (w : World) : Calls Try.prog 60 #[.int .i64 7, .int .i32 n] w fun e w' => e = .returned (.bool (immR 7 n)) ∧ w' = w := by
  cases hb : (n == 0)
  all_goals
    have hr : immR 7 n = (n == 0) := by
      rw [Bool.eq_iff_iff]; simp [immR, fmR, immOk]
    rw [hr, hb]
    clear hr
    go_enter Try.func60, Try.ntmps60
    repeat' (first | (with_reducible refine ex_then ?_) | (with_reducible refine ex_norm ?_) | (with_reducible refine ex_eq ?_) | ((with_reducible refine ex_ne ?_ ?_); exact rfl) | (with_reducible refine ex_thenR ?_) | (with_reducible refine ex_inN ?_) | (with_reducible refine ex_inR ?_) | go_values | go_skip | go_guarded | go_step | go_upon)
    go_ret
    exact ⟨rfl, rfl⟩
set_option maxHeartbeats 4000000 in
set_option maxRecDepth 100000 in
theorem imm_R_8 (n : Int) (w : World) : Calls Try.prog 60 #[.int .i64 8, .int .i32 n] w fun e w' => e = .returned (.bool (immR 8 n)) ∧ w' = w := by
  cases hb : (n == 0)
  all_goals
    have hr : immR 8 n = (n == 0) := by
      rw [Bool.eq_iff_iff]; simp [immR, fmR, immOk]
    rw [hr, hb]
    clear hr
    go_enter Try.func60, Try.ntmps60
    repeat' (first | (with_reducible refine ex_then ?_) | (with_reducible refine ex_norm ?_) | (with_reducible refine ex_eq ?_) | ((with_reducible refine ex_ne ?_ ?_); exact rfl) | (with_reducible refine ex_thenR ?_) | (with_reducible refine ex_inN ?_) | (with_reducible refine ex_inR ?_) | go_values | go_skip | go_guarded | go_step | go_upon)
    go_ret
    exact ⟨rfl, rfl⟩
set_option maxHeartbeats 4000000 in
set_option maxRecDepth 100000 in
theorem imm_R_9 (n : Int) (w : World) : Calls Try.prog 60 #[.int .i64 9, .int .i32 n] w fun e w' => e = .returned (.bool (immR 9 n)) ∧ w' = w := by
  have hr : immR 9 n = (decide (27 ≤ n) && decide (n ≤ 31)) := by
    simp only [immR, fmR, immOk, List.getD_cons_zero, List.getD_cons_succ, reduceIte, reduceCtorEq, Nat.reduceEqDiff]
    rw [Bool.eq_iff_iff]; simp only [decide_eq_true_eq, beq_iff_eq, Bool.and_eq_true, tmod0]; try omega
  rw [hr]
  clear hr
  cases h1 : decide (27 ≤ n)
  case' true => cases h2 : decide (n ≤ 31)
  all_goals
    simp only [Bool.false_and, Bool.true_and, Bool.and_false, Bool.and_true]
    go_enter Try.func60, Try.ntmps60
    repeat' (first | (with_reducible refine ex_then ?_) | (with_reducible refine ex_norm ?_) | (with_reducible refine ex_eq ?_) | ((with_reducible refine ex_ne ?_ ?_); exact rfl) | (with_reducible refine ex_thenR ?_) | (with_reducible refine ex_inN ?_) | (with_reducible refine ex_inR ?_) | go_values | go_skip | go_guarded | go_step | go_upon)
    go_ret
    exact ⟨rfl, rfl⟩
set_option maxHeartbeats 4000000 in
set_option maxRecDepth 100000 in
theorem imm_R_10 (n : Int) (w : World) : Calls Try.prog 60 #[.int .i64 10, .int .i32 n] w fun e w' => e = .returned (.bool (immR 10 n)) ∧ w' = w := by
  cases hb : (n == 0)
  all_goals
    have hr : immR 10 n = (n == 0) := by
      rw [Bool.eq_iff_iff]; simp [immR, fmR, immOk]
    rw [hr, hb]
    clear hr
    go_enter Try.func60, Try.ntmps60
    repeat' (first | (with_reducible refine ex_then ?_) | (with_reducible refine ex_norm ?_) | (with_reducible refine ex_eq ?_) | ((with_reducible refine ex_ne ?_ ?_); exact rfl) | (with_reducible refine ex_thenR ?_) | (with_reducible refine ex_inN ?_) | (with_reducible refine ex_inR ?_) | go_values | go_skip | go_guarded | go_step | go_upon)
    go_ret
    exact ⟨rfl, rfl⟩
end Go.Proofs.Ythkbjoglhfclmaa.Ins
