/- The getters of the package instr leave the world as it is. No condition. -/
import Derived.Test.YtadbonmkockakaaQInsA
namespace Go.Proofs.Ytadbonmkockakaa.Ins
open Go.RowKit Go.Proofs.YtadbonmkockakaaW.PrintWords Go.Proofs.YtadbonmkockakaaW.PrintLast Go.Proofs.Ytadbonmkockakaa.Alu
set_option linter.unusedVariables false
set_option linter.unusedSimpArgs false
set_option maxHeartbeats 1000000 in
theorem sign_21_s (v : Int) (w : World) (h0 : 0 ≤ v) (h1 : v < 4294967296) : Calls Try.prog 84 #[.int .u32 v, .int .i64 21] w fun e w' => e = .returned (.int .i32 ((v + 1048576) % (2 * 1048576) - 1048576)) ∧ w = w' := by
  have hs := sign_is v 21 (by decide) h0 h1 2048 1048576 (by decide) (by decide)
  have HS := Aside0.mk hs
  clear hs
  go_enter Try.func84, Try.ntmps84
  go_wp2
  go_ret
  exact ⟨by rw [← HS.out]; first | rfl | simp, rfl⟩
set_option maxHeartbeats 1000000 in
theorem sign_12_s (v : Int) (w : World) (h0 : 0 ≤ v) (h1 : v < 4294967296) : Calls Try.prog 84 #[.int .u32 v, .int .i64 12] w fun e w' => e = .returned (.int .i32 ((v + 2048) % (2 * 2048) - 2048)) ∧ w = w' := by
  have hs := sign_is v 12 (by decide) h0 h1 1048576 2048 (by decide) (by decide)
  have HS := Aside0.mk hs
  clear hs
  go_enter Try.func84, Try.ntmps84
  go_wp2
  go_ret
  exact ⟨by rw [← HS.out]; first | rfl | simp, rfl⟩
set_option maxHeartbeats 1000000 in
theorem sign_13_s (v : Int) (w : World) (h0 : 0 ≤ v) (h1 : v < 4294967296) : Calls Try.prog 84 #[.int .u32 v, .int .i64 13] w fun e w' => e = .returned (.int .i32 ((v + 4096) % (2 * 4096) - 4096)) ∧ w = w' := by
  have hs := sign_is v 13 (by decide) h0 h1 524288 4096 (by decide) (by decide)
  have HS := Aside0.mk hs
  clear hs
  go_enter Try.func84, Try.ntmps84
  go_wp2
  go_ret
  exact ⟨by rw [← HS.out]; first | rfl | simp, rfl⟩
set_option maxHeartbeats 1000000 in
set_option maxRecDepth 100000 in
theorem clo_75_s (n : Int) (w : World) (h0 : 0 ≤ n) (h1 : n < 4294967296) : Calls Try.prog 81 #[.int .u32 n] w fun e w' => e = .returned (.int .i32 (wrap32 (n - n % 4096))) ∧ w = w' := by
  have HF0 := Aside0.mk (andNot4095 n h0 h1)
  go_enter Try.func81, Try.ntmps81
  go_wp2
  go_ret
  refine ⟨congrArg (fun x => Ending.returned (.int .i32 x)) ?_, rfl⟩
  have f0 := HF0.out; first | rw [f0] | simp only [f0]
set_option maxHeartbeats 1000000 in
set_option maxRecDepth 100000 in
theorem clo_77_s (n : Int) (w : World) (h0 : 0 ≤ n) (h1 : n < 4294967296) : Calls Try.prog 83 #[.int .u32 n] w fun e w' => e = .returned (.int .i32 (((n / 2147483648 * 1048576 + n / 4096 % 256 * 4096 + n / 1048576 % 2 * 2048 + n / 2097152 % 1024 * 2) + 1048576) % (2 * 1048576) - 1048576)) ∧ w = w' := by
  have f0 := and_low (n / 4096) 8 (by decide) (by omega) (by omega)
  have f1 := and_low (n / 1048576) 1 (by decide) (by omega) (by omega)
  have f2 := and_low (n / 2097152) 10 (by decide) (by omega) (by omega)
  have he : Go.bits .or .u32 (Go.bits .or .u32 (Go.bits .or .u32 (n / 2147483648 * 1048576) (Go.bits .and .u32 (n / 4096) 255 * 4096 % 4294967296)) (Go.bits .and .u32 (n / 1048576) 1 * 2048 % 4294967296)) (Go.bits .and .u32 (n / 2097152) 1023 * 2 % 4294967296) = (n / 2147483648 * 1048576 + n / 4096 % 256 * 4096 + n / 1048576 % 2 * 2048 + n / 2097152 % 1024 * 2) := by
    simp only [Int.reducePow, Int.reduceSub] at *
    simp only [f0, f1, f2]
    rw [show n / 4096 % 256 * 4096 % 4294967296 = n / 4096 % 256 * 4096 from by omega, show n / 1048576 % 2 * 2048 % 4294967296 = n / 1048576 % 2 * 2048 from by omega, show n / 2097152 % 1024 * 2 % 4294967296 = n / 2097152 % 1024 * 2 from by omega]
    rw [or_dn (n / 2147483648 * 1048576) (n / 4096 % 256 * 4096) 20 (by omega) (by omega) (by omega) (by omega) (by omega) (by omega), or_dn (n / 2147483648 * 1048576 + n / 4096 % 256 * 4096) (n / 1048576 % 2 * 2048) 12 (by omega) (by omega) (by omega) (by omega) (by omega) (by omega), or_dn (n / 2147483648 * 1048576 + n / 4096 % 256 * 4096 + n / 1048576 % 2 * 2048) (n / 2097152 % 1024 * 2) 11 (by omega) (by omega) (by omega) (by omega) (by omega) (by omega)]
  have HE := Aside0.mk he
  clear he f0 f1 f2
  go_enter Try.func83, Try.ntmps83
  go_wp2_with fail
  rw [HE.out]
  refine (sign_21_s ((n / 2147483648 * 1048576 + n / 4096 % 256 * 4096 + n / 1048576 % 2 * 2048 + n / 2097152 % 1024 * 2)) _ (by omega) (by omega)).mono ?_
  rintro e w' ⟨rfl, rfl⟩
  go_wp2
  go_ret
  exact ⟨by first | rfl | simp, rfl⟩
set_option maxHeartbeats 1000000 in
set_option maxRecDepth 100000 in
theorem clo_80_s (n : Int) (w : World) (h0 : 0 ≤ n) (h1 : n < 4294967296) : Calls Try.prog 86 #[.int .u32 n] w fun e w' => e = .returned (.int .i32 (wrap32 n / 1048576)) ∧ w = w' := by
  go_enter Try.func86, Try.ntmps86
  go_wp2
  go_ret
  refine ⟨congrArg (fun x => Ending.returned (.int .i32 x)) ?_, rfl⟩
  first | rfl | (unfold wrap32; omega)
set_option maxHeartbeats 1000000 in
set_option maxRecDepth 100000 in
theorem clo_82_s (n : Int) (w : World) (h0 : 0 ≤ n) (h1 : n < 4294967296) : Calls Try.prog 88 #[.int .u32 n] w fun e w' => e = .returned (.int .i32 (((n / 2147483648 * 4096 + n / 128 % 2 * 2048 + n / 33554432 % 64 * 32 + n / 256 % 16 * 2) + 4096) % (2 * 4096) - 4096)) ∧ w = w' := by
  have f0 := and_low (n / 128) 1 (by decide) (by omega) (by omega)
  have f1 := and_low (n / 33554432) 6 (by decide) (by omega) (by omega)
  have f2 := and_low (n / 256) 4 (by decide) (by omega) (by omega)
  have he : Go.bits .or .u32 (Go.bits .or .u32 (Go.bits .or .u32 (n / 2147483648 * 4096) (Go.bits .and .u32 (n / 128) 1 * 2048 % 4294967296)) (Go.bits .and .u32 (n / 33554432) 63 * 32 % 4294967296)) (Go.bits .and .u32 (n / 256) 15 * 2 % 4294967296) = (n / 2147483648 * 4096 + n / 128 % 2 * 2048 + n / 33554432 % 64 * 32 + n / 256 % 16 * 2) := by
    simp only [Int.reducePow, Int.reduceSub] at *
    simp only [f0, f1, f2]
    rw [show n / 128 % 2 * 2048 % 4294967296 = n / 128 % 2 * 2048 from by omega, show n / 33554432 % 64 * 32 % 4294967296 = n / 33554432 % 64 * 32 from by omega, show n / 256 % 16 * 2 % 4294967296 = n / 256 % 16 * 2 from by omega]
    rw [or_dn (n / 2147483648 * 4096) (n / 128 % 2 * 2048) 12 (by omega) (by omega) (by omega) (by omega) (by omega) (by omega), or_dn (n / 2147483648 * 4096 + n / 128 % 2 * 2048) (n / 33554432 % 64 * 32) 11 (by omega) (by omega) (by omega) (by omega) (by omega) (by omega), or_dn (n / 2147483648 * 4096 + n / 128 % 2 * 2048 + n / 33554432 % 64 * 32) (n / 256 % 16 * 2) 5 (by omega) (by omega) (by omega) (by omega) (by omega) (by omega)]
  have HE := Aside0.mk he
  clear he f0 f1 f2
  go_enter Try.func88, Try.ntmps88
  go_wp2_with fail
  rw [HE.out]
  refine (sign_13_s ((n / 2147483648 * 4096 + n / 128 % 2 * 2048 + n / 33554432 % 64 * 32 + n / 256 % 16 * 2)) _ (by omega) (by omega)).mono ?_
  rintro e w' ⟨rfl, rfl⟩
  go_wp2
  go_ret
  exact ⟨by first | rfl | simp, rfl⟩
set_option maxHeartbeats 1000000 in
set_option maxRecDepth 100000 in
theorem clo_84_s (n : Int) (w : World) (h0 : 0 ≤ n) (h1 : n < 4294967296) : Calls Try.prog 90 #[.int .u32 n] w fun e w' => e = .returned (.int .i32 (((n / 33554432 * 32 + n / 128 % 32) + 2048) % (2 * 2048) - 2048)) ∧ w = w' := by
  have f0 := and_low (n / 128) 5 (by decide) (by omega) (by omega)
  have he : Go.bits .or .u32 (n / 33554432 * 32) (Go.bits .and .u32 (n / 128) 31) = (n / 33554432 * 32 + n / 128 % 32) := by
    simp only [Int.reducePow, Int.reduceSub] at *
    simp only [f0]
    rw [or_dn (n / 33554432 * 32) (n / 128 % 32) 5 (by omega) (by omega) (by omega) (by omega) (by omega) (by omega)]
  have HE := Aside0.mk he
  clear he f0
  go_enter Try.func90, Try.ntmps90
  go_wp2_with fail
  rw [HE.out]
  refine (sign_12_s ((n / 33554432 * 32 + n / 128 % 32)) _ (by omega) (by omega)).mono ?_
  rintro e w' ⟨rfl, rfl⟩
  go_wp2
  go_ret
  exact ⟨by first | rfl | simp, rfl⟩
set_option maxHeartbeats 1000000 in
set_option maxRecDepth 100000 in
theorem clo_86_s (n : Int) (w : World) (h0 : 0 ≤ n) (h1 : n < 4294967296) : Calls Try.prog 92 #[.int .u32 n] w fun e w' => e = .returned (.int .i32 (n / 1048576 % 32)) ∧ w = w' := by
  have HF0 := Aside0.mk (and_low (n / 1048576) 5 (by decide) (by omega) (by omega))
  go_enter Try.func92, Try.ntmps92
  go_wp2
  go_ret
  refine ⟨congrArg (fun x => Ending.returned (.int .i32 x)) ?_, rfl⟩
  have f0 := HF0.out; simp only [Int.reducePow, Int.reduceSub] at f0; simp only [f0]; unfold wrap32; omega
theorem clo_88_s (n : Int) (w : World) : Calls Try.prog 94 #[.int .u32 n] w fun e w' => e = .returned (.int .i32 0) ∧ w = w' := by
  go_enter Try.func94, Try.ntmps94
  go_wp2
  go_ret
  exact ⟨rfl, rfl⟩
set_option maxHeartbeats 1000000 in
set_option maxRecDepth 100000 in
theorem clo_89_s (n : Int) (w : World) (h0 : 0 ≤ n) (h1 : n < 4294967296) : Calls Try.prog 95 #[.int .u32 n] w fun e w' => e = .returned (.int .i32 (n / 1048576)) ∧ w = w' := by
  go_enter Try.func95, Try.ntmps95
  go_wp2
  go_ret
  refine ⟨congrArg (fun x => Ending.returned (.int .i32 x)) ?_, rfl⟩
  first | rfl | (unfold wrap32; omega) | omega
end Go.Proofs.Ytadbonmkockakaa.Ins
