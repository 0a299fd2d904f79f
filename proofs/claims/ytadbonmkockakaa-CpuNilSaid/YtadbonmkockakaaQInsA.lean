/- Contracts of the small functions of the package instr: forms, what lays a number into a word and takes it out, registers. No condition. -/
import Derived.Test.YtadbonmkockakaaQAluC
import Derived.Laws.EntriesVeiled
namespace Go.Proofs.Ytadbonmkockakaa.Ins
open Go.RowKit Go.Proofs.YtadbonmkockakaaW.PrintWords Go.Proofs.YtadbonmkockakaaW.PrintLast Go.Proofs.Ytadbonmkockakaa.Alu
set_option linter.unusedVariables false
set_option linter.unusedSimpArgs false

theorem u32_in (n : Int) (h0 : 0 ≤ n) (h1 : n < 2 ^ 32) : IntKind.u32.wrap n = n := by rw [IntKind.wrap_u32]; omega
theorem and_low (x : Int) (i : Nat) (hi : i ≤ 32) (h0 : 0 ≤ x) (h1 : x < 4294967296) : Go.bits .and .u32 x (2 ^ i - 1) = x % 2 ^ i :=
  bits_mask .u32 32 (by decide) u32_in i hi x h0 h1
theorem or_dn (x y : Int) (i : Nat) (hx0 : 0 ≤ x) (hx : x % 2 ^ i = 0) (hx1 : x < 4294967296) (hy0 : 0 ≤ y) (hy : y < 2 ^ i) (hy1 : y < 4294967296) : Go.bits .or .u32 x y = x + y :=
  bits_join .u32 32 (by decide) u32_in i x y hx0 hx hx1 hy0 hy hy1
theorem or_comm (x y : Int) : Go.bits .or .u32 x y = Go.bits .or .u32 y x := by
  show IntKind.u32.wrap ((BitVec.ofInt 32 x ||| BitVec.ofInt 32 y).toNat) = IntKind.u32.wrap ((BitVec.ofInt 32 y ||| BitVec.ofInt 32 x).toNat)
  rw [BitVec.or_comm]
theorem or_up (x y : Int) (i : Nat) (hx0 : 0 ≤ x) (hx : x < 2 ^ i) (hx1 : x < 4294967296) (hy0 : 0 ≤ y) (hy : y % 2 ^ i = 0) (hy1 : y < 4294967296) : Go.bits .or .u32 x y = x + y := by
  rw [or_comm, or_dn y x i hy0 hy hy1 hx0 hx hx1, Int.add_comm]
theorem sign_is (v : Int) (b : Nat) (hb : b ≤ 31) (h0 : 0 ≤ v) (h1 : v < 4294967296) (K H : Int) (hK : (2 : Int) ^ (32 - b) = K) (hH : (2 : Int) ^ b = 2 * H) :
    wrap32 (v * K % 4294967296) / K = (v + H) % (2 * H) - H := by
  have e : K * (2 * H) = 4294967296 := by
    rw [← hK, ← hH, ← Int.pow_add, show 32 - b + b = 32 from by omega]; decide
  have k0 : 0 < K := by rw [← hK]; exact Int.pow_pos (by decide)
  have h2 : 0 < H := by
    have : (0 : Int) < 2 ^ b := Int.pow_pos (by decide)
    omega
  have q := Int.mul_ediv_add_emod v (2 * H)
  have r0 := Int.emod_nonneg v (by omega : 2 * H ≠ 0)
  have r1 := Int.emod_lt_of_pos v (by omega : 0 < 2 * H)
  generalize v / (2 * H) = t at *
  generalize hr : v % (2 * H) = r at *
  have e1 : v * K % 4294967296 = r * K := by
    have tt : 2 * H * t * K = 4294967296 * t := by rw [← e, Int.mul_comm (2 * H * t) K, ← Int.mul_assoc]
    have : v * K = r * K + 4294967296 * t := by rw [← q, Int.add_mul, tt]; omega
    rw [this, Int.add_mul_emod_self_left]
    refine Int.emod_eq_of_lt (Int.mul_nonneg r0 (by omega)) ?_
    have : r * K < (2 * H) * K := Int.mul_lt_mul_of_pos_right r1 k0
    rw [Int.mul_comm (2 * H) K, e] at this; exact this
  have e3 : K * H = 2147483648 := by have : K * (2 * H) = 2 * (K * H) := by rw [Int.mul_left_comm]
                                     omega
  rw [e1]
  by_cases g : r < H
  · have g1 : r * K < H * K := Int.mul_lt_mul_of_pos_right g k0
    rw [Int.mul_comm H K, e3] at g1
    have g2 : 0 ≤ r * K := Int.mul_nonneg r0 (by omega)
    have e4 : wrap32 (r * K) = r * K := by unfold wrap32; omega
    rw [e4, Int.mul_ediv_cancel _ (by omega)]
    have e5 : (v + H) % (2 * H) = r + H := by
      rw [← q, show 2 * H * t + r + H = (r + H) + 2 * H * t from by omega, Int.add_mul_emod_self_left]
      exact Int.emod_eq_of_lt (by omega) (by omega)
    omega
  · have g1 : H * K ≤ r * K := Int.mul_le_mul_of_nonneg_right (by omega) (by omega)
    have g3 : r * K < (2 * H) * K := Int.mul_lt_mul_of_pos_right r1 k0
    rw [Int.mul_comm H K, e3] at g1
    rw [Int.mul_comm (2 * H) K, e] at g3
    have e4 : wrap32 (r * K) = (r - 2 * H) * K := by
      have : (r - 2 * H) * K = r * K - 4294967296 := by rw [Int.sub_mul, Int.mul_comm (2 * H) K, e]
      rw [this]; unfold wrap32; omega
    rw [e4, Int.mul_ediv_cancel _ (by omega)]
    have e5 : (v + H) % (2 * H) = r - H := by
      rw [← q, show 2 * H * t + r + H = (r - H) + 2 * H * (t + 1) from by rw [Int.mul_add]; omega, Int.add_mul_emod_self_left]
      exact Int.emod_eq_of_lt (by omega) (by omega)
    omega

set_option maxHeartbeats 4000000 in
set_option maxRecDepth 100000 in
theorem form_upper (w : World) : Calls Try.prog 48 #[] w fun e w' => e = .returned (.agg #[.int .i64 1, .func (.func 80) #[] #[], .func (.func 81) #[] #[], .int .u32 127]) ∧ Below w.heap.size w w' := by
  go_enter Try.func48, Try.ntmps48
  go_wp2
  refine bodyPost_ret (v := .agg #[.int .i64 1, .func (.func 80) #[] #[], .func (.func 81) #[] #[], .int .u32 127]) (by simp [results, Try.results48, go_sem]) rfl ⟨rfl, ?_⟩
  exact below_alloc (Below.refl _ _) _

set_option maxHeartbeats 4000000 in
set_option maxRecDepth 100000 in
theorem form_jump (w : World) : Calls Try.prog 49 #[] w fun e w' => e = .returned (.agg #[.int .i64 1, .func (.func 82) #[] #[], .func (.func 83) #[] #[], .int .u32 127]) ∧ Below w.heap.size w w' := by
  go_enter Try.func49, Try.ntmps49
  go_wp2
  refine bodyPost_ret (v := .agg #[.int .i64 1, .func (.func 82) #[] #[], .func (.func 83) #[] #[], .int .u32 127]) (by simp [results, Try.results49, go_sem]) rfl ⟨rfl, ?_⟩
  exact below_alloc (Below.refl _ _) _

set_option maxHeartbeats 4000000 in
set_option maxRecDepth 100000 in
theorem form_imm (w : World) : Calls Try.prog 50 #[] w fun e w' => e = .returned (.agg #[.int .i64 3, .func (.func 85) #[] #[], .func (.func 86) #[] #[], .int .u32 28799]) ∧ Below w.heap.size w w' := by
  go_enter Try.func50, Try.ntmps50
  go_wp2
  refine bodyPost_ret (v := .agg #[.int .i64 3, .func (.func 85) #[] #[], .func (.func 86) #[] #[], .int .u32 28799]) (by simp [results, Try.results50, go_sem]) rfl ⟨rfl, ?_⟩
  exact below_alloc (Below.refl _ _) _

set_option maxHeartbeats 4000000 in
set_option maxRecDepth 100000 in
theorem form_branch (w : World) : Calls Try.prog 51 #[] w fun e w' => e = .returned (.agg #[.int .i64 6, .func (.func 87) #[] #[], .func (.func 88) #[] #[], .int .u32 28799]) ∧ Below w.heap.size w w' := by
  go_enter Try.func51, Try.ntmps51
  go_wp2
  refine bodyPost_ret (v := .agg #[.int .i64 6, .func (.func 87) #[] #[], .func (.func 88) #[] #[], .int .u32 28799]) (by simp [results, Try.results51, go_sem]) rfl ⟨rfl, ?_⟩
  exact below_alloc (Below.refl _ _) _

set_option maxHeartbeats 4000000 in
set_option maxRecDepth 100000 in
theorem form_store (w : World) : Calls Try.prog 53 #[] w fun e w' => e = .returned (.agg #[.int .i64 6, .func (.func 89) #[] #[], .func (.func 90) #[] #[], .int .u32 28799]) ∧ Below w.heap.size w w' := by
  go_enter Try.func53, Try.ntmps53
  go_wp2
  refine bodyPost_ret (v := .agg #[.int .i64 6, .func (.func 89) #[] #[], .func (.func 90) #[] #[], .int .u32 28799]) (by simp [results, Try.results53, go_sem]) rfl ⟨rfl, ?_⟩
  exact below_alloc (Below.refl _ _) _

set_option maxHeartbeats 4000000 in
set_option maxRecDepth 100000 in
theorem form_shift (w : World) : Calls Try.prog 54 #[] w fun e w' => e = .returned (.agg #[.int .i64 3, .func (.func 91) #[] #[], .func (.func 92) #[] #[], .int .u32 4261441663]) ∧ Below w.heap.size w w' := by
  go_enter Try.func54, Try.ntmps54
  go_wp2
  refine bodyPost_ret (v := .agg #[.int .i64 3, .func (.func 91) #[] #[], .func (.func 92) #[] #[], .int .u32 4261441663]) (by simp [results, Try.results54, go_sem]) rfl ⟨rfl, ?_⟩
  exact below_alloc (Below.refl _ _) _

set_option maxHeartbeats 4000000 in
set_option maxRecDepth 100000 in
theorem form_regs (w : World) : Calls Try.prog 56 #[] w fun e w' => e = .returned (.agg #[.int .i64 7, .func (.func 93) #[] #[], .func (.func 94) #[] #[], .int .u32 4261441663]) ∧ Below w.heap.size w w' := by
  go_enter Try.func56, Try.ntmps56
  go_wp2
  refine bodyPost_ret (v := .agg #[.int .i64 7, .func (.func 93) #[] #[], .func (.func 94) #[] #[], .int .u32 4261441663]) (by simp [results, Try.results56, go_sem]) rfl ⟨rfl, ?_⟩
  exact below_alloc (Below.refl _ _) _

set_option maxHeartbeats 4000000 in
set_option maxRecDepth 100000 in
theorem form_plain (w : World) : Calls Try.prog 57 #[] w fun e w' => e = .returned (.agg #[.int .i64 3, .func (.func 85) #[] #[], .func (.func 95) #[] #[], .int .u32 28799]) ∧ Below w.heap.size w w' := by
  go_enter Try.func57, Try.ntmps57
  go_wp2_with fail
  refine (form_imm _).mono ?_
  intro e w1 h; obtain ⟨h1, hb⟩ := h; subst h1
  have hz : w.heap.size + 1 ≤ w1.heap.size := by have := hb.size; simpa using this
  have hlt : w.heap.size < w1.heap.size := by omega
  have hb0 := hb.cell (p := ⟨w.heap.size, 0, none⟩) (by simp)
  have hb1 := hb.cell (p := ⟨w.heap.size, 1, none⟩) (by simp)
  have hb2 := hb.cell (p := ⟨w.heap.size, 2, none⟩) (by simp)
  have hb3 := hb.cell (p := ⟨w.heap.size, 3, none⟩) (by simp)
  have hf0 := hb.frozen (p := ⟨w.heap.size, 0, none⟩) (by simp)
  have hf1 := hb.frozen (p := ⟨w.heap.size, 1, none⟩) (by simp)
  have hf2 := hb.frozen (p := ⟨w.heap.size, 2, none⟩) (by simp)
  have hf3 := hb.frozen (p := ⟨w.heap.size, 3, none⟩) (by simp)
  simp [go_sem] at hb0 hb1 hb2 hb3 hf0 hf1 hf2 hf3
  have HB := Aside0.mk hb
  clear hb
  go_wp2
  refine bodyPost_ret (v := .agg #[.int .i64 3, .func (.func 85) #[] #[], .func (.func 95) #[] #[], .int .u32 28799]) (by simp [results, Try.results57, go_sem, hlt, hb0, hb1, hb2, hb3, hf0, hf1, hf2, hf3]) rfl ⟨rfl, ?_⟩
  have hB : Below w.heap.size w w1 := ((Below.refl _ _).alloc (Nat.le_refl _) _).trans (HB.out.mono (by simp))
  exact below_alloc ((((hB.setCell (Nat.le_refl _) _).setCell (Nat.le_refl _) _).setCell (Nat.le_refl _) _).setCell (Nat.le_refl _) _) _

set_option maxHeartbeats 4000000 in
set_option maxRecDepth 100000 in
theorem form_one (w : World) : Calls Try.prog 58 #[] w fun e w' => e = .returned (.agg #[.int .i64 3, .func (.func 93) #[] #[], .func (.func 94) #[] #[], .int .u32 4293947519]) ∧ Below w.heap.size w w' := by
  go_enter Try.func58, Try.ntmps58
  go_wp2
  refine bodyPost_ret (v := .agg #[.int .i64 3, .func (.func 93) #[] #[], .func (.func 94) #[] #[], .int .u32 4293947519]) (by simp [results, Try.results58, go_sem]) rfl ⟨rfl, ?_⟩
  exact below_alloc (Below.refl _ _) _

set_option maxHeartbeats 4000000 in
set_option maxRecDepth 100000 in
theorem form_alone (w : World) : Calls Try.prog 60 #[] w fun e w' => e = .returned (.agg #[.int .i64 0, .func (.func 93) #[] #[], .func (.func 94) #[] #[], .int .u32 4294967295]) ∧ Below w.heap.size w w' := by
  go_enter Try.func60, Try.ntmps60
  go_wp2
  refine bodyPost_ret (v := .agg #[.int .i64 0, .func (.func 93) #[] #[], .func (.func 94) #[] #[], .int .u32 4294967295]) (by simp [results, Try.results60, go_sem]) rfl ⟨rfl, ?_⟩
  exact below_alloc (Below.refl _ _) _

theorem andN_high (a : Nat) (h : a < 4294967296) : a &&& 4294963200 = a - a % 4096 := by
  have e : (4294963200 : Nat) = (2 ^ 20 - 1) <<< 12 := by decide
  have e2 : a - a % 4096 = (a >>> 12) <<< 12 := by rw [Nat.shiftRight_eq_div_pow, Nat.shiftLeft_eq]; omega
  rw [e, e2]
  apply Nat.eq_of_testBit_eq
  intro i
  rw [Nat.testBit_and, Nat.testBit_shiftLeft, Nat.testBit_shiftLeft, Nat.testBit_two_pow_sub_one, Nat.testBit_shiftRight]
  by_cases hi : 12 ≤ i
  · rw [show 12 + (i - 12) = i from by omega]
    by_cases h32 : i < 32
    · simp [hi]; intro _; omega
    · have : a.testBit i = false := Nat.testBit_lt_two_pow (Nat.lt_of_lt_of_le h (by rw [show (4294967296 : Nat) = 2 ^ 32 from by decide]; exact Nat.pow_le_pow_right (by decide) (by omega)))
      simp [this]
  · simp [hi]
theorem andNot4095 (x : Int) (h0 : 0 ≤ x) (h1 : x < 4294967296) : Go.bits .andNot .u32 x 4095 = x - x % 4096 := by
  obtain ⟨a, rfl⟩ := Int.eq_ofNat_of_zero_le h0
  have ha : a < 4294967296 := by omega
  have : (BitVec.ofInt 32 (a : Int) &&& ~~~ BitVec.ofInt 32 4095).toNat = a - a % 4096 := by
    rw [BitVec.toNat_and, BitVec.ofInt_natCast, BitVec.toNat_ofNat, show (~~~ BitVec.ofInt 32 4095).toNat = 4294963200 from by decide, Nat.mod_eq_of_lt (by omega)]
    exact andN_high a ha
  show IntKind.u32.wrap ((BitVec.ofInt 32 (a : Int) &&& ~~~ BitVec.ofInt 32 4095).toNat) = _
  rw [this, IntKind.wrap_u32]
  omega
theorem and_rs2 (x : Int) (h0 : 0 ≤ x) (h1 : x < 4294967296) (hm : x % 1048576 = 0) : Go.bits .and .u32 x 32505856 = x % 33554432 := by
  obtain ⟨a, rfl⟩ := Int.eq_ofNat_of_zero_le h0
  rw [show (32505856 : Int) = ((32505856 : Nat) : Int) from rfl, (bits_nat .u32 32 (by decide) u32_in a 32505856 (by omega) (by decide)).1]
  have e : a &&& 32505856 = a % 33554432 := by
    have ha : a = (a / 1048576) <<< 20 := by rw [Nat.shiftLeft_eq]; omega
    have hc : (32505856 : Nat) = (2 ^ 5 - 1) <<< 20 := by decide
    rw [hc]
    conv => lhs; rw [ha]
    rw [← Nat.shiftLeft_and_distrib, Nat.and_two_pow_sub_one_eq_mod, Nat.shiftLeft_eq]
    omega
  rw [e]; omega

set_option maxHeartbeats 1000000 in
set_option maxRecDepth 100000 in
theorem clo_74 (n : Int) (w : World) (h0 : 0 ≤ n) (h1 : n < 4294967296) : Calls Try.prog 80 #[.int .u32 n] w fun e w' => e = .returned (.int .u32 (n - n % 4096)) ∧ Drawn0 w w' := by
  have HF0 := Aside0.mk (andNot4095 n h0 h1)
  go_enter Try.func80, Try.ntmps80
  go_wp2
  go_ret
  refine ⟨congrArg (fun x => Ending.returned (.int .u32 x)) ?_, by repeat (first | exact Drawn0.refl _ | apply Drawn0.step)⟩
  have f0 := HF0.out; first | exact f0 | (simp only [f0])

set_option maxHeartbeats 1000000 in
set_option maxRecDepth 100000 in
theorem clo_76 (n : Int) (w : World) (h0 : 0 ≤ n) (h1 : n < 4294967296) : Calls Try.prog 82 #[.int .u32 n] w fun e w' => e = .returned (.int .u32 (n / 1048576 % 2 * 2147483648 + n / 2 % 1024 * 2097152 + n / 2048 % 2 * 1048576 + n / 4096 % 256 * 4096)) ∧ Drawn0 w w' := by
  have HF0 := Aside0.mk (and_low (n / 1048576) 1 (by decide) (by omega) (by omega))
  have HF1 := Aside0.mk (and_low (n / 2) 10 (by decide) (by omega) (by omega))
  have HF2 := Aside0.mk (and_low (n / 2048) 1 (by decide) (by omega) (by omega))
  have HF3 := Aside0.mk (and_low (n / 4096) 8 (by decide) (by omega) (by omega))
  go_enter Try.func82, Try.ntmps82
  go_wp2
  go_ret
  refine ⟨congrArg (fun x => Ending.returned (.int .u32 x)) ?_, by repeat (first | exact Drawn0.refl _ | apply Drawn0.step)⟩
  have f0 := HF0.out; have f1 := HF1.out; have f2 := HF2.out; have f3 := HF3.out; (simp only [Int.reducePow, Int.reduceSub] at *); simp only [f0, f1, f2, f3]; rw [or_dn (n / 1048576 % 2 * 2147483648 % 4294967296) (n / 2 % 1024 * 2097152 % 4294967296) 31 (by omega) (by omega) (by omega) (by omega) (by omega) (by omega), or_dn (n / 1048576 % 2 * 2147483648 % 4294967296 + n / 2 % 1024 * 2097152 % 4294967296) (n / 2048 % 2 * 1048576 % 4294967296) 21 (by omega) (by omega) (by omega) (by omega) (by omega) (by omega), or_dn (n / 1048576 % 2 * 2147483648 % 4294967296 + n / 2 % 1024 * 2097152 % 4294967296 + n / 2048 % 2 * 1048576 % 4294967296) (n / 4096 % 256 * 4096 % 4294967296) 20 (by omega) (by omega) (by omega) (by omega) (by omega) (by omega)] <;> omega

set_option maxHeartbeats 1000000 in
set_option maxRecDepth 100000 in
theorem clo_79 (n : Int) (w : World) (h0 : 0 ≤ n) (h1 : n < 4294967296) : Calls Try.prog 85 #[.int .u32 n] w fun e w' => e = .returned (.int .u32 (n % 4096 * 1048576)) ∧ Drawn0 w w' := by
  go_enter Try.func85, Try.ntmps85
  go_wp2
  go_ret
  refine ⟨congrArg (fun x => Ending.returned (.int .u32 x)) ?_, by repeat (first | exact Drawn0.refl _ | apply Drawn0.step)⟩
  omega

set_option maxHeartbeats 1000000 in
set_option maxRecDepth 100000 in
theorem clo_81 (n : Int) (w : World) (h0 : 0 ≤ n) (h1 : n < 4294967296) : Calls Try.prog 87 #[.int .u32 n] w fun e w' => e = .returned (.int .u32 (n / 4096 % 2 * 2147483648 + n / 32 % 64 * 33554432 + n / 2 % 16 * 256 + n / 2048 % 2 * 128)) ∧ Drawn0 w w' := by
  have HF0 := Aside0.mk (and_low (n / 4096) 1 (by decide) (by omega) (by omega))
  have HF1 := Aside0.mk (and_low (n / 32) 6 (by decide) (by omega) (by omega))
  have HF2 := Aside0.mk (and_low (n / 2) 4 (by decide) (by omega) (by omega))
  have HF3 := Aside0.mk (and_low (n / 2048) 1 (by decide) (by omega) (by omega))
  go_enter Try.func87, Try.ntmps87
  go_wp2
  go_ret
  refine ⟨congrArg (fun x => Ending.returned (.int .u32 x)) ?_, by repeat (first | exact Drawn0.refl _ | apply Drawn0.step)⟩
  have f0 := HF0.out; have f1 := HF1.out; have f2 := HF2.out; have f3 := HF3.out; (simp only [Int.reducePow, Int.reduceSub] at *); simp only [f0, f1, f2, f3]; rw [or_dn (n / 4096 % 2 * 2147483648 % 4294967296) (n / 32 % 64 * 33554432 % 4294967296) 31 (by omega) (by omega) (by omega) (by omega) (by omega) (by omega), or_dn (n / 4096 % 2 * 2147483648 % 4294967296 + n / 32 % 64 * 33554432 % 4294967296) (n / 2 % 16 * 256 % 4294967296) 25 (by omega) (by omega) (by omega) (by omega) (by omega) (by omega), or_dn (n / 4096 % 2 * 2147483648 % 4294967296 + n / 32 % 64 * 33554432 % 4294967296 + n / 2 % 16 * 256 % 4294967296) (n / 2048 % 2 * 128 % 4294967296) 8 (by omega) (by omega) (by omega) (by omega) (by omega) (by omega)] <;> omega

set_option maxHeartbeats 1000000 in
set_option maxRecDepth 100000 in
theorem clo_83 (n : Int) (w : World) (h0 : 0 ≤ n) (h1 : n < 4294967296) : Calls Try.prog 89 #[.int .u32 n] w fun e w' => e = .returned (.int .u32 (n % 32 * 128 + n / 32 % 128 * 33554432)) ∧ Drawn0 w w' := by
  have HF0 := Aside0.mk (and_low (n) 5 (by decide) (by omega) (by omega))
  have HF1 := Aside0.mk (and_low (n / 32) 7 (by decide) (by omega) (by omega))
  go_enter Try.func89, Try.ntmps89
  go_wp2
  go_ret
  refine ⟨congrArg (fun x => Ending.returned (.int .u32 x)) ?_, by repeat (first | exact Drawn0.refl _ | apply Drawn0.step)⟩
  have f0 := HF0.out; have f1 := HF1.out; (simp only [Int.reducePow, Int.reduceSub] at *); simp only [f0, f1]; rw [or_up (n % 32 * 128 % 4294967296) (n / 32 % 128 * 33554432 % 4294967296) 12 (by omega) (by omega) (by omega) (by omega) (by omega) (by omega)] <;> omega

set_option maxHeartbeats 1000000 in
set_option maxRecDepth 100000 in
theorem clo_85 (n : Int) (w : World) (h0 : 0 ≤ n) (h1 : n < 4294967296) : Calls Try.prog 91 #[.int .u32 n] w fun e w' => e = .returned (.int .u32 (n % 32 * 1048576)) ∧ Drawn0 w w' := by
  have HF0 := Aside0.mk (and_rs2 (n * 1048576 % 4294967296) (by omega) (by omega) (by omega))
  go_enter Try.func91, Try.ntmps91
  go_wp2
  go_ret
  refine ⟨congrArg (fun x => Ending.returned (.int .u32 x)) ?_, by repeat (first | exact Drawn0.refl _ | apply Drawn0.step)⟩
  have f0 := HF0.out; rw [f0]; omega

set_option maxHeartbeats 1000000 in
theorem sign_21 (v : Int) (w : World) (h0 : 0 ≤ v) (h1 : v < 4294967296) : Calls Try.prog 84 #[.int .u32 v, .int .i64 21] w fun e w' => e = .returned (.int .i32 ((v + 1048576) % (2 * 1048576) - 1048576)) ∧ Drawn0 w w' := by
  have hs := sign_is v 21 (by decide) h0 h1 2048 1048576 (by decide) (by decide)
  have HS := Aside0.mk hs
  clear hs
  go_enter Try.func84, Try.ntmps84
  go_wp2
  go_ret
  exact ⟨by rw [← HS.out]; first | rfl | simp, by repeat (first | exact Drawn0.refl _ | apply Drawn0.step)⟩

set_option maxHeartbeats 1000000 in
theorem sign_12 (v : Int) (w : World) (h0 : 0 ≤ v) (h1 : v < 4294967296) : Calls Try.prog 84 #[.int .u32 v, .int .i64 12] w fun e w' => e = .returned (.int .i32 ((v + 2048) % (2 * 2048) - 2048)) ∧ Drawn0 w w' := by
  have hs := sign_is v 12 (by decide) h0 h1 1048576 2048 (by decide) (by decide)
  have HS := Aside0.mk hs
  clear hs
  go_enter Try.func84, Try.ntmps84
  go_wp2
  go_ret
  exact ⟨by rw [← HS.out]; first | rfl | simp, by repeat (first | exact Drawn0.refl _ | apply Drawn0.step)⟩

set_option maxHeartbeats 1000000 in
theorem sign_13 (v : Int) (w : World) (h0 : 0 ≤ v) (h1 : v < 4294967296) : Calls Try.prog 84 #[.int .u32 v, .int .i64 13] w fun e w' => e = .returned (.int .i32 ((v + 4096) % (2 * 4096) - 4096)) ∧ Drawn0 w w' := by
  have hs := sign_is v 13 (by decide) h0 h1 524288 4096 (by decide) (by decide)
  have HS := Aside0.mk hs
  clear hs
  go_enter Try.func84, Try.ntmps84
  go_wp2
  go_ret
  exact ⟨by rw [← HS.out]; first | rfl | simp, by repeat (first | exact Drawn0.refl _ | apply Drawn0.step)⟩

set_option maxHeartbeats 1000000 in
set_option maxRecDepth 100000 in
theorem clo_77 (n : Int) (w : World) (h0 : 0 ≤ n) (h1 : n < 4294967296) : Calls Try.prog 83 #[.int .u32 n] w fun e w' => e = .returned (.int .i32 (((n / 2147483648 * 1048576 + n / 4096 % 256 * 4096 + n / 1048576 % 2 * 2048 + n / 2097152 % 1024 * 2) + 1048576) % (2 * 1048576) - 1048576)) ∧ Drawn0 w w' := by
  have f0 := and_low (n / 4096) 8 (by decide) (by omega) (by omega)
  have f1 := and_low (n / 1048576) 1 (by decide) (by omega) (by omega)
  have f2 := and_low (n / 2097152) 10 (by decide) (by omega) (by omega)
  have he : Go.bits .or .u32 (Go.bits .or .u32 (Go.bits .or .u32 (n / 2147483648 * 1048576) (Go.bits .and .u32 (n / 4096) 255 * 4096 % 4294967296)) (Go.bits .and .u32 (n / 1048576) 1 * 2048 % 4294967296)) (Go.bits .and .u32 (n / 2097152) 1023 * 2 % 4294967296) = (n / 2147483648 * 1048576 + n / 4096 % 256 * 4096 + n / 1048576 % 2 * 2048 + n / 2097152 % 1024 * 2) := by
    simp only [Int.reducePow, Int.reduceSub] at *
    simp only [f0, f1, f2]
    rw [show n / 4096 % 256 * 4096 % 4294967296 = n / 4096 % 256 * 4096 from by omega, show n / 1048576 % 2 * 2048 % 4294967296 = n / 1048576 % 2 * 2048 from by omega, show n / 2097152 % 1024 * 2 % 4294967296 = n / 2097152 % 1024 * 2 from by omega]
    rw [or_dn (n / 2147483648 * 1048576) (n / 4096 % 256 * 4096) 20 (by omega) (by omega) (by omega) (by omega) (by omega) (by omega), or_dn (n / 2147483648 * 1048576 + n / 4096 % 256 * 4096) (n / 1048576 % 2 * 2048) 12 (by omega) (by omega) (by omega) (by omega) (by omega) (by omega), or_dn (n / 2147483648 * 1048576 + n / 4096 % 256 * 4096 + n / 1048576 % 2 * 2048) (n / 2097152 % 1024 * 2) 11 (by omega) (by omega) (by omega) (by omega) (by omega) (by omega)]
  have HE := Aside0.mk he
  clear he f0 f1 f2
  go_enter Try.func83, Try.ntmps83
  go_wp2_with fail
  rw [HE.out]
  refine (sign_21 ((n / 2147483648 * 1048576 + n / 4096 % 256 * 4096 + n / 1048576 % 2 * 2048 + n / 2097152 % 1024 * 2)) _ (by omega) (by omega)).mono ?_
  intro e w' h; obtain ⟨h1, ⟨nq, rfl⟩⟩ := h; subst h1
  go_wp2
  go_ret
  exact ⟨by first | rfl | simp, by repeat (first | exact Drawn0.refl _ | apply Drawn0.step)⟩

set_option maxHeartbeats 1000000 in
set_option maxRecDepth 100000 in
theorem clo_82 (n : Int) (w : World) (h0 : 0 ≤ n) (h1 : n < 4294967296) : Calls Try.prog 88 #[.int .u32 n] w fun e w' => e = .returned (.int .i32 (((n / 2147483648 * 4096 + n / 128 % 2 * 2048 + n / 33554432 % 64 * 32 + n / 256 % 16 * 2) + 4096) % (2 * 4096) - 4096)) ∧ Drawn0 w w' := by
  have f0 := and_low (n / 128) 1 (by decide) (by omega) (by omega)
  have f1 := and_low (n / 33554432) 6 (by decide) (by omega) (by omega)
  have f2 := and_low (n / 256) 4 (by decide) (by omega) (by omega)
  have he : Go.bits .or .u32 (Go.bits .or .u32 (Go.bits .or .u32 (n / 2147483648 * 4096) (Go.bits .and .u32 (n / 128) 1 * 2048 % 4294967296)) (Go.bits .and .u32 (n / 33554432) 63 * 32 % 4294967296)) (Go.bits .and .u32 (n / 256) 15 * 2 % 4294967296) = (n / 2147483648 * 4096 + n / 128 % 2 * 2048 + n / 33554432 % 64 * 32 + n / 256 % 16 * 2) := by
    simp only [Int.reducePow, Int.reduceSub] at *
    simp only [f0, f1, f2]
    rw [show n / 128 % 2 * 2048 % 4294967296 = n / 128 % 2 * 2048 from by omega, show n / 33554432 % 64 * 32 % 4294967296 = n / 33554432 % 64 * 32 from by omega, show n / 256 % 16 * 2 % 4294967296 = n / 256 % 16 * 2 from by omega]
    rw [or_dn (n / 2147483648 * 4096) (n / 128 % 2 * 2048) 12 (by omega) (by omega) (by omega) (by omega) (by omega) (by omega), or_dn (n / 2147483648 * 4096 + n / 128 % 2 * 2048) (n / 33554432 % 64 * 32) 11 (by omega) (by omega) (by omega) (by omega) (by omega) (by omega), or_dn (n / 2147483648 * 4096 + n / 128 % 2 * 2048 + n / 33554432 % 64 * 32) (n / 256 % 16 * 2) 5 (by omega) (by omega) (by omega) (by omega) (by omega) (by omega)]
  have HE := Aside0.mk he
  clear he f0 f1 f2
  go_enter Try.func88, Try.ntmps88
  go_wp2_with fail
  rw [HE.out]
  refine (sign_13 ((n / 2147483648 * 4096 + n / 128 % 2 * 2048 + n / 33554432 % 64 * 32 + n / 256 % 16 * 2)) _ (by omega) (by omega)).mono ?_
  intro e w' h; obtain ⟨h1, ⟨nq, rfl⟩⟩ := h; subst h1
  go_wp2
  go_ret
  exact ⟨by first | rfl | simp, by repeat (first | exact Drawn0.refl _ | apply Drawn0.step)⟩

set_option maxHeartbeats 1000000 in
set_option maxRecDepth 100000 in
theorem clo_84 (n : Int) (w : World) (h0 : 0 ≤ n) (h1 : n < 4294967296) : Calls Try.prog 90 #[.int .u32 n] w fun e w' => e = .returned (.int .i32 (((n / 33554432 * 32 + n / 128 % 32) + 2048) % (2 * 2048) - 2048)) ∧ Drawn0 w w' := by
  have f0 := and_low (n / 128) 5 (by decide) (by omega) (by omega)
  have he : Go.bits .or .u32 (n / 33554432 * 32) (Go.bits .and .u32 (n / 128) 31) = (n / 33554432 * 32 + n / 128 % 32) := by
    simp only [Int.reducePow, Int.reduceSub] at *
    simp only [f0]
    rw [or_dn (n / 33554432 * 32) (n / 128 % 32) 5 (by omega) (by omega) (by omega) (by omega) (by omega) (by omega)]
  have HE := Aside0.mk he
  clear he f0
  go_enter Try.func90, Try.ntmps90
  go_wp2_with fail
  rw [HE.out]
  refine (sign_12 ((n / 33554432 * 32 + n / 128 % 32)) _ (by omega) (by omega)).mono ?_
  intro e w' h; obtain ⟨h1, ⟨nq, rfl⟩⟩ := h; subst h1
  go_wp2
  go_ret
  exact ⟨by first | rfl | simp, by repeat (first | exact Drawn0.refl _ | apply Drawn0.step)⟩

set_option maxHeartbeats 1000000 in
set_option maxRecDepth 100000 in
theorem clo_75 (n : Int) (w : World) (h0 : 0 ≤ n) (h1 : n < 4294967296) : Calls Try.prog 81 #[.int .u32 n] w fun e w' => e = .returned (.int .i32 (wrap32 (n - n % 4096))) ∧ Drawn0 w w' := by
  have HF0 := Aside0.mk (andNot4095 n h0 h1)
  go_enter Try.func81, Try.ntmps81
  go_wp2
  go_ret
  refine ⟨congrArg (fun x => Ending.returned (.int .i32 x)) ?_, by repeat (first | exact Drawn0.refl _ | apply Drawn0.step)⟩
  have f0 := HF0.out; first | rw [f0] | simp only [f0]

set_option maxHeartbeats 1000000 in
set_option maxRecDepth 100000 in
theorem clo_80 (n : Int) (w : World) (h0 : 0 ≤ n) (h1 : n < 4294967296) : Calls Try.prog 86 #[.int .u32 n] w fun e w' => e = .returned (.int .i32 (wrap32 n / 1048576)) ∧ Drawn0 w w' := by
  go_enter Try.func86, Try.ntmps86
  go_wp2
  go_ret
  refine ⟨congrArg (fun x => Ending.returned (.int .i32 x)) ?_, by repeat (first | exact Drawn0.refl _ | apply Drawn0.step)⟩
  first | rfl | (unfold wrap32; omega)

set_option maxHeartbeats 1000000 in
set_option maxRecDepth 100000 in
theorem clo_86 (n : Int) (w : World) (h0 : 0 ≤ n) (h1 : n < 4294967296) : Calls Try.prog 92 #[.int .u32 n] w fun e w' => e = .returned (.int .i32 (n / 1048576 % 32)) ∧ Drawn0 w w' := by
  have HF0 := Aside0.mk (and_low (n / 1048576) 5 (by decide) (by omega) (by omega))
  go_enter Try.func92, Try.ntmps92
  go_wp2
  go_ret
  refine ⟨congrArg (fun x => Ending.returned (.int .i32 x)) ?_, by repeat (first | exact Drawn0.refl _ | apply Drawn0.step)⟩
  have f0 := HF0.out; simp only [Int.reducePow, Int.reduceSub] at f0; simp only [f0]; unfold wrap32; omega

set_option maxHeartbeats 1000000 in
set_option maxRecDepth 100000 in
theorem clo_89 (n : Int) (w : World) (h0 : 0 ≤ n) (h1 : n < 4294967296) : Calls Try.prog 95 #[.int .u32 n] w fun e w' => e = .returned (.int .i32 (n / 1048576)) ∧ Drawn0 w w' := by
  go_enter Try.func95, Try.ntmps95
  go_wp2
  go_ret
  refine ⟨congrArg (fun x => Ending.returned (.int .i32 x)) ?_, by repeat (first | exact Drawn0.refl _ | apply Drawn0.step)⟩
  first | rfl | (unfold wrap32; omega) | omega

theorem clo_87 (n : Int) (w : World) : Calls Try.prog 93 #[.int .u32 n] w fun e w' => e = .returned (.int .u32 0) ∧ Drawn0 w w' := by
  go_enter Try.func93, Try.ntmps93
  go_wp2
  go_ret
  exact ⟨rfl, by repeat (first | exact Drawn0.refl _ | apply Drawn0.step)⟩

theorem clo_88 (n : Int) (w : World) : Calls Try.prog 94 #[.int .u32 n] w fun e w' => e = .returned (.int .i32 0) ∧ Drawn0 w w' := by
  go_enter Try.func94, Try.ntmps94
  go_wp2
  go_ret
  exact ⟨rfl, by repeat (first | exact Drawn0.refl _ | apply Drawn0.step)⟩

theorem take_7 (x : Int) (w : World) (h0 : 0 ≤ x) (h1 : x < 4294967296) : Calls Try.prog 32 #[.bool true, .int .u32 x, .int .u64 7] w fun e w' => e = .returned (.int .u8 (x / 128 % 32)) ∧ Drawn0 w w' := by
  have h2 := and_low (x / 128) 5 (by decide) (by omega) (by omega)
  have h3 : x / 128 % 32 % 256 = x / 128 % 32 := by omega
  have H2 := Aside0.mk h2; have H3 := Aside0.mk h3
  clear h2 h3
  go_enter Try.func32, Try.ntmps32
  go_wp2
  go_ret
  exact ⟨by have h2 := H2.out; have h3 := H3.out; simp only [Int.reducePow, Int.reduceSub] at h2; first | rfl | (simp; done) | (simp [h2, h3]; done), by repeat (first | exact Drawn0.refl _ | apply Drawn0.step)⟩

theorem take_15 (x : Int) (w : World) (h0 : 0 ≤ x) (h1 : x < 4294967296) : Calls Try.prog 32 #[.bool true, .int .u32 x, .int .u64 15] w fun e w' => e = .returned (.int .u8 (x / 32768 % 32)) ∧ Drawn0 w w' := by
  have h2 := and_low (x / 32768) 5 (by decide) (by omega) (by omega)
  have h3 : x / 32768 % 32 % 256 = x / 32768 % 32 := by omega
  have H2 := Aside0.mk h2; have H3 := Aside0.mk h3
  clear h2 h3
  go_enter Try.func32, Try.ntmps32
  go_wp2
  go_ret
  exact ⟨by have h2 := H2.out; have h3 := H3.out; simp only [Int.reducePow, Int.reduceSub] at h2; first | rfl | (simp; done) | (simp [h2, h3]; done), by repeat (first | exact Drawn0.refl _ | apply Drawn0.step)⟩

theorem take_20 (x : Int) (w : World) (h0 : 0 ≤ x) (h1 : x < 4294967296) : Calls Try.prog 32 #[.bool true, .int .u32 x, .int .u64 20] w fun e w' => e = .returned (.int .u8 (x / 1048576 % 32)) ∧ Drawn0 w w' := by
  have h2 := and_low (x / 1048576) 5 (by decide) (by omega) (by omega)
  have h3 : x / 1048576 % 32 % 256 = x / 1048576 % 32 := by omega
  have H2 := Aside0.mk h2; have H3 := Aside0.mk h3
  clear h2 h3
  go_enter Try.func32, Try.ntmps32
  go_wp2
  go_ret
  exact ⟨by have h2 := H2.out; have h3 := H3.out; simp only [Int.reducePow, Int.reduceSub] at h2; first | rfl | (simp; done) | (simp [h2, h3]; done), by repeat (first | exact Drawn0.refl _ | apply Drawn0.step)⟩

theorem take_no (x k : Int) (w : World) : Calls Try.prog 32 #[.bool false, .int .u32 x, .int .u64 k] w fun e w' => e = .returned (.int .u8 0) ∧ Drawn0 w w' := by
  go_enter Try.func32, Try.ntmps32
  go_wp2
  go_ret
  exact ⟨by first | rfl | simp, by repeat (first | exact Drawn0.refl _ | apply Drawn0.step)⟩
/-- Is a special register one? -/
def specB (o imm : Int) : Bool := decide (o ≠ 66 ∨ (27 ≤ imm ∧ imm ≤ 31))
theorem special_calls (o rd rs1 rs2 imm : Int) (w : World) : Calls Try.prog 33 #[.agg #[.int .u8 o, .int .u8 rd, .int .u8 rs1, .int .u8 rs2, .int .i32 imm]] w fun e w' => e = .returned (.bool (specB o imm)) ∧ Below w.heap.size w w' := by
  by_cases h : o = 66
  · subst h
    by_cases h2 : 27 ≤ imm
    · by_cases h3 : imm ≤ 31
      · have hs : specB 66 imm = true := by unfold specB; exact decide_eq_true (by omega)
        rw [hs]
        go_enter Try.func33, Try.ntmps33
        go_wp2
        go_ret
        exact ⟨by first | rfl | (simp; done) | (simp; omega), by repeat (first | exact Below.refl _ _ | apply below_alloc | apply below_drew1 | apply pw_below_drewN)⟩
      · have hs : specB 66 imm = false := by unfold specB; exact decide_eq_false (by omega)
        rw [hs]
        go_enter Try.func33, Try.ntmps33
        go_wp2
        go_ret
        exact ⟨by first | rfl | (simp; done) | (simp; omega), by repeat (first | exact Below.refl _ _ | apply below_alloc | apply below_drew1 | apply pw_below_drewN)⟩
    · have hs : specB 66 imm = false := by unfold specB; exact decide_eq_false (by omega)
      rw [hs]
      go_enter Try.func33, Try.ntmps33
      go_wp2
      go_ret
      exact ⟨by first | rfl | (simp; done) | (simp; omega), by repeat (first | exact Below.refl _ _ | apply below_alloc | apply below_drew1 | apply pw_below_drewN)⟩
  · have hs : specB o imm = true := by unfold specB; exact decide_eq_true (by omega)
    rw [hs]
    have h' : (o == 66) = false := by simpa using h
    have h'' : (o != 66) = true := by simpa using h
    go_enter Try.func33, Try.ntmps33
    go_wp2
    go_ret
    exact ⟨by first | rfl | (simp; done) | (simp; omega), by repeat (first | exact Below.refl _ _ | apply below_alloc | apply below_drew1 | apply pw_below_drewN)⟩
end Go.Proofs.Ytadbonmkockakaa.Ins
