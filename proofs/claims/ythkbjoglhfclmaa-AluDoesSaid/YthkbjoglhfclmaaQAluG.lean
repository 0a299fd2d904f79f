/- Contracts of the reference of the package alu: power, high, bitwise. No condition beyond the words' bounds. -/
import Derived.Test.YthkbjoglhfclmaaQAluF
import Derived.LoopTactic
namespace Go.Proofs.Ythkbjoglhfclmaa.Alu
open Go.RowKit Go.Proofs.YthkbjoglhfclmaaW.PrintWords Go.Proofs.YthkbjoglhfclmaaW.PrintLast Go.Proofs.YthkbjoglhfclmaaW.PrintMore
set_option linter.unusedVariables false
set_option linter.unusedSimpArgs false

theorem two_pow_bd (k : Nat) (h : k ≤ 31) : 0 < (2 : Int) ^ k ∧ (2 : Int) ^ k ≤ 2147483648 := by
  have h1 : (2 : Int) ^ k = ((2 ^ k : Nat) : Int) := by simp
  have h2 : 2 ^ k ≤ 2 ^ 31 := Nat.pow_le_pow_right (by decide) h
  have h3 : 0 < 2 ^ k := Nat.two_pow_pos k
  rw [h1]; omega
set_option maxHeartbeats 4000000 in
theorem power_calls (b : Int) (w : World) (hb : 0 ≤ b) (hb' : b < 4294967296) : Calls Try.prog 45 #[.int .u32 b] w fun e w' => e = .returned (.int .i64 (2 ^ (b % 32).toNat)) ∧ Drawn0 w w' := by
  obtain ⟨s, hs⟩ : ∃ s : Nat, b % 32 = (s : Int) := ⟨(b % 32).toNat, by omega⟩
  have hs31 : s ≤ 31 := by omega
  have HS := Aside0.mk hs
  rw [hs, Int.toNat_natCast]
  go_enter Try.func45, Try.ntmps45
  go_wp2
  go_loop [3, 4] (fun o i => ∃ k : Nat, k ≤ s ∧ i = .int .u32 k ∧ o = .int .i64 (2 ^ k)) (fun _ i => s - (intOf i).toNat)
  case atStart => exact ⟨0, Nat.zero_le _, rfl, by simp⟩
  case round =>
    obtain ⟨k, hk, rfl, rfl⟩ := hrel
    have hk31 : k ≤ 31 := by omega
    obtain ⟨hp0, hp1⟩ := two_pow_bd k hk31
    obtain ⟨P, hP⟩ : ∃ P : Int, (2 : Int) ^ k = P := ⟨_, rfl⟩
    rw [hP] at hp0 hp1
    by_cases hlt : k < s
    · have HP : Aside0 ((2 : Int) ^ k = P) := ⟨hP⟩
      rw [hP]
      clear hP
      go_wp2
      all_goals
        go_round
        case rel => exact ⟨k + 1, by omega, by go_num, by rw [Int.pow_succ, HP.out, Int.mul_comm]⟩
        case measure => simp [intOf]; omega
    · have e : k = s := by omega
      subst e
      go_wp2
      go_ret
      exact ⟨rfl, by repeat (first | exact Drawn0.refl _ | apply Drawn0.step)⟩
theorem prod_bd (x y : Int) (hx : 0 ≤ x ∧ x ≤ 65535) (hy : 0 ≤ y ∧ y ≤ 65535) : 0 ≤ x * y ∧ x * y ≤ 4294836225 :=
  ⟨Int.mul_nonneg hx.1 hy.1, Int.le_trans (Int.mul_le_mul hx.2 hy.2 hy.1 (by omega)) (by omega)⟩
theorem u64_id (x : Int) (h0 : 0 ≤ x) (h1 : x < 18446744073709551616) : IntKind.u64.wrap x = x := by
  simp [IntKind.wrap, IntKind.bits, IntKind.signed]; omega
theorem high_plain (a b : Int) (ha : 0 ≤ a) (hb : 0 ≤ b) : a * b = (a / 65536) * (b / 65536) * 4294967296 + ((a / 65536) * (b % 65536) + (a % 65536) * (b / 65536)) * 65536 + (a % 65536) * (b % 65536) := by
  have e1 : a = 65536 * (a / 65536) + a % 65536 := by omega
  have e2 : b = 65536 * (b / 65536) + b % 65536 := by omega
  generalize a / 65536 = p at *
  generalize a % 65536 = q at *
  generalize b / 65536 = r at *
  generalize b % 65536 = t at *
  subst e1 e2
  have c1 : (65536 * p + q) * (65536 * r + t) = 65536 * (65536 * (p * r)) + 65536 * (p * t) + (65536 * (q * r) + q * t) := by
    rw [Int.add_mul, Int.mul_add, Int.mul_add, Int.mul_assoc 65536 p, Int.mul_left_comm p 65536 r, Int.mul_assoc 65536 p t, Int.mul_left_comm q 65536 r]
  rw [c1]
  generalize p * r = m1
  generalize p * t = m2
  generalize q * r = m3
  generalize q * t = m4
  omega
set_option maxHeartbeats 4000000 in
theorem high_calls (a b : Int) (w : World) (ha : 0 ≤ a) (ha' : a < 4294967296) (hb : 0 ≤ b) (hb' : b < 4294967296) :
    Calls Try.prog 47 #[.int .u32 a, .int .u32 b] w fun e w' => e = .returned (.int .u32 (a * b / 4294967296 % 4294967296)) ∧ Drawn0 w w' := by
  have hf := high_plain a b ha hb
  obtain ⟨p, hp⟩ : ∃ p, a / 65536 = p := ⟨_, rfl⟩
  obtain ⟨q, hq⟩ : ∃ q, a % 65536 = q := ⟨_, rfl⟩
  obtain ⟨r, hr⟩ : ∃ r, b / 65536 = r := ⟨_, rfl⟩
  obtain ⟨t, ht⟩ : ∃ t, b % 65536 = t := ⟨_, rfl⟩
  have b1 := prod_bd p r (by omega) (by omega)
  have b2 := prod_bd p t (by omega) (by omega)
  have b3 := prod_bd q r (by omega) (by omega)
  have b4 := prod_bd q t (by omega) (by omega)
  rw [hp, hq, hr, ht] at hf
  have HF := Aside0.mk hf; have B1 := Aside0.mk b1; have B2 := Aside0.mk b2; have B3 := Aside0.mk b3; have B4 := Aside0.mk b4
  have HP := Aside0.mk hp; have HQ := Aside0.mk hq; have HR := Aside0.mk hr; have HT := Aside0.mk ht
  clear hf b1 b2 b3 b4 hp hq hr ht
  go_enter Try.func47, Try.ntmps47
  go_wp2
  go_ret
  have b1 := B1.out
  have b2 := B2.out
  have b3 := B3.out
  have b4 := B4.out
  have hf := HF.out
  refine ⟨?_, by repeat (first | exact Drawn0.refl _ | apply Drawn0.step)⟩
  rw [hf]
  simp only [HP.out, HQ.out, HR.out, HT.out]
  generalize p * r = m1 at *
  generalize p * t = m2 at *
  generalize q * r = m3 at *
  generalize q * t = m4 at *
  obtain ⟨m10, m11⟩ := b1
  obtain ⟨m20, m21⟩ := b2
  obtain ⟨m30, m31⟩ := b3
  obtain ⟨m40, m41⟩ := b4
  have d2 : Int.tdiv m2 65536 = m2 / 65536 := Int.tdiv_eq_ediv_of_nonneg m20
  have d3 : Int.tdiv m3 65536 = m3 / 65536 := Int.tdiv_eq_ediv_of_nonneg m30
  have d4 : Int.tdiv m4 65536 = m4 / 65536 := Int.tdiv_eq_ediv_of_nonneg m40
  have t2 : Int.tmod m2 65536 = m2 % 65536 := Int.tmod_eq_emod_of_nonneg m20
  have t3 : Int.tmod m3 65536 = m3 % 65536 := Int.tmod_eq_emod_of_nonneg m30
  rw [u64_id m1 m10 (by omega), u64_id m2 m20 (by omega), u64_id m3 m30 (by omega), u64_id m4 m40 (by omega), d2, d3, d4, t2, t3,
    u64_id (m2 / 65536) (by omega) (by omega), u64_id (m3 / 65536) (by omega) (by omega), u64_id (m4 / 65536) (by omega) (by omega),
    u64_id (m1 + m2 / 65536) (by omega) (by omega), u64_id (m1 + m2 / 65536 + m3 / 65536) (by omega) (by omega),
    u64_id (m4 / 65536 + m2 % 65536) (by omega) (by omega), u64_id (m4 / 65536 + m2 % 65536 + m3 % 65536) (by omega) (by omega),
    Int.tdiv_eq_ediv_of_nonneg (by omega : 0 ≤ m4 / 65536 + m2 % 65536 + m3 % 65536), u64_id ((m4 / 65536 + m2 % 65536 + m3 % 65536) / 65536) (by omega) (by omega),
    u64_id (m1 + m2 / 65536 + m3 / 65536 + (m4 / 65536 + m2 % 65536 + m3 % 65536) / 65536) (by omega) (by omega)]
  show Ending.returned (.int .u32 _) = _
  congr 2
  omega
def bwc (how : Nat) (x y : Bool) : Bool := if how = 0 then x && y else if how = 1 then x || y else x != y
def bw (how : Nat) (a b : Nat) : Nat → Nat
  | 0 => 0
  | k + 1 => bw how a b k + if bwc how (a.testBit k) (b.testBit k) = true then 2 ^ k else 0
theorem bw_lt (how a b k : Nat) : bw how a b k < 2 ^ k := by
  induction k with
  | zero => simp [bw]
  | succ k ih => simp only [bw]; split <;> omega
theorem nat_and_pow (a k : Nat) : a &&& 2 ^ k = if a.testBit k = true then 2 ^ k else 0 := by
  apply Nat.eq_of_testBit_eq
  intro i
  rw [Nat.testBit_and, Nat.testBit_two_pow]
  by_cases h : k = i
  · subst h
    cases hk : a.testBit k <;> simp
  · cases hk : a.testBit k <;> simp [h]
theorem and_pow (a k : Nat) (ha : a < 4294967296) (hk : k < 32) : (Go.bits .and .u32 (a : Int) ((2 : Int) ^ k) != 0) = a.testBit k := by
  have e1 : (2 : Int) ^ k = ((2 ^ k : Nat) : Int) := by simp
  have e2 : 2 ^ k < 2 ^ 32 := Nat.pow_lt_pow_right (by decide) hk
  have e3 := Nat.two_pow_pos k
  rw [e1, (bits_nat .u32 32 (by decide) (fun n h0 h1 => by rw [IntKind.wrap_u32]; omega) a (2 ^ k) ha e2).1, nat_and_pow]
  cases a.testBit k
  · simp
  · simp; omega
set_option maxHeartbeats 4000000 in
theorem bitwise0_calls (a b : Nat) (w : World) (ha : a < 4294967296) (hb : b < 4294967296) :
    Calls Try.prog 43 #[.int .u32 a, .int .u32 b, .int .i64 0] w fun e w' => e = .returned (.int .u32 (bw 0 a b 32)) ∧ Drawn0 w w' := by
  go_enter Try.func43, Try.ntmps43
  go_wp2
  go_loopw [7, 8] (fun o i wr => ∃ k : Nat, k ≤ 32 ∧ i = .int .i64 k ∧ o = .int .u32 (bw 0 a b k) ∧ Drawn0 w wr) (fun _ i _ => 32 - (intOf i).toNat)
  case atStart => exact ⟨0, Nat.zero_le _, rfl, by simp [bw], by repeat (first | exact Drawn0.refl _ | apply Drawn0.step)⟩
  case round =>
    obtain ⟨k, hk, rfl, rfl, ⟨n1, rfl⟩⟩ := hrel
    by_cases hlt : k < 32
    · have k0 : (0 : Int) ≤ k := by omega
      have hA := and_pow a k ha hlt
      have hB := and_pow b k hb hlt
      obtain ⟨ta, hta⟩ : ∃ ta, a.testBit k = ta := ⟨_, rfl⟩
      obtain ⟨tb, htb⟩ : ∃ tb, b.testBit k = tb := ⟨_, rfl⟩
      rw [hta] at hA
      rw [htb] at hB
      have HT := Aside0.mk hta
      have HU := Aside0.mk htb
      clear hta htb
      have hv := bw_lt 0 a b k
      obtain ⟨V, hV⟩ : ∃ V : Nat, bw 0 a b k = V := ⟨_, rfl⟩
      rw [hV] at hv ⊢
      have HV := Aside0.mk hV
      clear hV
      obtain ⟨hp0, hp1⟩ := two_pow_bd k (by omega)
      cases ta <;> cases tb
      all_goals
        go_wp2
        repeat (go_quiet (fail); try go_wp2)
        refine ⟨⟨k + 1, by omega, by go_num, ?_, by repeat (first | exact Drawn0.refl _ | apply Drawn0.step)⟩, by simp [intOf]; omega⟩
        simp [bw, bwc, HT.out, HU.out, HV.out]
      all_goals
        have hv3 : 2 ^ k ≤ 2 ^ 31 := Nat.pow_le_pow_right (by decide) (by omega)
        have e : ((2 ^ k : Nat) : Int) = (2 : Int) ^ k := by simp
        omega
    · have e : k = 32 := by omega
      subst e
      go_wp2
      go_ret
      exact ⟨rfl, by repeat (first | exact Drawn0.refl _ | apply Drawn0.step)⟩
set_option maxHeartbeats 4000000 in
theorem bitwise1_calls (a b : Nat) (w : World) (ha : a < 4294967296) (hb : b < 4294967296) :
    Calls Try.prog 43 #[.int .u32 a, .int .u32 b, .int .i64 1] w fun e w' => e = .returned (.int .u32 (bw 1 a b 32)) ∧ Drawn0 w w' := by
  go_enter Try.func43, Try.ntmps43
  go_wp2
  go_loopw [7, 8] (fun o i wr => ∃ k : Nat, k ≤ 32 ∧ i = .int .i64 k ∧ o = .int .u32 (bw 1 a b k) ∧ Drawn0 w wr) (fun _ i _ => 32 - (intOf i).toNat)
  case atStart => exact ⟨0, Nat.zero_le _, rfl, by simp [bw], by repeat (first | exact Drawn0.refl _ | apply Drawn0.step)⟩
  case round =>
    obtain ⟨k, hk, rfl, rfl, ⟨n1, rfl⟩⟩ := hrel
    by_cases hlt : k < 32
    · have k0 : (0 : Int) ≤ k := by omega
      have hA := and_pow a k ha hlt
      have hB := and_pow b k hb hlt
      obtain ⟨ta, hta⟩ : ∃ ta, a.testBit k = ta := ⟨_, rfl⟩
      obtain ⟨tb, htb⟩ : ∃ tb, b.testBit k = tb := ⟨_, rfl⟩
      rw [hta] at hA
      rw [htb] at hB
      have HT := Aside0.mk hta
      have HU := Aside0.mk htb
      clear hta htb
      have hv := bw_lt 1 a b k
      obtain ⟨V, hV⟩ : ∃ V : Nat, bw 1 a b k = V := ⟨_, rfl⟩
      rw [hV] at hv ⊢
      have HV := Aside0.mk hV
      clear hV
      obtain ⟨hp0, hp1⟩ := two_pow_bd k (by omega)
      cases ta <;> cases tb
      all_goals
        go_wp2
        repeat (go_quiet (fail); try go_wp2)
        refine ⟨⟨k + 1, by omega, by go_num, ?_, by repeat (first | exact Drawn0.refl _ | apply Drawn0.step)⟩, by simp [intOf]; omega⟩
        simp [bw, bwc, HT.out, HU.out, HV.out]
      all_goals
        have hv3 : 2 ^ k ≤ 2 ^ 31 := Nat.pow_le_pow_right (by decide) (by omega)
        have e : ((2 ^ k : Nat) : Int) = (2 : Int) ^ k := by simp
        omega
    · have e : k = 32 := by omega
      subst e
      go_wp2
      go_ret
      exact ⟨rfl, by repeat (first | exact Drawn0.refl _ | apply Drawn0.step)⟩
set_option maxHeartbeats 4000000 in
theorem bitwise2_calls (a b : Nat) (w : World) (ha : a < 4294967296) (hb : b < 4294967296) :
    Calls Try.prog 43 #[.int .u32 a, .int .u32 b, .int .i64 2] w fun e w' => e = .returned (.int .u32 (bw 2 a b 32)) ∧ Drawn0 w w' := by
  go_enter Try.func43, Try.ntmps43
  go_wp2
  go_loopw [7, 8] (fun o i wr => ∃ k : Nat, k ≤ 32 ∧ i = .int .i64 k ∧ o = .int .u32 (bw 2 a b k) ∧ Drawn0 w wr) (fun _ i _ => 32 - (intOf i).toNat)
  case atStart => exact ⟨0, Nat.zero_le _, rfl, by simp [bw], by repeat (first | exact Drawn0.refl _ | apply Drawn0.step)⟩
  case round =>
    obtain ⟨k, hk, rfl, rfl, ⟨n1, rfl⟩⟩ := hrel
    by_cases hlt : k < 32
    · have k0 : (0 : Int) ≤ k := by omega
      have hA := and_pow a k ha hlt
      have hB := and_pow b k hb hlt
      obtain ⟨ta, hta⟩ : ∃ ta, a.testBit k = ta := ⟨_, rfl⟩
      obtain ⟨tb, htb⟩ : ∃ tb, b.testBit k = tb := ⟨_, rfl⟩
      rw [hta] at hA
      rw [htb] at hB
      have HT := Aside0.mk hta
      have HU := Aside0.mk htb
      clear hta htb
      have hv := bw_lt 2 a b k
      obtain ⟨V, hV⟩ : ∃ V : Nat, bw 2 a b k = V := ⟨_, rfl⟩
      rw [hV] at hv ⊢
      have HV := Aside0.mk hV
      clear hV
      obtain ⟨hp0, hp1⟩ := two_pow_bd k (by omega)
      cases ta <;> cases tb
      all_goals
        go_wp2
        repeat (go_quiet (fail); try go_wp2)
        refine ⟨⟨k + 1, by omega, by go_num, ?_, by repeat (first | exact Drawn0.refl _ | apply Drawn0.step)⟩, by simp [intOf]; omega⟩
        simp [bw, bwc, HT.out, HU.out, HV.out]
      all_goals
        have hv3 : 2 ^ k ≤ 2 ^ 31 := Nat.pow_le_pow_right (by decide) (by omega)
        have e : ((2 ^ k : Nat) : Int) = (2 : Int) ^ k := by simp
        omega
    · have e : k = 32 := by omega
      subst e
      go_wp2
      go_ret
      exact ⟨rfl, by repeat (first | exact Drawn0.refl _ | apply Drawn0.step)⟩
end Go.Proofs.Ythkbjoglhfclmaa.Alu
