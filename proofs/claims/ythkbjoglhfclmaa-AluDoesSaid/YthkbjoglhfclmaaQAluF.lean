/- Contracts of the reference of the package alu: small functions and loops. No condition beyond the words' bounds. -/
import Derived.Test.YthkbjoglhfclmaaQAluC
import Derived.LoopTactic
namespace Go.Proofs.Ythkbjoglhfclmaa.Alu
open Go.RowKit Go.Proofs.YthkbjoglhfclmaaW.PrintWords Go.Proofs.YthkbjoglhfclmaaW.PrintLast Go.Proofs.YthkbjoglhfclmaaW.PrintMore
set_option linter.unusedVariables false
set_option linter.unusedSimpArgs false

theorem one_calls (c : Bool) (w : World) : Calls Try.prog 44 #[.bool c] w fun e w' => e = .returned (.int .u32 (b01 c)) ∧ Drawn0 w w' := by
  cases c <;> (go_enter Try.func44, Try.ntmps44; go_wp2; go_ret; exact ⟨rfl, by repeat (first | exact Drawn0.refl _ | apply Drawn0.step)⟩)
theorem worth_calls (a : Int) (w : World) (ha : 0 ≤ a) (ha' : a < 4294967296) : Calls Try.prog 42 #[.int .u32 a] w fun e w' => e = .returned (.int .i64 (wrap32 a)) ∧ Drawn0 w w' := by
  by_cases h : 2147483648 ≤ a
  · have e1 : wrap32 a = a - 4294967296 := by unfold wrap32; omega
    rw [e1]
    have E1 := Aside0.mk e1; clear e1
    go_enter Try.func42, Try.ntmps42
    go_wp2
    go_ret
    exact ⟨by first | rfl | simp, by repeat (first | exact Drawn0.refl _ | apply Drawn0.step)⟩
  · have e1 : wrap32 a = a := by unfold wrap32; omega
    rw [e1]
    have E1 := Aside0.mk e1; clear e1
    have h' : a < 2147483648 := by omega
    go_enter Try.func42, Try.ntmps42
    go_wp2
    go_ret
    exact ⟨by first | rfl | simp, by repeat (first | exact Drawn0.refl _ | apply Drawn0.step)⟩
theorem fdiv_lo (a d l : Int) (hd : 0 < d) (h : l ≤ a) (hl : l ≤ 0) : l ≤ a / d := by
  refine Int.le_ediv_of_mul_le hd ?_
  have : l * d ≤ l * 1 := Int.mul_le_mul_of_nonpos_left hl (by omega)
  omega
/-- A quotient rounded down, by a number above 0. -/
theorem down_calls (a d : Int) (w : World) (ha : -9223372036854775808 ≤ a) (ha' : a < 9223372036854775808) (hd : 0 < d) (hd' : d < 9223372036854775808) :
    Calls Try.prog 46 #[.int .i64 a, .int .i64 d] w fun e w' => e = .returned (.int .i64 (a / d)) ∧ Drawn0 w w' := by
  have hd0 : (d == 0) = false := by simpa using (by omega : d ≠ 0)
  have hq : Int.tdiv a d = if Int.tmod a d < 0 then a / d + 1 else a / d := by
    have h1 := Int.mul_tdiv_add_tmod a d
    have h2 := Int.mul_ediv_add_emod a d
    have h3 := Int.emod_nonneg a (by omega : d ≠ 0)
    have h4 := Int.emod_lt_of_pos a hd
    rcases Int.lt_or_le a 0 with hn | hn
    · have t1 : Int.tmod a d ≤ 0 := by
        have := Int.tmod_nonneg (a := -a) d (by omega)
        rw [Int.neg_tmod] at this; omega
      have t2 : -d < Int.tmod a d := by
        have := Int.lt_tmod_of_pos a hd; omega
      split
      · have e : d * (Int.tdiv a d - a / d) = a % d - Int.tmod a d := by rw [Int.mul_sub]; omega
        have l1 : 0 < d * (Int.tdiv a d - a / d) := by omega
        have l2 : d * (Int.tdiv a d - a / d) < d * 2 := by omega
        have p1 := Int.pos_of_mul_pos_right l1 hd
        have p2 := Int.lt_of_mul_lt_mul_left l2 (by omega)
        omega
      · have t3 : Int.tmod a d = 0 := by omega
        have e : d * (Int.tdiv a d - a / d) = a % d := by rw [Int.mul_sub]; omega
        have l1 : 0 ≤ d * (Int.tdiv a d - a / d) := by omega
        have l2 : d * (Int.tdiv a d - a / d) < d * 1 := by omega
        have p2 := Int.lt_of_mul_lt_mul_left l2 (by omega)
        have p1 : -1 < Int.tdiv a d - a / d := by
          have : d * (-1) < d * (Int.tdiv a d - a / d) := by omega
          exact Int.lt_of_mul_lt_mul_left this (by omega)
        omega
    · rw [if_neg (by have := Int.tmod_nonneg d hn; omega)]
      exact Int.tdiv_eq_ediv_of_nonneg hn
  have bd : -9223372036854775808 ≤ Int.tdiv a d ∧ Int.tdiv a d < 9223372036854775808 := by
    have h5 := Int.natAbs_tdiv_le_natAbs a d
    rcases Int.lt_or_le a 0 with hn | hn
    · have : Int.tdiv a d ≤ 0 := by
        have := Int.tdiv_nonneg (a := -a) (b := d) (by omega) (by omega)
        rw [Int.neg_tdiv] at this; omega
      omega
    · have := Int.tdiv_nonneg hn (by omega : 0 ≤ d); omega
  obtain ⟨q, hqq⟩ : ∃ q, Int.tdiv a d = q := ⟨_, rfl⟩
  obtain ⟨r, hrr⟩ : ∃ r, Int.tmod a d = r := ⟨_, rfl⟩
  rw [hqq, hrr] at hq
  rw [hqq] at bd
  obtain ⟨b1, b2⟩ := bd
  have hw : wrap64 q = q := wrap64_id q ⟨b1, b2⟩
  by_cases hr : r < 0
  · rw [if_pos hr] at hq
    have hz : a / d = q - 1 := by omega
    rw [hz]
    have Q := Aside0.mk hq; have Z := Aside0.mk hz
    clear hq hz
    have b3 : -9223372036854775808 < q := by have := Q.out; have h6 := fdiv_lo a d _ hd ha (by omega); omega
    have hd1 : decide (r < 0) = true := decide_eq_true hr
    go_enter Try.func46, Try.ntmps46
    go_wp2
    go_ret
    exact ⟨by first | rfl | (simp; done) | (simp only [hw]; first | rfl | simp), by repeat (first | exact Drawn0.refl _ | apply Drawn0.step)⟩
  · rw [if_neg hr] at hq
    have hz : a / d = q := by omega
    rw [hz]
    have Q := Aside0.mk hq; have Z := Aside0.mk hz
    clear hq hz
    have hd1 : decide (r < 0) = false := decide_eq_false hr
    go_enter Try.func46, Try.ntmps46
    go_wp2
    go_ret
    exact ⟨by first | rfl | (simp; done) | (simp only [hw]; first | rfl | simp), by repeat (first | exact Drawn0.refl _ | apply Drawn0.step)⟩
end Go.Proofs.Ythkbjoglhfclmaa.Alu
