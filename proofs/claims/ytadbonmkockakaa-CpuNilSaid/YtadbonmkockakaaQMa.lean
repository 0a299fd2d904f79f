/- Capabilities in plain Lean: where they begin and end, and that the printed functions say so. Written by wip/r5/cps.py. -/
import Derived.Test.YtadbonmkockakaaQCbx0
import Derived.Test.YtadbonmkockakaaQCbx1
import Derived.Test.YtadbonmkockakaaQCbx2
import Derived.Test.YtadbonmkockakaaQCbx3
import Derived.Test.YtadbonmkockakaaQCbx4
import Derived.Laws.BitsLemmas
import Derived.KernelRfl
import Derived.Laws.BitsAllLaws
namespace Go.Proofs.Ytadbonmkockakaa.Cp
open Go.RowKit Go.Proofs.YtadbonmkockakaaW.PrintWords Go.Proofs.YtadbonmkockakaaW.PrintLast Go.Proofs.YtadbonmkockakaaW.PrintMore Go.Proofs.Ytadbonmkockakaa.QCb
set_option linter.unusedVariables false
set_option linter.unusedSimpArgs false
/-- Two to the power of e (of its lowest four bits). -/
def pw (e : Int) : Int := 2 ^ (e % 16).toNat
def midS (e a : Int) : Int := a / pw e % 512
def highS (e b a : Int) : Int := if midS e a < b % 512 then (a / (512 * pw e) - 1) % 2 ^ (23 - (e % 16).toNat) else a / (512 * pw e)
/-- Where bounds begin at an address. -/
def baseS (e b a : Int) : Int := highS e b a * (512 * pw e) + b % 512 * pw e
/-- How many bytes they have. -/
def lenS (e b t : Int) : Int := (t % 512 - b % 512) % 512 * pw e
theorem sixteen (e : Int) : e % 16 = 0 ∨ e % 16 = 1 ∨ e % 16 = 2 ∨ e % 16 = 3 ∨ e % 16 = 4 ∨ e % 16 = 5 ∨ e % 16 = 6 ∨ e % 16 = 7 ∨ e % 16 = 8 ∨ e % 16 = 9 ∨ e % 16 = 10 ∨ e % 16 = 11 ∨ e % 16 = 12 ∨ e % 16 = 13 ∨ e % 16 = 14 ∨ e % 16 = 15 := by omega
theorem u64_in (x : Int) (h0 : 0 ≤ x) (h1 : x < 18446744073709551616) : IntKind.u64.wrap x = x := by rw [IntKind.wrap_u64]; omega
theorem and_low (x : Int) (i : Nat) (hi : i ≤ 63) (h0 : 0 ≤ x) (h1 : x < 18446744073709551616) : Go.bits .and .u64 x (2 ^ i - 1) = x % 2 ^ i :=
  bits_mask .u64 64 (by decide) (fun n h0 h1 => by rw [IntKind.wrap_u64]; omega) i (by omega) x h0 (by omega)
theorem base_in (e b a : Int) (ha : 0 ≤ a ∧ a < 4294967296) : 0 ≤ baseS e b a ∧ baseS e b a < 4294967296 := by
  unfold baseS highS midS
  rcases sixteen e with h | h | h | h | h | h | h | h | h | h | h | h | h | h | h | h <;> (
    unfold pw
    rw [h]
    simp
    split <;> omega)
theorem len_in (e b t : Int) : 0 ≤ lenS e b t ∧ lenS e b t ≤ 16744448 := by
  unfold lenS
  rcases sixteen e with h | h | h | h | h | h | h | h | h | h | h | h | h | h | h | h <;> (
    unfold pw
    rw [h]
    simp
    omega)
theorem pw_pos (e : Int) : 0 < pw e := by unfold pw; exact Int.pow_pos (by decide)
set_option maxHeartbeats 4000000 in
theorem base_f (e b t a : Int) (he : 0 ≤ e ∧ e < 256) (hb : 0 ≤ b ∧ b < 65536) (ha : 0 ≤ a ∧ a < 4294967296) : bounds_Base.f e b t a = some (baseS e b a) := by
  have ht : Int.tmod e 16 = e % 16 := Int.tmod_eq_emod_of_nonneg he.1
  have htb : Int.tmod b 512 = b % 512 := Int.tmod_eq_emod_of_nonneg hb.1
  have h64 : a % 18446744073709551616 = a := by omega
  have hb64 : b % 512 % 18446744073709551616 = b % 512 := by omega
  unfold bounds_Base.f baseS highS midS
  rw [ht, htb]
  rcases sixteen e with h | h | h | h | h | h | h | h | h | h | h | h | h | h | h | h
  · unfold pw
    rw [h]
    have hm : ∀ x : Int, 0 ≤ x → x < 18446744073709551616 → Go.bits .and .u64 x 8388607 = x % 8388608 := fun x h0 h1 => by rw [show (8388607 : Int) = 2 ^ 23 - 1 from rfl, and_low x 23 (by decide) h0 h1]; rfl
    simp [shl, shr, IntKind.wrap_u64, IntKind.bits, h64, hb64]
    rw [hm _ (by omega) (by omega), Int.tmod_eq_emod_of_nonneg (by omega)]
    split <;> (congr 1; omega)
  · unfold pw
    rw [h]
    have hm : ∀ x : Int, 0 ≤ x → x < 18446744073709551616 → Go.bits .and .u64 x 4194303 = x % 4194304 := fun x h0 h1 => by rw [show (4194303 : Int) = 2 ^ 22 - 1 from rfl, and_low x 22 (by decide) h0 h1]; rfl
    simp [shl, shr, IntKind.wrap_u64, IntKind.bits, h64, hb64]
    rw [hm _ (by omega) (by omega), Int.tmod_eq_emod_of_nonneg (by omega)]
    split <;> (congr 1; omega)
  · unfold pw
    rw [h]
    have hm : ∀ x : Int, 0 ≤ x → x < 18446744073709551616 → Go.bits .and .u64 x 2097151 = x % 2097152 := fun x h0 h1 => by rw [show (2097151 : Int) = 2 ^ 21 - 1 from rfl, and_low x 21 (by decide) h0 h1]; rfl
    simp [shl, shr, IntKind.wrap_u64, IntKind.bits, h64, hb64]
    rw [hm _ (by omega) (by omega), Int.tmod_eq_emod_of_nonneg (by omega)]
    split <;> (congr 1; omega)
  · unfold pw
    rw [h]
    have hm : ∀ x : Int, 0 ≤ x → x < 18446744073709551616 → Go.bits .and .u64 x 1048575 = x % 1048576 := fun x h0 h1 => by rw [show (1048575 : Int) = 2 ^ 20 - 1 from rfl, and_low x 20 (by decide) h0 h1]; rfl
    simp [shl, shr, IntKind.wrap_u64, IntKind.bits, h64, hb64]
    rw [hm _ (by omega) (by omega), Int.tmod_eq_emod_of_nonneg (by omega)]
    split <;> (congr 1; omega)
  · unfold pw
    rw [h]
    have hm : ∀ x : Int, 0 ≤ x → x < 18446744073709551616 → Go.bits .and .u64 x 524287 = x % 524288 := fun x h0 h1 => by rw [show (524287 : Int) = 2 ^ 19 - 1 from rfl, and_low x 19 (by decide) h0 h1]; rfl
    simp [shl, shr, IntKind.wrap_u64, IntKind.bits, h64, hb64]
    rw [hm _ (by omega) (by omega), Int.tmod_eq_emod_of_nonneg (by omega)]
    split <;> (congr 1; omega)
  · unfold pw
    rw [h]
    have hm : ∀ x : Int, 0 ≤ x → x < 18446744073709551616 → Go.bits .and .u64 x 262143 = x % 262144 := fun x h0 h1 => by rw [show (262143 : Int) = 2 ^ 18 - 1 from rfl, and_low x 18 (by decide) h0 h1]; rfl
    simp [shl, shr, IntKind.wrap_u64, IntKind.bits, h64, hb64]
    rw [hm _ (by omega) (by omega), Int.tmod_eq_emod_of_nonneg (by omega)]
    split <;> (congr 1; omega)
  · unfold pw
    rw [h]
    have hm : ∀ x : Int, 0 ≤ x → x < 18446744073709551616 → Go.bits .and .u64 x 131071 = x % 131072 := fun x h0 h1 => by rw [show (131071 : Int) = 2 ^ 17 - 1 from rfl, and_low x 17 (by decide) h0 h1]; rfl
    simp [shl, shr, IntKind.wrap_u64, IntKind.bits, h64, hb64]
    rw [hm _ (by omega) (by omega), Int.tmod_eq_emod_of_nonneg (by omega)]
    split <;> (congr 1; omega)
  · unfold pw
    rw [h]
    have hm : ∀ x : Int, 0 ≤ x → x < 18446744073709551616 → Go.bits .and .u64 x 65535 = x % 65536 := fun x h0 h1 => by rw [show (65535 : Int) = 2 ^ 16 - 1 from rfl, and_low x 16 (by decide) h0 h1]; rfl
    simp [shl, shr, IntKind.wrap_u64, IntKind.bits, h64, hb64]
    rw [hm _ (by omega) (by omega), Int.tmod_eq_emod_of_nonneg (by omega)]
    split <;> (congr 1; omega)
  · unfold pw
    rw [h]
    have hm : ∀ x : Int, 0 ≤ x → x < 18446744073709551616 → Go.bits .and .u64 x 32767 = x % 32768 := fun x h0 h1 => by rw [show (32767 : Int) = 2 ^ 15 - 1 from rfl, and_low x 15 (by decide) h0 h1]; rfl
    simp [shl, shr, IntKind.wrap_u64, IntKind.bits, h64, hb64]
    rw [hm _ (by omega) (by omega), Int.tmod_eq_emod_of_nonneg (by omega)]
    split <;> (congr 1; omega)
  · unfold pw
    rw [h]
    have hm : ∀ x : Int, 0 ≤ x → x < 18446744073709551616 → Go.bits .and .u64 x 16383 = x % 16384 := fun x h0 h1 => by rw [show (16383 : Int) = 2 ^ 14 - 1 from rfl, and_low x 14 (by decide) h0 h1]; rfl
    simp [shl, shr, IntKind.wrap_u64, IntKind.bits, h64, hb64]
    rw [hm _ (by omega) (by omega), Int.tmod_eq_emod_of_nonneg (by omega)]
    split <;> (congr 1; omega)
  · unfold pw
    rw [h]
    have hm : ∀ x : Int, 0 ≤ x → x < 18446744073709551616 → Go.bits .and .u64 x 8191 = x % 8192 := fun x h0 h1 => by rw [show (8191 : Int) = 2 ^ 13 - 1 from rfl, and_low x 13 (by decide) h0 h1]; rfl
    simp [shl, shr, IntKind.wrap_u64, IntKind.bits, h64, hb64]
    rw [hm _ (by omega) (by omega), Int.tmod_eq_emod_of_nonneg (by omega)]
    split <;> (congr 1; omega)
  · unfold pw
    rw [h]
    have hm : ∀ x : Int, 0 ≤ x → x < 18446744073709551616 → Go.bits .and .u64 x 4095 = x % 4096 := fun x h0 h1 => by rw [show (4095 : Int) = 2 ^ 12 - 1 from rfl, and_low x 12 (by decide) h0 h1]; rfl
    simp [shl, shr, IntKind.wrap_u64, IntKind.bits, h64, hb64]
    rw [hm _ (by omega) (by omega), Int.tmod_eq_emod_of_nonneg (by omega)]
    split <;> (congr 1; omega)
  · unfold pw
    rw [h]
    have hm : ∀ x : Int, 0 ≤ x → x < 18446744073709551616 → Go.bits .and .u64 x 2047 = x % 2048 := fun x h0 h1 => by rw [show (2047 : Int) = 2 ^ 11 - 1 from rfl, and_low x 11 (by decide) h0 h1]; rfl
    simp [shl, shr, IntKind.wrap_u64, IntKind.bits, h64, hb64]
    rw [hm _ (by omega) (by omega), Int.tmod_eq_emod_of_nonneg (by omega)]
    split <;> (congr 1; omega)
  · unfold pw
    rw [h]
    have hm : ∀ x : Int, 0 ≤ x → x < 18446744073709551616 → Go.bits .and .u64 x 1023 = x % 1024 := fun x h0 h1 => by rw [show (1023 : Int) = 2 ^ 10 - 1 from rfl, and_low x 10 (by decide) h0 h1]; rfl
    simp [shl, shr, IntKind.wrap_u64, IntKind.bits, h64, hb64]
    rw [hm _ (by omega) (by omega), Int.tmod_eq_emod_of_nonneg (by omega)]
    split <;> (congr 1; omega)
  · unfold pw
    rw [h]
    have hm : ∀ x : Int, 0 ≤ x → x < 18446744073709551616 → Go.bits .and .u64 x 511 = x % 512 := fun x h0 h1 => by rw [show (511 : Int) = 2 ^ 9 - 1 from rfl, and_low x 9 (by decide) h0 h1]; rfl
    simp [shl, shr, IntKind.wrap_u64, IntKind.bits, h64, hb64]
    rw [hm _ (by omega) (by omega), Int.tmod_eq_emod_of_nonneg (by omega)]
    split <;> (congr 1; omega)
  · unfold pw
    rw [h]
    have hm : ∀ x : Int, 0 ≤ x → x < 18446744073709551616 → Go.bits .and .u64 x 255 = x % 256 := fun x h0 h1 => by rw [show (255 : Int) = 2 ^ 8 - 1 from rfl, and_low x 8 (by decide) h0 h1]; rfl
    simp [shl, shr, IntKind.wrap_u64, IntKind.bits, h64, hb64]
    rw [hm _ (by omega) (by omega), Int.tmod_eq_emod_of_nonneg (by omega)]
    split <;> (congr 1; omega)
theorem len_f (e b t : Int) (he : 0 ≤ e ∧ e < 256) (hb : 0 ≤ b ∧ b < 65536) (htt : 0 ≤ t ∧ t < 65536) : bounds_Length.f e b t = some (lenS e b t) := by
  have ht : Int.tmod e 16 = e % 16 := Int.tmod_eq_emod_of_nonneg he.1
  have htb : Int.tmod b 512 = b % 512 := Int.tmod_eq_emod_of_nonneg hb.1
  have htt2 : Int.tmod t 512 = t % 512 := Int.tmod_eq_emod_of_nonneg htt.1
  unfold bounds_Length.f lenS
  rw [ht, htb, htt2]
  rcases sixteen e with h | h | h | h | h | h | h | h | h | h | h | h | h | h | h | h <;> (
    unfold pw
    rw [h]
    simp [shl, shr, IntKind.wrap_u64, IntKind.bits]
    rw [Int.tmod_eq_emod_of_nonneg (by omega)]
    omega)
/-! The bounds of a base and a top. -/
def fitE (base top : Int) (k : Nat) : Bool := base % 2 ^ k == 0 && top % 2 ^ k == 0 && decide ((top - base) / 2 ^ k ≤ 511)
def exF (base top : Int) : Nat → Nat → Int × Int × Int × Int
  | 0, _ => (0, 0, 0, 5)
  | d + 1, i => if fitE base top i then ((i : Int), base / 2 ^ i % 512, top / 2 ^ i % 512, 0) else exF base top d (i + 1)
def exactS (base top : Int) : Int × Int × Int × Int := if top < base ∨ 65536 < top then (0, 0, 0, 2) else exF base top 9 0
theorem or_low (x y : Nat) (i : Nat) (hi : i ≤ 63) (hx : x ≤ 65536) (hy : y ≤ 65536) : Go.bits .and .u64 (Go.bits .or .u64 (x : Int) (y : Int)) (2 ^ i - 1) = 0 ↔ ((x : Int) % 2 ^ i = 0 ∧ (y : Int) % 2 ^ i = 0) := by
  have hk : ∀ n : Int, 0 ≤ n → n < 2 ^ 64 → IntKind.u64.wrap n = n := fun n h0 h1 => by rw [IntKind.wrap_u64]; omega
  have h1 := (bits_nat .u64 64 (by decide) hk x y (by omega) (by omega)).2
  rw [h1]
  have hlt : x ||| y < 2 ^ 17 := Nat.or_lt_two_pow (by omega) (by omega)
  rw [and_low _ i hi (by omega) (by omega)]
  have e : ∀ z : Nat, ((z : Int) % 2 ^ i = 0) ↔ z % 2 ^ i = 0 := fun z => by
    rw [show (2 : Int) ^ i = ((2 ^ i : Nat) : Int) by simp, ← Int.natCast_emod]
    omega
  rw [e, e, e, Nat.or_mod_two_pow, Nat.or_eq_zero_iff]
theorem pow_cases (i : Nat) (hi : i ≤ 8) : i = 0 ∨ i = 1 ∨ i = 2 ∨ i = 3 ∨ i = 4 ∨ i = 5 ∨ i = 6 ∨ i = 7 ∨ i = 8 := by omega
theorem power_at (k i : Nat) (hi : i ≤ 8) : bulwarkref02_power.f (k + 15) (i : Int) = some (2 ^ i) := by
  have h : bulwarkref02_power.f 15 (i : Int) = some (2 ^ i) := by
    rcases pow_cases i hi with rfl | rfl | rfl | rfl | rfl | rfl | rfl | rfl | rfl <;> kernel_rfl
  induction k with
  | zero => exact h
  | succ k ih => rw [show k + 1 + 15 = (k + 15) + 1 from by omega]; exact bulwarkref02_power.mono _ _ _ ih
theorem rexact_f (base top : Int) (hb : 0 ≤ base) : bulwarkref02_Exact.f 30 base top = some (exactS base top) := by
  unfold bulwarkref02_Exact.f exactS
  by_cases h1 : top < base
  · rw [if_pos h1, if_pos (.inl h1)]; simp only [bulwarkref02_Exact.j0, if_true]
  · rw [if_neg h1]
    by_cases h2 : 65536 < top
    · rw [if_pos (.inr h2), decide_eq_true (show top > 65536 from h2)]; simp only [bulwarkref02_Exact.j0, if_true]
    · rw [if_neg (by omega), decide_eq_false (by omega)]
      simp only [bulwarkref02_Exact.j0, if_neg (show ¬ (false = true) by decide)]
      have key : ∀ d i : Nat, i + d = 9 → bulwarkref02_Exact.l0 (d + 20) base top (i : Int) = some (exF base top d i) := by
        intro d
        induction d with
        | zero =>
          intro i hi
          simp only [bulwarkref02_Exact.l0, exF]
          rw [if_neg (by omega)]
        | succ d ih =>
          intro i hi
          have hp : (0 : Int) < 2 ^ i := Int.pow_pos (by decide)
          have hd : ∀ z : Int, 0 ≤ z → z ≤ 65536 → IntKind.u64.wrap (Int.tdiv z (2 ^ i)) = z / 2 ^ i := fun z h0 h1 => by
            have hq : 0 ≤ z / 2 ^ i := Int.ediv_nonneg h0 (Int.le_of_lt hp)
            have hr : z / 2 ^ i ≤ z := Int.ediv_le_self _ h0
            rw [Int.tdiv_eq_ediv_of_nonneg h0, IntKind.wrap_u64]
            omega
          have hm : ∀ z : Int, 0 ≤ z → IntKind.u16.wrap (Int.tmod (z / 2 ^ i) 512) = z / 2 ^ i % 512 := fun z hz => by
            have hq : 0 ≤ z / 2 ^ i := Int.ediv_nonneg hz (Int.le_of_lt hp)
            rw [Int.tmod_eq_emod_of_nonneg hq, IntKind.wrap_u16]
            omega
          have w1 : wrap64 ((i : Int) + 1) = ((i + 1 : Nat) : Int) := by unfold wrap64; omega
          have w2 : IntKind.u64.wrap (top - base) = top - base := by rw [IntKind.wrap_u64]; omega
          have hpw := power_at (d + 5) i (by omega)
          have ih2 := ih (i + 1) (by omega)
          obtain ⟨q, hq⟩ : ∃ q, d + 20 = q := ⟨_, rfl⟩
          rw [show d + 5 + 15 = q by omega] at hpw
          rw [hq] at ih2
          rw [show d + 1 + 20 = q + 1 by omega]
          obtain ⟨p2, hp2⟩ : ∃ p2 : Int, (2 : Int) ^ i = p2 := ⟨_, rfl⟩
          have hfit : fitE base top i = (base % p2 == 0 && top % p2 == 0 && decide ((top - base) / p2 ≤ 511)) := by rw [← hp2]; rfl
          simp only [bulwarkref02_Exact.l0, exF]
          rw [hfit, hp2]
          rw [hp2] at hp hpw hd hm
          rw [if_pos (show (i : Int) ≤ 8 by omega), hpw, Option.bind_some, if_neg (show ¬ (p2 = 0) by omega), w1, w2, hd _ (by omega) (by omega), hd _ (by omega) (by omega), hd _ (by omega) (by omega), hm _ (by omega), hm _ (by omega), show (i : Int) % 256 = i by omega, Int.tmod_eq_emod_of_nonneg hb, Int.tmod_eq_emod_of_nonneg (show 0 ≤ top by omega)]
          by_cases g1 : base % p2 = 0
          · rw [if_pos g1]
            by_cases g2 : top % p2 = 0
            · rw [if_pos g2]
              by_cases g3 : (top - base) / p2 ≤ 511
              · rw [if_pos g3, if_pos (by simp [g1, g2, g3])]
              · rw [if_neg g3, if_neg (by simp [g3])]; exact ih2
            · rw [if_neg g2, if_neg (by simp [g2])]; exact ih2
          · rw [if_neg g1, if_neg (by simp [g1])]; exact ih2
      exact key 9 0 rfl
end Go.Proofs.Ytadbonmkockakaa.Cp

/- bulwarkref03.has by contract: each permission that is asked is there. Conditions: both are bytes. -/
namespace Go.Proofs.Ytadbonmkockakaa.Cp
open Go.RowKit Go.Proofs.YtadbonmkockakaaW.PrintWords Go.Proofs.YtadbonmkockakaaW.PrintLast Go.Proofs.YtadbonmkockakaaW.PrintMore Go.Proofs.Ytadbonmkockakaa.QCb
set_option linter.unusedVariables false
set_option linter.unusedSimpArgs false
def bitOk (c p : Int) (j : Nat) : Bool := !(decide (p / 2 ^ j % 2 = 1)) || decide (c / 2 ^ j % 2 = 1)
def hasS (c p : Int) : Bool := (List.range 8).all (bitOk c p)
def stepI (j : Nat) : Int := if j < 8 then 2 ^ j else 0
def mI (x : Int) : Nat := if x = 0 then 0 else 256 - x.toNat
theorem mI_lt {x : Int} (h : 0 < x ∧ x ≤ 128) : mI (x * 2 % 256) < mI x := by unfold mI; rw [if_neg (show ¬ x = 0 by omega)]; split <;> omega
theorem has_no (c p : Int) (j : Nat) (hj : j < 8) (h : bitOk c p j = false) : hasS c p = false := by
  unfold hasS
  rw [List.all_eq_false]
  exact ⟨j, List.mem_range.2 hj, by simp [h]⟩
theorem take_all (c p : Int) (j : Nat) (h : (List.range j).all (bitOk c p) = true) (h2 : bitOk c p j = true) : (List.range (j + 1)).all (bitOk c p) = true := by
  rw [List.range_succ, List.all_append, h]; simp [h2]
theorem bitOk_nat (c p j : Nat) : bitOk (c : Int) (p : Int) j = (!(p.testBit j) || c.testBit j) := by
  unfold bitOk
  have e : ∀ z : Nat, decide ((z : Int) / 2 ^ j % 2 = 1) = z.testBit j := fun z => by
    rw [Nat.testBit_eq_decide_div_mod_eq]
    congr 1
    rw [show (2 : Int) ^ j = ((2 ^ j : Nat) : Int) by simp, ← Int.natCast_ediv]
    apply propext
    omega
  rw [e, e]
theorem has_and (c p : Int) (hc : 0 ≤ c ∧ c < 256) (hp : 0 ≤ p ∧ p < 256) : (Go.bits .and .u8 c p == p) = hasS c p := by
  obtain ⟨x, rfl⟩ := Int.eq_ofNat_of_zero_le hc.1
  obtain ⟨y, rfl⟩ := Int.eq_ofNat_of_zero_le hp.1
  rw [u8_and_nat x y (by omega) (by omega)]
  rw [Bool.eq_iff_iff]
  unfold hasS
  rw [List.all_eq_true, beq_iff_eq]
  constructor
  · intro h j _
    have h2 : x &&& y = y := by omega
    rw [bitOk_nat]
    have h3 := congrArg (fun n => n.testBit j) h2
    simp only [Nat.testBit_and] at h3
    cases hy : y.testBit j <;> simp_all
  · intro h
    have h2 : x &&& y = y := by
      apply Nat.eq_of_testBit_eq
      intro j
      rw [Nat.testBit_and]
      by_cases hj : j < 8
      · have := h j (List.mem_range.2 hj)
        rw [bitOk_nat] at this
        cases hy : y.testBit j <;> simp_all
      · have : y.testBit j = false := Nat.testBit_lt_two_pow (Nat.lt_of_lt_of_le (show y < 2 ^ 8 by omega) (Nat.pow_le_pow_right (by decide) (by omega)))
        rw [this, Bool.and_false]
    rw [h2]
theorem has_andNot (c p : Int) (hc : 0 ≤ c ∧ c < 256) (hp : 0 ≤ p ∧ p < 256) : (Go.bits .andNot .u8 p c == 0) = hasS c p := by
  obtain ⟨x, rfl⟩ := Int.eq_ofNat_of_zero_le hc.1
  obtain ⟨y, rfl⟩ := Int.eq_ofNat_of_zero_le hp.1
  rw [u8_andNot_nat y x (by omega) (by omega)]
  have hn : ∀ j, j < 8 → (255 - x).testBit j = !x.testBit j := fun j hj => by
    have := Nat.testBit_two_pow_sub_succ (show x < 2 ^ 8 by omega) j
    rw [show 2 ^ 8 - (x + 1) = 255 - x by omega] at this
    rw [this]
    simp [hj]
  rw [Bool.eq_iff_iff]
  unfold hasS
  rw [List.all_eq_true, beq_iff_eq]
  constructor
  · intro h j hj
    have h2 : y &&& (255 - x) = 0 := by omega
    rw [bitOk_nat]
    have h3 := congrArg (fun n => n.testBit j) h2
    simp only [Nat.testBit_and, Nat.zero_testBit, hn j (List.mem_range.1 hj)] at h3
    cases hy : y.testBit j <;> simp_all
  · intro h
    have h2 : y &&& (255 - x) = 0 := by
      apply Nat.eq_of_testBit_eq
      intro j
      rw [Nat.testBit_and, Nat.zero_testBit]
      by_cases hj : j < 8
      · have := h j (List.mem_range.2 hj)
        rw [bitOk_nat] at this
        rw [hn j hj]
        cases hy : y.testBit j <;> simp_all
      · have : y.testBit j = false := Nat.testBit_lt_two_pow (Nat.lt_of_lt_of_le (show y < 2 ^ 8 by omega) (Nat.pow_le_pow_right (by decide) (by omega)))
        rw [this, Bool.false_and]
    rw [h2]; rfl
end Go.Proofs.Ytadbonmkockakaa.Cp

/- The small functions of capa, bounds and bulwarkref03 by contract. Written by wip/r5/cpa.py. -/
namespace Go.Proofs.Ytadbonmkockakaa.Cp
open Go.RowKit Go.Proofs.YtadbonmkockakaaW.PrintWords Go.Proofs.YtadbonmkockakaaW.PrintLast Go.Proofs.YtadbonmkockakaaW.PrintMore Go.Proofs.Ytadbonmkockakaa.QCb
set_option linter.unusedVariables false
set_option linter.unusedSimpArgs false
structure Cap where
  tag : Bool
  addr : Int
  perms : Int
  ty : Int
  e : Int
  b : Int
  t : Int
deriving DecidableEq
def capV (c : Cap) : Value := .agg #[.bool c.tag, .int .u32 c.addr, .int .u8 c.perms, .int .u8 c.ty, .int .u8 c.e, .int .u16 c.b, .int .u16 c.t]
def OkB (e b t : Int) : Prop := (0 ≤ e ∧ e < 256) ∧ (0 ≤ b ∧ b < 65536) ∧ (0 ≤ t ∧ t < 65536)
def OkC (c : Cap) : Prop := (0 ≤ c.addr ∧ c.addr < 4294967296) ∧ (0 ≤ c.perms ∧ c.perms < 256) ∧ (0 ≤ c.ty ∧ c.ty < 256) ∧ OkB c.e c.b c.t
def withinS (e b t addr x n : Int) : Bool := decide (x ≤ 1099511627776) && decide (n ≤ 1099511627776) && decide (baseS e b addr ≤ x) && decide (x + n ≤ baseS e b addr + lenS e b t)
def topS (c : Cap) : Int := baseS c.e c.b c.addr + lenS c.e c.b c.t
def nullC : Cap := ⟨false, 0, 0, 0, 0, 0, 0⟩
def intC (n : Int) : Cap := ⟨false, n, 0, 0, 0, 0, 0⟩
def setAddrS (c : Cap) (x : Int) : Cap := { c with tag := c.tag && c.ty == 0 && baseS c.e c.b c.addr == baseS c.e c.b x, addr := x }
def setBoundsS (c : Cap) (n : Int) : Cap := let x := exactS c.addr (c.addr + n); if (c.ty == 0 && x.2.2.2 == 0 && withinS c.e c.b c.t c.addr c.addr n) = true then { c with e := x.1, b := x.2.1, t := x.2.2.1 } else { c with tag := false }
def andS (x y : Int) : Int := ((x.toNat &&& y.toNat : Nat) : Int)
def andPermsS (c : Cap) (m : Int) : Cap := { c with tag := c.tag && c.ty == 0, perms := andS c.perms (m % 256) }
def clearS (c : Cap) : Cap := { c with tag := false }
def sentryS (c : Cap) : Cap := { c with tag := c.tag && c.ty == 0 && hasS c.perms 8, ty := 1 }
def sealS (c : Cap) (n : Int) : Cap := { c with tag := c.tag && c.ty == 0 && !(n % 8 == 0), ty := n % 8 }
def unsealS (c : Cap) : Cap := { c with tag := c.tag && !(c.ty == 0), ty := 0 }
def mayS (c : Cap) (q x n : Int) : Bool := c.tag && c.ty == 0 && hasS c.perms q && withinS c.e c.b c.t c.addr x n
def subsetS (c d : Cap) : Bool := c.tag == d.tag && hasS d.perms c.perms && decide (baseS d.e d.b d.addr ≤ baseS c.e c.b c.addr) && decide (topS c ≤ topS d)
theorem seven {w : World} {g : Nat} {x0 x1 x2 x3 x4 x5 x6 : Value} {T : TypeId} (h : w.heap[g]? = some (.cells #[x0, x1, x2, x3, x4, x5, x6] T (0, 0))) : w.cell? ⟨g, 0, none⟩ = some x0 ∧ w.cell? ⟨g, 1, none⟩ = some x1 ∧ w.cell? ⟨g, 2, none⟩ = some x2 ∧ w.cell? ⟨g, 3, none⟩ = some x3 ∧ w.cell? ⟨g, 4, none⟩ = some x4 ∧ w.cell? ⟨g, 5, none⟩ = some x5 ∧ w.cell? ⟨g, 6, none⟩ = some x6 ∧ w.frozen? ⟨g, 0, none⟩ = false ∧ w.frozen? ⟨g, 1, none⟩ = false ∧ w.frozen? ⟨g, 2, none⟩ = false ∧ w.frozen? ⟨g, 3, none⟩ = false ∧ w.frozen? ⟨g, 4, none⟩ = false ∧ w.frozen? ⟨g, 5, none⟩ = false ∧ w.frozen? ⟨g, 6, none⟩ = false := by
  have hc : ∀ j v, (#[x0, x1, x2, x3, x4, x5, x6] : Array Value)[j]? = some v → w.cell? ⟨g, j, none⟩ = some v := fun j v hj => by
    unfold World.cell?; rw [h]; exact hj
  have hf : ∀ j, w.frozen? ⟨g, j, none⟩ = false := fun j => by
    unfold World.frozen?; rw [h]; simp
  exact ⟨hc 0 _ rfl, hc 1 _ rfl, hc 2 _ rfl, hc 3 _ rfl, hc 4 _ rfl, hc 5 _ rfl, hc 6 _ rfl, hf _, hf _, hf _, hf _, hf _, hf _, hf _⟩
theorem three {w : World} {g : Nat} {x0 x1 x2 : Value} {T : TypeId} (h : w.heap[g]? = some (.cells #[x0, x1, x2] T (0, 0))) : w.cell? ⟨g, 0, none⟩ = some x0 ∧ w.cell? ⟨g, 1, none⟩ = some x1 ∧ w.cell? ⟨g, 2, none⟩ = some x2 ∧ w.frozen? ⟨g, 0, none⟩ = false ∧ w.frozen? ⟨g, 1, none⟩ = false ∧ w.frozen? ⟨g, 2, none⟩ = false := by
  have hc : ∀ j v, (#[x0, x1, x2] : Array Value)[j]? = some v → w.cell? ⟨g, j, none⟩ = some v := fun j v hj => by
    unfold World.cell?; rw [h]; exact hj
  have hf : ∀ j, w.frozen? ⟨g, j, none⟩ = false := fun j => by
    unfold World.frozen?; rw [h]; simp
  exact ⟨hc 0 _ rfl, hc 1 _ rfl, hc 2 _ rfl, hf _, hf _, hf _⟩
theorem blk0 {w w1 : World} {X Y : Array Value} {T U : TypeId} (hb : Below ((w.alloc (.cells X T)).alloc (.cells Y U)).heap.size ((w.alloc (.cells X T)).alloc (.cells Y U)) w1) : w1.heap[w.heap.size]? = some (.cells X T (0, 0)) :=
  (hb.block _ (by simp; omega)).trans ((Below.heap_alloc _ _ _ (by simp)).trans (heap_alloc_new w _))
theorem blk1 {w w1 : World} {X Y : Array Value} {T U : TypeId} (hb : Below ((w.alloc (.cells X T)).alloc (.cells Y U)).heap.size ((w.alloc (.cells X T)).alloc (.cells Y U)) w1) : w1.heap[w.heap.size + 1]? = some (.cells Y U (0, 0)) :=
  (hb.block _ (by simp)).trans (by have h := heap_alloc_new (w.alloc (.cells X T)) (.cells Y U); simpa using h)
theorem blkS {w w1 : World} {X : Array Value} {T : TypeId} (hb : Below (w.alloc (.cells X T)).heap.size (w.alloc (.cells X T)) w1) : w1.heap[w.heap.size]? = some (.cells X T (0, 0)) :=
  (hb.block _ (by simp)).trans (heap_alloc_new w _)
theorem blkK {w w1 : World} {g : Nat} {X : Obj} (hb : Below w.heap.size w w1) (h : w.heap[g]? = some X) : w1.heap[g]? = some X := (hb.block g (Array.getElem?_eq_some_iff.1 h).1).trans h
theorem bel2 {w w1 : World} {o1 o2 : Obj} (hb : Below ((w.alloc o1).alloc o2).heap.size ((w.alloc o1).alloc o2) w1) : Below w.heap.size w w1 := (below_alloc (below_alloc (Below.refl _ _) _) _).trans (hb.mono (by simp; omega))
theorem bel1 {w w1 : World} {o1 : Obj} (hb : Below (w.alloc o1).heap.size (w.alloc o1) w1) : Below w.heap.size w w1 := (below_alloc (Below.refl _ _) _).trans (hb.mono (by simp))
set_option maxHeartbeats 1000000 in
theorem null_calls  (w : World) : Calls Try.prog 8 #[] w fun r w' => r = .returned (.agg #[.bool false, .int .u32 0, .int .u8 0, .int .u8 0, .int .u8 0, .int .u16 0, .int .u16 0]) ∧ Below w.heap.size w w' := by
  go_enter Try.func8, Try.ntmps8
  go_wp2
  exact bodyPost_ret (v := .agg #[.bool false, .int .u32 0, .int .u8 0, .int .u8 0, .int .u8 0, .int .u16 0, .int .u16 0]) (by simp [results, Try.results8, go_sem]) rfl ⟨rfl, below_alloc (Below.refl _ _) _⟩
set_option maxHeartbeats 1000000 in
theorem int_calls (n : Int) (w : World) : Calls Try.prog 62 #[.int .u32 n] w fun r w' => r = .returned (.agg #[.bool false, .int .u32 n, .int .u8 0, .int .u8 0, .int .u8 0, .int .u16 0, .int .u16 0]) ∧ Below w.heap.size w w' := by
  go_enter Try.func62, Try.ntmps62
  go_wp2
  exact bodyPost_ret (v := .agg #[.bool false, .int .u32 n, .int .u8 0, .int .u8 0, .int .u8 0, .int .u16 0, .int .u16 0]) (by simp [results, Try.results62, go_sem]) rfl ⟨rfl, by first | exact below_alloc (Below.refl _ _) _ | exact below_alloc (below_alloc (Below.refl _ _) _) _⟩
set_option maxHeartbeats 1000000 in
theorem open_calls (tag : Bool) (a p ty e b t : Int) (o : Bool) (ho : (ty == 0) = o) (w : World) : Calls Try.prog 29 #[.agg #[.bool tag, .int .u32 a, .int .u8 p, .int .u8 ty, .int .u8 e, .int .u16 b, .int .u16 t]] w fun r w' => r = .returned (.bool o) ∧ Below w.heap.size w w' := by
  subst ho
  go_enter Try.func29, Try.ntmps29
  go_wp2
  go_ret
  exact ⟨rfl, below_alloc (Below.refl _ _) _⟩
set_option maxHeartbeats 1000000 in
theorem keeps_calls (e b t x y : Int) (ok : OkB e b t) (hx : 0 ≤ x ∧ x < 4294967296) (hy : 0 ≤ y ∧ y < 4294967296) (q : Bool) (hq : (baseS e b x == baseS e b y) = q) (w : World) : Calls Try.prog 61 #[.agg #[.int .u8 e, .int .u16 b, .int .u16 t], .int .u32 x, .int .u32 y] w fun r w' => r = .returned (.bool q) ∧ Below w.heap.size w w' := by
  subst hq
  have h := bounds_Keeps.calls e b t x y _ w (show _ = some (baseS e b x == baseS e b y) by unfold bounds_Keeps.f; rw [base_f e b t x ok.1 ok.2.1 hx, base_f e b t y ok.1 ok.2.1 hy]; rfl)
  exact h.mono fun e w' h => ⟨h.1, h.2⟩
set_option maxHeartbeats 2000000 in
theorem setAddr_calls (tag : Bool) (a p ty e b t : Int) (ok : OkC ⟨tag, a, p, ty, e, b, t⟩) (x : Int) (hx : 0 ≤ x ∧ x < 4294967296) (w : World) : Calls Try.prog 34 #[.agg #[.bool tag, .int .u32 a, .int .u8 p, .int .u8 ty, .int .u8 e, .int .u16 b, .int .u16 t], .int .u32 x] w fun r w' => r = .returned (capV (setAddrS ⟨tag, a, p, ty, e, b, t⟩ x)) ∧ Below w.heap.size w w' := by
  obtain ⟨o, ho⟩ : ∃ o, (ty == 0) = o := ⟨_, rfl⟩
  obtain ⟨q, hq⟩ : ∃ q, (baseS e b a == baseS e b x) = q := ⟨_, rfl⟩
  have HO := Aside0.mk (fun w => open_calls tag a p ty e b t o ho w)
  have HQ := Aside0.mk (fun w => keeps_calls e b t a x ok.2.2.2 ok.1 hx q hq w)
  have HS : Aside0 (setAddrS ⟨tag, a, p, ty, e, b, t⟩ x = ⟨tag && o && q, x, p, ty, e, b, t⟩) := ⟨by unfold setAddrS; rw [← ho, ← hq]⟩
  rw [HS.out]
  skip
  clear hq HS ok hx
  clear ho
  cases tag
  · go_enter Try.func34, Try.ntmps34
    go_wp2
    exact bodyPost_ret (v := .agg #[.bool false, .int .u32 x, .int .u8 p, .int .u8 ty, .int .u8 e, .int .u16 b, .int .u16 t]) (by simp [results, Try.results34, go_sem]) rfl ⟨rfl, below_alloc (below_alloc (Below.refl _ _) _) _⟩
  · cases o
    · go_enter Try.func34, Try.ntmps34
      go_wp2_with (first | ((go_at_call 29; (with_reducible refine (HO.out _).mono ?_); rintro _ w1 ⟨rfl, hb⟩; have k0 := blk0 hb; have k1 := blk1 hb; have HB := Aside0.mk (bel2 hb); clear hb; obtain ⟨e0, e1, e2, e3, e4, e5, e6, e7, e8, e9, e10, e11, e12, e13⟩ := seven k0; obtain ⟨g0, g1, g2, g3, g4, g5, g6, g7, g8, g9, g10, g11, g12, g13⟩ := seven k1; have K0 := Aside0.mk k0; have K1 := Aside0.mk k1; clear k0 k1)))
      exact bodyPost_ret (v := .agg #[.bool false, .int .u32 x, .int .u8 p, .int .u8 ty, .int .u8 e, .int .u16 b, .int .u16 t]) (by simp [results, Try.results34, go_sem, e0, e1, e2, e3, e4, e5, e6, g0, g1, g2, g3, g4, g5, g6]) rfl ⟨rfl, (by repeat (first | (with_reducible exact HB.out) | (with_reducible refine Below.setCell ?_ (by simp) _)))⟩
    · go_enter Try.func34, Try.ntmps34
      go_wp2_with (first | ((go_at_call 29; (with_reducible refine (HO.out _).mono ?_); rintro _ w1 ⟨rfl, hb⟩; have k0 := blk0 hb; have k1 := blk1 hb; have HB := Aside0.mk (bel2 hb); clear hb; obtain ⟨e0, e1, e2, e3, e4, e5, e6, e7, e8, e9, e10, e11, e12, e13⟩ := seven k0; obtain ⟨g0, g1, g2, g3, g4, g5, g6, g7, g8, g9, g10, g11, g12, g13⟩ := seven k1; have K0 := Aside0.mk k0; have K1 := Aside0.mk k1; clear k0 k1)) | ((go_at_call 61; (with_reducible refine (HQ.out _).mono ?_); rintro _ w2 ⟨rfl, hb⟩; replace K0 := Aside0.mk (blkK hb K0.out); replace K1 := Aside0.mk (blkK hb K1.out); replace HB := Aside0.mk (HB.out.trans (hb.mono HB.out.size)); clear hb; obtain ⟨e0, e1, e2, e3, e4, e5, e6, e7, e8, e9, e10, e11, e12, e13⟩ := seven K0.out; obtain ⟨g0, g1, g2, g3, g4, g5, g6, g7, g8, g9, g10, g11, g12, g13⟩ := seven K1.out)))
      exact bodyPost_ret (v := .agg #[.bool q, .int .u32 x, .int .u8 p, .int .u8 ty, .int .u8 e, .int .u16 b, .int .u16 t]) (by simp [results, Try.results34, go_sem, e0, e1, e2, e3, e4, e5, e6, g0, g1, g2, g3, g4, g5, g6]) rfl ⟨by simp [capV], (by repeat (first | (with_reducible exact HB.out) | (with_reducible refine Below.setCell ?_ (by simp) _)))⟩
theorem within_f (e b t a x n : Int) (ok : OkB e b t) (ha : 0 ≤ a ∧ a < 4294967296) (hx : 0 ≤ x) (hn : 0 ≤ n) : bounds_Within.f 1 e b t a x n = some (withinS e b t a x n) := by
  have hb := base_in e b a ha
  have hl := len_in e b t
  unfold bounds_Within.f withinS
  by_cases h1 : x > 1099511627776
  · rw [if_pos h1, decide_eq_false (by omega)]; simp only [bounds_Within.j0, if_true, Bool.false_and]
  · rw [if_neg h1, decide_eq_true (show x ≤ 1099511627776 by omega)]
    by_cases h2 : n > 1099511627776
    · rw [decide_eq_true h2, decide_eq_false (show ¬ n ≤ 1099511627776 by omega)]; simp only [bounds_Within.j0, if_true, Bool.and_false, Bool.false_and]
    · rw [decide_eq_false h2, decide_eq_true (show n ≤ 1099511627776 by omega)]
      simp only [bounds_Within.j0, if_neg (show ¬ (false = true) by decide)]
      rw [base_f e b t a ok.1 ok.2.1 ha, Option.bind_some, len_f e b t ok.1 ok.2.1 ok.2.2, Option.bind_some, u64_in _ (by omega) (by omega), u64_in _ (by omega) (by omega)]
      by_cases h3 : x ≥ baseS e b a
      · rw [if_pos h3, decide_eq_true (show baseS e b a ≤ x from h3)]; rfl
      · rw [if_neg h3, decide_eq_false (show ¬ baseS e b a ≤ x by omega)]; rfl
set_option maxHeartbeats 1000000 in
theorem within_calls (e b t a x n : Int) (ok : OkB e b t) (ha : 0 ≤ a ∧ a < 4294967296) (hx : 0 ≤ x) (hn : 0 ≤ n) (q : Bool) (hq : withinS e b t a x n = q) (w : World) : Calls Try.prog 30 #[.agg #[.int .u8 e, .int .u16 b, .int .u16 t], .int .u32 a, .int .u64 x, .int .u64 n] w fun r w' => r = .returned (.bool q) ∧ Below w.heap.size w w' := by
  subst hq
  exact (bounds_Within.calls 1 e b t a x n _ w (within_f e b t a x n ok ha hx hn)).mono fun e w' h => ⟨h.1, by first | exact h.2 | exact h.2.below⟩
set_option maxHeartbeats 1000000 in
theorem rexact_calls (x y : Int) (hx : 0 ≤ x) (q : Int × Int × Int × Int) (hq : exactS x y = q) (w : World) : Calls Try.prog 26 #[.int .u64 x, .int .u64 y] w fun r w' => r = .returned (.tuple #[.agg #[.int .u8 q.1, .int .u16 q.2.1, .int .u16 q.2.2.1], .int .i64 q.2.2.2]) ∧ Below w.heap.size w w' := by
  subst hq
  exact (bulwarkref02_Exact.calls 30 x y (exactS x y).1 (exactS x y).2.1 (exactS x y).2.2.1 (exactS x y).2.2.2 w (rexact_f x y hx)).mono fun e w' h => ⟨h.1, by first | exact h.2 | exact h.2.below⟩
set_option maxHeartbeats 1000000 in
theorem clear_calls (tag : Bool) (a p ty e b t : Int) (w : World) : Calls Try.prog 76 #[.agg #[.bool tag, .int .u32 a, .int .u8 p, .int .u8 ty, .int .u8 e, .int .u16 b, .int .u16 t]] w fun r w' => r = .returned (capV (clearS ⟨tag, a, p, ty, e, b, t⟩)) ∧ Below w.heap.size w w' := by
  go_enter Try.func76, Try.ntmps76
  go_wp2
  exact bodyPost_ret (v := .agg #[.bool false, .int .u32 a, .int .u8 p, .int .u8 ty, .int .u8 e, .int .u16 b, .int .u16 t]) (by simp [results, Try.results76, go_sem]) rfl ⟨by simp [capV, clearS], below_alloc (below_alloc (Below.refl _ _) _) _⟩
set_option maxHeartbeats 2000000 in
theorem andPerms_calls (tag : Bool) (a p ty e b t : Int) (hp : 0 ≤ p ∧ p < 256) (m : Int) (w : World) : Calls Try.prog 78 #[.agg #[.bool tag, .int .u32 a, .int .u8 p, .int .u8 ty, .int .u8 e, .int .u16 b, .int .u16 t], .int .u32 m] w fun r w' => r = .returned (capV (andPermsS ⟨tag, a, p, ty, e, b, t⟩ m)) ∧ Below w.heap.size w w' := by
  obtain ⟨o, ho⟩ : ∃ o, (ty == 0) = o := ⟨_, rfl⟩
  have hb : Go.bits .and .u8 p (m % 256) = andS p (m % 256) := u8_and p (m % 256) hp.1 hp.2 (by omega) (by omega)
  obtain ⟨pa, hpa⟩ : ∃ pa, andS p (m % 256) = pa := ⟨_, rfl⟩
  rw [hpa] at hb
  have HO := Aside0.mk (fun w => open_calls tag a p ty e b t o ho w)
  have HS : Aside0 (andPermsS ⟨tag, a, p, ty, e, b, t⟩ m = ⟨tag && o, a, pa, ty, e, b, t⟩) := ⟨by unfold andPermsS; rw [← ho, ← hpa]⟩
  rw [HS.out]
  clear ho HS
  cases tag
  · go_enter Try.func78, Try.ntmps78
    go_wp2
    exact bodyPost_ret (v := .agg #[.bool false, .int .u32 a, .int .u8 pa, .int .u8 ty, .int .u8 e, .int .u16 b, .int .u16 t]) (by simp [results, Try.results78, go_sem]) rfl ⟨by simp [capV], below_alloc (below_alloc (Below.refl _ _) _) _⟩
  · cases o
    · go_enter Try.func78, Try.ntmps78
      go_wp2_with (first | ((go_at_call 29; (with_reducible refine (HO.out _).mono ?_); rintro _ w1 ⟨rfl, hb⟩; have k0 := blk0 hb; have k1 := blk1 hb; have HB := Aside0.mk (bel2 hb); clear hb; obtain ⟨e0, e1, e2, e3, e4, e5, e6, e7, e8, e9, e10, e11, e12, e13⟩ := seven k0; obtain ⟨g0, g1, g2, g3, g4, g5, g6, g7, g8, g9, g10, g11, g12, g13⟩ := seven k1; have K0 := Aside0.mk k0; have K1 := Aside0.mk k1; clear k0 k1)))
      exact bodyPost_ret (v := .agg #[.bool false, .int .u32 a, .int .u8 pa, .int .u8 ty, .int .u8 e, .int .u16 b, .int .u16 t]) (by simp [results, Try.results78, go_sem, e0, e1, e2, e3, e4, e5, e6, g0, g1, g2, g3, g4, g5, g6]) rfl ⟨by simp [capV], (by repeat (first | (with_reducible exact HB.out) | (with_reducible refine Below.setCell ?_ (by simp) _)))⟩
    · go_enter Try.func78, Try.ntmps78
      go_wp2_with (first | ((go_at_call 29; (with_reducible refine (HO.out _).mono ?_); rintro _ w1 ⟨rfl, hb⟩; have k0 := blk0 hb; have k1 := blk1 hb; have HB := Aside0.mk (bel2 hb); clear hb; obtain ⟨e0, e1, e2, e3, e4, e5, e6, e7, e8, e9, e10, e11, e12, e13⟩ := seven k0; obtain ⟨g0, g1, g2, g3, g4, g5, g6, g7, g8, g9, g10, g11, g12, g13⟩ := seven k1; have K0 := Aside0.mk k0; have K1 := Aside0.mk k1; clear k0 k1)))
      exact bodyPost_ret (v := .agg #[.bool true, .int .u32 a, .int .u8 pa, .int .u8 ty, .int .u8 e, .int .u16 b, .int .u16 t]) (by simp [results, Try.results78, go_sem, e0, e1, e2, e3, e4, e5, e6, g0, g1, g2, g3, g4, g5, g6]) rfl ⟨by simp [capV], (by repeat (first | (with_reducible exact HB.out) | (with_reducible refine Below.setCell ?_ (by simp) _)))⟩
theorem sentry_bits : (List.range 256).all (fun p => ((Go.bits .and .u8 (p : Int) 8 != 0) == hasS (p : Int) 8) && (((p : Int) / 8 % 2 == 0) == !(hasS (p : Int) 8))) = true := by kernel_rfl
theorem sentry_bit (p : Int) (hp : 0 ≤ p ∧ p < 256) : (Go.bits .and .u8 p 8 != 0) = hasS p 8 ∧ (p / 8 % 2 == 0) = !(hasS p 8) := by
  obtain ⟨x, rfl⟩ := Int.eq_ofNat_of_zero_le hp.1
  have h := List.all_eq_true.1 sentry_bits x (List.mem_range.2 (by omega))
  simp only [Bool.and_eq_true, beq_iff_eq] at h
  exact h
set_option maxHeartbeats 2000000 in
theorem sentry_calls (tag : Bool) (a p ty e b t : Int) (hp : 0 ≤ p ∧ p < 256) (w : World) : Calls Try.prog 77 #[.agg #[.bool tag, .int .u32 a, .int .u8 p, .int .u8 ty, .int .u8 e, .int .u16 b, .int .u16 t]] w fun r w' => r = .returned (capV (sentryS ⟨tag, a, p, ty, e, b, t⟩)) ∧ Below w.heap.size w w' := by
  obtain ⟨o, ho⟩ : ∃ o, (ty == 0) = o := ⟨_, rfl⟩
  obtain ⟨x, hx⟩ : ∃ x, hasS p 8 = x := ⟨_, rfl⟩
  have hb := (sentry_bit p hp).1
  rw [hx] at hb
  have HO := Aside0.mk (fun w => open_calls tag a p ty e b t o ho w)
  have HS : Aside0 (sentryS ⟨tag, a, p, ty, e, b, t⟩ = ⟨tag && o && x, a, p, 1, e, b, t⟩) := ⟨by unfold sentryS; rw [← ho, ← hx]⟩
  rw [HS.out]
  clear ho HS
  cases tag
  · go_enter Try.func77, Try.ntmps77
    go_wp2
    exact bodyPost_ret (v := .agg #[.bool false, .int .u32 a, .int .u8 p, .int .u8 1, .int .u8 e, .int .u16 b, .int .u16 t]) (by simp [results, Try.results77, go_sem]) rfl ⟨by simp [capV], below_alloc (below_alloc (Below.refl _ _) _) _⟩
  · cases o
    · go_enter Try.func77, Try.ntmps77
      go_wp2_with (first | ((go_at_call 29; (with_reducible refine (HO.out _).mono ?_); rintro _ w1 ⟨rfl, hb⟩; have k0 := blk0 hb; have k1 := blk1 hb; have HB := Aside0.mk (bel2 hb); clear hb; obtain ⟨e0, e1, e2, e3, e4, e5, e6, e7, e8, e9, e10, e11, e12, e13⟩ := seven k0; obtain ⟨g0, g1, g2, g3, g4, g5, g6, g7, g8, g9, g10, g11, g12, g13⟩ := seven k1; have K0 := Aside0.mk k0; have K1 := Aside0.mk k1; clear k0 k1)))
      exact bodyPost_ret (v := .agg #[.bool false, .int .u32 a, .int .u8 p, .int .u8 1, .int .u8 e, .int .u16 b, .int .u16 t]) (by simp [results, Try.results77, go_sem, e0, e1, e2, e3, e4, e5, e6, g0, g1, g2, g3, g4, g5, g6]) rfl ⟨by simp [capV], (by repeat (first | (with_reducible exact HB.out) | (with_reducible refine Below.setCell ?_ (by simp) _)))⟩
    · go_enter Try.func77, Try.ntmps77
      go_wp2_with (first | ((go_at_call 29; (with_reducible refine (HO.out _).mono ?_); rintro _ w1 ⟨rfl, hb⟩; have k0 := blk0 hb; have k1 := blk1 hb; have HB := Aside0.mk (bel2 hb); clear hb; obtain ⟨e0, e1, e2, e3, e4, e5, e6, e7, e8, e9, e10, e11, e12, e13⟩ := seven k0; obtain ⟨g0, g1, g2, g3, g4, g5, g6, g7, g8, g9, g10, g11, g12, g13⟩ := seven k1; have K0 := Aside0.mk k0; have K1 := Aside0.mk k1; clear k0 k1)))
      exact bodyPost_ret (v := .agg #[.bool x, .int .u32 a, .int .u8 p, .int .u8 1, .int .u8 e, .int .u16 b, .int .u16 t]) (by simp [results, Try.results77, go_sem, e0, e1, e2, e3, e4, e5, e6, g0, g1, g2, g3, g4, g5, g6]) rfl ⟨by simp [capV], (by repeat (first | (with_reducible exact HB.out) | (with_reducible refine Below.setCell ?_ (by simp) _)))⟩
set_option maxHeartbeats 2000000 in
theorem seal_calls (tag : Bool) (a p ty e b t : Int) (m : Int) (hm0 : 0 ≤ m ∧ m < 4294967296) (w : World) : Calls Try.prog 63 #[.agg #[.bool tag, .int .u32 a, .int .u8 p, .int .u8 ty, .int .u8 e, .int .u16 b, .int .u16 t], .int .u32 m] w fun r w' => r = .returned (capV (sealS ⟨tag, a, p, ty, e, b, t⟩ m)) ∧ Below w.heap.size w w' := by
  obtain ⟨o, ho⟩ : ∃ o, (ty == 0) = o := ⟨_, rfl⟩
  have hm : Int.tmod m 8 = m % 8 := Int.tmod_eq_emod_of_nonneg hm0.1
  have hm2 : m % 8 % 256 = m % 8 := by omega
  obtain ⟨n, hn⟩ : ∃ n, m % 8 = n := ⟨_, rfl⟩
  rw [hn] at hm hm2
  obtain ⟨z, hz⟩ : ∃ z, (n == 0) = z := ⟨_, rfl⟩
  have hz2 : (n != 0) = !z := by rw [← hz]; rfl
  have HO := Aside0.mk (fun w => open_calls tag a p ty e b t o ho w)
  have HS : Aside0 (sealS ⟨tag, a, p, ty, e, b, t⟩ m = ⟨tag && o && !z, a, p, n, e, b, t⟩) := ⟨by unfold sealS; simp only []; rw [hn, hz, ho]⟩
  rw [HS.out]
  clear ho HS
  cases tag
  · go_enter Try.func63, Try.ntmps63
    go_wp2
    exact bodyPost_ret (v := .agg #[.bool false, .int .u32 a, .int .u8 p, .int .u8 n, .int .u8 e, .int .u16 b, .int .u16 t]) (by simp [results, Try.results63, go_sem]) rfl ⟨by simp [capV], below_alloc (below_alloc (Below.refl _ _) _) _⟩
  · cases o
    · go_enter Try.func63, Try.ntmps63
      go_wp2_with (first | ((go_at_call 29; (with_reducible refine (HO.out _).mono ?_); rintro _ w1 ⟨rfl, hb⟩; have k0 := blk0 hb; have k1 := blk1 hb; have HB := Aside0.mk (bel2 hb); clear hb; obtain ⟨e0, e1, e2, e3, e4, e5, e6, e7, e8, e9, e10, e11, e12, e13⟩ := seven k0; obtain ⟨g0, g1, g2, g3, g4, g5, g6, g7, g8, g9, g10, g11, g12, g13⟩ := seven k1; have K0 := Aside0.mk k0; have K1 := Aside0.mk k1; clear k0 k1)))
      exact bodyPost_ret (v := .agg #[.bool false, .int .u32 a, .int .u8 p, .int .u8 n, .int .u8 e, .int .u16 b, .int .u16 t]) (by simp [results, Try.results63, go_sem, e0, e1, e2, e3, e4, e5, e6, g0, g1, g2, g3, g4, g5, g6]) rfl ⟨by simp [capV], (by repeat (first | (with_reducible exact HB.out) | (with_reducible refine Below.setCell ?_ (by simp) _)))⟩
    · go_enter Try.func63, Try.ntmps63
      go_wp2_with (first | ((go_at_call 29; (with_reducible refine (HO.out _).mono ?_); rintro _ w1 ⟨rfl, hb⟩; have k0 := blk0 hb; have k1 := blk1 hb; have HB := Aside0.mk (bel2 hb); clear hb; obtain ⟨e0, e1, e2, e3, e4, e5, e6, e7, e8, e9, e10, e11, e12, e13⟩ := seven k0; obtain ⟨g0, g1, g2, g3, g4, g5, g6, g7, g8, g9, g10, g11, g12, g13⟩ := seven k1; have K0 := Aside0.mk k0; have K1 := Aside0.mk k1; clear k0 k1)))
      exact bodyPost_ret (v := .agg #[.bool !z, .int .u32 a, .int .u8 p, .int .u8 n, .int .u8 e, .int .u16 b, .int .u16 t]) (by simp [results, Try.results63, go_sem, e0, e1, e2, e3, e4, e5, e6, g0, g1, g2, g3, g4, g5, g6]) rfl ⟨by simp [capV], (by repeat (first | (with_reducible exact HB.out) | (with_reducible refine Below.setCell ?_ (by simp) _)))⟩
set_option maxHeartbeats 2000000 in
theorem unseal_calls (tag : Bool) (a p ty e b t : Int)  (w : World) : Calls Try.prog 64 #[.agg #[.bool tag, .int .u32 a, .int .u8 p, .int .u8 ty, .int .u8 e, .int .u16 b, .int .u16 t]] w fun r w' => r = .returned (capV (unsealS ⟨tag, a, p, ty, e, b, t⟩)) ∧ Below w.heap.size w w' := by
  obtain ⟨o, ho⟩ : ∃ o, (ty == 0) = o := ⟨_, rfl⟩
  have HO := Aside0.mk (fun w => open_calls tag a p ty e b t o ho w)
  have HS : Aside0 (unsealS ⟨tag, a, p, ty, e, b, t⟩ = ⟨tag && !o, a, p, 0, e, b, t⟩) := ⟨by unfold unsealS; rw [← ho]⟩
  rw [HS.out]
  clear ho HS
  cases tag
  · go_enter Try.func64, Try.ntmps64
    go_wp2
    exact bodyPost_ret (v := .agg #[.bool false, .int .u32 a, .int .u8 p, .int .u8 0, .int .u8 e, .int .u16 b, .int .u16 t]) (by simp [results, Try.results64, go_sem]) rfl ⟨by simp [capV], below_alloc (below_alloc (Below.refl _ _) _) _⟩
  · cases o
    · go_enter Try.func64, Try.ntmps64
      go_wp2_with (first | ((go_at_call 29; (with_reducible refine (HO.out _).mono ?_); rintro _ w1 ⟨rfl, hb⟩; have k0 := blk0 hb; have k1 := blk1 hb; have HB := Aside0.mk (bel2 hb); clear hb; obtain ⟨e0, e1, e2, e3, e4, e5, e6, e7, e8, e9, e10, e11, e12, e13⟩ := seven k0; obtain ⟨g0, g1, g2, g3, g4, g5, g6, g7, g8, g9, g10, g11, g12, g13⟩ := seven k1; have K0 := Aside0.mk k0; have K1 := Aside0.mk k1; clear k0 k1)))
      exact bodyPost_ret (v := .agg #[.bool true, .int .u32 a, .int .u8 p, .int .u8 0, .int .u8 e, .int .u16 b, .int .u16 t]) (by simp [results, Try.results64, go_sem, e0, e1, e2, e3, e4, e5, e6, g0, g1, g2, g3, g4, g5, g6]) rfl ⟨by simp [capV], (by repeat (first | (with_reducible exact HB.out) | (with_reducible refine Below.setCell ?_ (by simp) _)))⟩
    · go_enter Try.func64, Try.ntmps64
      go_wp2_with (first | ((go_at_call 29; (with_reducible refine (HO.out _).mono ?_); rintro _ w1 ⟨rfl, hb⟩; have k0 := blk0 hb; have k1 := blk1 hb; have HB := Aside0.mk (bel2 hb); clear hb; obtain ⟨e0, e1, e2, e3, e4, e5, e6, e7, e8, e9, e10, e11, e12, e13⟩ := seven k0; obtain ⟨g0, g1, g2, g3, g4, g5, g6, g7, g8, g9, g10, g11, g12, g13⟩ := seven k1; have K0 := Aside0.mk k0; have K1 := Aside0.mk k1; clear k0 k1)))
      exact bodyPost_ret (v := .agg #[.bool false, .int .u32 a, .int .u8 p, .int .u8 0, .int .u8 e, .int .u16 b, .int .u16 t]) (by simp [results, Try.results64, go_sem, e0, e1, e2, e3, e4, e5, e6, g0, g1, g2, g3, g4, g5, g6]) rfl ⟨by simp [capV], (by repeat (first | (with_reducible exact HB.out) | (with_reducible refine Below.setCell ?_ (by simp) _)))⟩
set_option maxHeartbeats 2000000 in
theorem may_calls (tag : Bool) (a p ty e b t : Int) (ok : OkC ⟨tag, a, p, ty, e, b, t⟩) (q x n : Int) (hq : 0 ≤ q ∧ q < 256) (hx : 0 ≤ x) (hn : 0 ≤ n) (w : World) : Calls Try.prog 20 #[.agg #[.bool tag, .int .u32 a, .int .u8 p, .int .u8 ty, .int .u8 e, .int .u16 b, .int .u16 t], .int .u8 q, .int .u64 x, .int .u64 n] w fun r w' => r = .returned (.bool (mayS ⟨tag, a, p, ty, e, b, t⟩ q x n)) ∧ Below w.heap.size w w' := by
  obtain ⟨o, ho⟩ : ∃ o, (ty == 0) = o := ⟨_, rfl⟩
  obtain ⟨h, hh⟩ : ∃ h, hasS p q = h := ⟨_, rfl⟩
  have hb : (Go.bits .and .u8 p q == q) = h := by rw [has_and p q ok.2.1 hq]; exact hh
  obtain ⟨s, hs⟩ : ∃ s, withinS e b t a x n = s := ⟨_, rfl⟩
  have HO := Aside0.mk (fun w => open_calls tag a p ty e b t o ho w)
  have HW := Aside0.mk (fun w => within_calls e b t a x n ok.2.2.2 ok.1 hx hn s hs w)
  have HM : Aside0 (mayS ⟨tag, a, p, ty, e, b, t⟩ q x n = (tag && o && h && s)) := ⟨by unfold mayS; rw [← ho, ← hh, ← hs]⟩
  rw [HM.out]
  clear ho hh hs HM ok hq hx hn
  cases tag
  · go_enter Try.func20, Try.ntmps20
    go_wp2
    go_ret
    exact ⟨rfl, below_alloc (Below.refl _ _) _⟩
  · cases o
    · go_enter Try.func20, Try.ntmps20
      go_wp2_with (first | ((go_at_call 29; (with_reducible refine (HO.out _).mono ?_); rintro _ w1 ⟨rfl, hb⟩; have k0 := blkS hb; have HB := Aside0.mk (bel1 hb); clear hb; obtain ⟨e0, e1, e2, e3, e4, e5, e6, e7, e8, e9, e10, e11, e12, e13⟩ := seven k0; have K0 := Aside0.mk k0; clear k0)))
      go_ret
      exact ⟨rfl, HB.out⟩
    · cases h
      · go_enter Try.func20, Try.ntmps20
        go_wp2_with (first | ((go_at_call 29; (with_reducible refine (HO.out _).mono ?_); rintro _ w1 ⟨rfl, hb⟩; have k0 := blkS hb; have HB := Aside0.mk (bel1 hb); clear hb; obtain ⟨e0, e1, e2, e3, e4, e5, e6, e7, e8, e9, e10, e11, e12, e13⟩ := seven k0; have K0 := Aside0.mk k0; clear k0)))
        go_ret
        exact ⟨rfl, HB.out⟩
      · go_enter Try.func20, Try.ntmps20
        go_wp2_with (first | ((go_at_call 29; (with_reducible refine (HO.out _).mono ?_); rintro _ w1 ⟨rfl, hb⟩; have k0 := blkS hb; have HB := Aside0.mk (bel1 hb); clear hb; obtain ⟨e0, e1, e2, e3, e4, e5, e6, e7, e8, e9, e10, e11, e12, e13⟩ := seven k0; have K0 := Aside0.mk k0; clear k0)) | ((go_at_call 30; (with_reducible refine (HW.out _).mono ?_); rintro _ w2 ⟨rfl, hb⟩; replace K0 := Aside0.mk (blkK hb K0.out); replace HB := Aside0.mk (HB.out.trans (hb.mono HB.out.size)); clear hb; obtain ⟨e0, e1, e2, e3, e4, e5, e6, e7, e8, e9, e10, e11, e12, e13⟩ := seven K0.out)))
        go_ret
        exact ⟨by simp, HB.out⟩
set_option maxHeartbeats 1000000 in
theorem base_calls (tag : Bool) (a p ty e b t : Int) (ok : OkC ⟨tag, a, p, ty, e, b, t⟩) (w : World) : Calls Try.prog 72 #[.agg #[.bool tag, .int .u32 a, .int .u8 p, .int .u8 ty, .int .u8 e, .int .u16 b, .int .u16 t]] w fun r w' => r = .returned (.int .u64 (baseS e b a)) ∧ Below w.heap.size w w' := by
  exact (capa_Base.calls tag a p ty e b t _ w (by unfold capa_Base.f; rw [base_f e b t a ok.2.2.2.1 ok.2.2.2.2.1 ok.1]; rfl)).mono fun e w' h => ⟨h.1, by first | exact h.2 | exact h.2.below⟩
set_option maxHeartbeats 1000000 in
theorem top_calls (tag : Bool) (a p ty e b t : Int) (ok : OkC ⟨tag, a, p, ty, e, b, t⟩) (w : World) : Calls Try.prog 73 #[.agg #[.bool tag, .int .u32 a, .int .u8 p, .int .u8 ty, .int .u8 e, .int .u16 b, .int .u16 t]] w fun r w' => r = .returned (.int .u64 (topS ⟨tag, a, p, ty, e, b, t⟩)) ∧ Below w.heap.size w w' := by
  exact (capa_Top.calls tag a p ty e b t _ w (by unfold capa_Top.f capa_Base.f; rw [base_f e b t a ok.2.2.2.1 ok.2.2.2.2.1 ok.1, Option.bind_some, Option.bind_some, len_f e b t ok.2.2.2.1 ok.2.2.2.2.1 ok.2.2.2.2.2, Option.bind_some, u64_in _ (by have := base_in e b a ok.1; have := len_in e b t; omega) (by have := base_in e b a ok.1; have := len_in e b t; omega)]; rfl)).mono fun e w' h => ⟨h.1, by first | exact h.2 | exact h.2.below⟩
end Go.Proofs.Ytadbonmkockakaa.Cp
