/- Contracts of the forms, of what lays and takes, for a form's number; what masks leave; the word that Put joins. No condition. -/
import Derived.Test.YtadbonmkockakaaQInsP
import Derived.Test.YtadbonmkockakaaQInsC
import Derived.Test.YtadbonmkockakaaQInsD
namespace Go.Proofs.Ytadbonmkockakaa.Ins
open Go.RowKit Go.Proofs.YtadbonmkockakaaW.PrintWords Go.Proofs.YtadbonmkockakaaW.PrintLast Go.Proofs.Ytadbonmkockakaa.Alu Go.Proofs.Ytadbonmkockakaa.InsP
set_option linter.unusedVariables false
set_option linter.unusedSimpArgs false

theorem and_cut (a m i : Nat) : a &&& m = (a % 2 ^ i &&& m % 2 ^ i) + 2 ^ i * (a / 2 ^ i &&& m / 2 ^ i) := by
  have h1 : (a &&& m) % 2 ^ i = a % 2 ^ i &&& m % 2 ^ i := Nat.and_mod_two_pow
  have h2 : (a &&& m) / 2 ^ i = a / 2 ^ i &&& m / 2 ^ i := by
    rw [← Nat.shiftRight_eq_div_pow, ← Nat.shiftRight_eq_div_pow, ← Nat.shiftRight_eq_div_pow, Nat.shiftRight_and_distrib]
  rw [← h1, ← h2, Nat.mod_add_div]
theorem andN_707f (a : Nat) : a &&& 28799 = a % 128 + a / 4096 % 8 * 4096 := by
  rw [and_cut a 28799 12, show (28799 : Nat) % 2 ^ 12 = 2 ^ 7 - 1 from by decide, show (28799 : Nat) / 2 ^ 12 = 2 ^ 3 - 1 from by decide, Nat.and_two_pow_sub_one_eq_mod, Nat.and_two_pow_sub_one_eq_mod]
  simp only [Nat.reducePow]; omega
theorem andN_f7 (a : Nat) (h : a < 4294967296) : a &&& 4261441663 = a % 128 + a / 4096 % 8 * 4096 + a / 33554432 * 33554432 := by
  rw [and_cut a 4261441663 25, show (4261441663 : Nat) % 2 ^ 25 = 28799 from by decide, show (4261441663 : Nat) / 2 ^ 25 = 2 ^ 7 - 1 from by decide, Nat.and_two_pow_sub_one_eq_mod, andN_707f]
  simp only [Nat.reducePow]; omega
theorem andN_rs2 (a : Nat) (h : a < 4294967296) : a &&& 4293947519 = a % 128 + a / 4096 % 8 * 4096 + a / 1048576 * 1048576 := by
  rw [and_cut a 4293947519 20, show (4293947519 : Nat) % 2 ^ 20 = 28799 from by decide, show (4293947519 : Nat) / 2 ^ 20 = 2 ^ 12 - 1 from by decide, Nat.and_two_pow_sub_one_eq_mod, andN_707f]
  simp only [Nat.reducePow]; omega
theorem and_of_nat (x : Int) (m : Nat) (h0 : 0 ≤ x) (h1 : x < 4294967296) (hm : m < 4294967296) : Go.bits .and .u32 x (m : Int) = ((x.toNat &&& m : Nat) : Int) := by
  obtain ⟨a, rfl⟩ := Int.eq_ofNat_of_zero_le h0
  rw [(bits_nat .u32 32 (by decide) u32_in a m (by omega) (by omega)).1]; rfl
theorem and_mask (f : Nat) (hf : f < 10) (x : Int) (h0 : 0 ≤ x) (h1 : x < 4294967296) : Go.bits .and .u32 x (maskF f) = maskA f x := by
  have hx : x.toNat < 4294967296 := by omega
  have hc : (x.toNat : Int) = x := by omega
  rcases forms10 hf with g | g | g | g | g | g | g | g | g | g <;> subst g <;> simp only [maskF, maskA, List.getD_cons_zero, List.getD_cons_succ]
  · exact and_low x 7 (by decide) h0 h1
  · exact and_low x 7 (by decide) h0 h1
  · rw [show (28799 : Int) = ((28799 : Nat) : Int) from rfl, and_of_nat x _ h0 h1 (by decide), andN_707f]; omega
  · rw [show (28799 : Int) = ((28799 : Nat) : Int) from rfl, and_of_nat x _ h0 h1 (by decide), andN_707f]; omega
  · rw [show (28799 : Int) = ((28799 : Nat) : Int) from rfl, and_of_nat x _ h0 h1 (by decide), andN_707f]; omega
  · rw [show (4261441663 : Int) = ((4261441663 : Nat) : Int) from rfl, and_of_nat x _ h0 h1 (by decide), andN_f7 _ hx]; omega
  · rw [show (4261441663 : Int) = ((4261441663 : Nat) : Int) from rfl, and_of_nat x _ h0 h1 (by decide), andN_f7 _ hx]; omega
  · rw [show (28799 : Int) = ((28799 : Nat) : Int) from rfl, and_of_nat x _ h0 h1 (by decide), andN_707f]; omega
  · rw [show (4293947519 : Int) = ((4293947519 : Nat) : Int) from rfl, and_of_nat x _ h0 h1 (by decide), andN_rs2 _ hx]; omega
  · have h := and_low x 32 (by decide) h0 h1
    rw [show (2 : Int) ^ 32 - 1 = 4294967295 from by decide, show (2 : Int) ^ 32 = 4294967296 from by decide] at h
    rw [h]; omega

theorem or_assoc (x y z : Int) (hx : 0 ≤ x ∧ x < 4294967296) (hy : 0 ≤ y ∧ y < 4294967296) (hz : 0 ≤ z ∧ z < 4294967296) : Go.bits .or .u32 (Go.bits .or .u32 x y) z = Go.bits .or .u32 x (Go.bits .or .u32 y z) := by
  have key : ∀ a b : Int, BitVec.ofInt 32 (Go.bits .or .u32 a b) = BitVec.ofInt 32 a ||| BitVec.ofInt 32 b := by
    intro a b
    show BitVec.ofInt 32 (IntKind.u32.wrap ((BitVec.ofInt 32 a ||| BitVec.ofInt 32 b).toNat)) = _
    have hl : (BitVec.ofInt 32 a ||| BitVec.ofInt 32 b).toNat < 4294967296 := (BitVec.ofInt 32 a ||| BitVec.ofInt 32 b).isLt
    rw [IntKind.wrap_u32, show (((BitVec.ofInt 32 a ||| BitVec.ofInt 32 b).toNat : Int) % 4294967296) = ((BitVec.ofInt 32 a ||| BitVec.ofInt 32 b).toNat : Int) from by omega, BitVec.ofInt_natCast]
    apply BitVec.eq_of_toNat_eq
    rw [BitVec.toNat_ofNat]; exact Nat.mod_eq_of_lt hl
  show IntKind.u32.wrap ((BitVec.ofInt 32 (Go.bits .or .u32 x y) ||| BitVec.ofInt 32 z).toNat) = IntKind.u32.wrap ((BitVec.ofInt 32 x ||| BitVec.ofInt 32 (Go.bits .or .u32 y z)).toNat)
  rw [key, key, BitVec.or_assoc]
/-- A number laid into a free place of a word. -/
theorem or_slot (x r : Int) (i j : Nat) (K J : Int) (hK : (2 : Int) ^ i = K) (hJ : (2 : Int) ^ j = J) (hM : K * J ≤ 4294967296) (hx0 : 0 ≤ x) (hx1 : x < 4294967296) (hf : x / K % J = 0) (hr0 : 0 ≤ r) (hr1 : r < J) :
    Go.bits .or .u32 x (r * K) = x + r * K := by
  have k0 : 0 < K := by rw [← hK]; exact Int.pow_pos (by decide)
  have j0 : 0 < J := by rw [← hJ]; exact Int.pow_pos (by decide)
  have hMK : (2 : Int) ^ (i + j) = K * J := by rw [Int.pow_add, hK, hJ]
  have a0 := Int.emod_nonneg x (by omega : K ≠ 0)
  have a1 := Int.emod_lt_of_pos x k0
  have q := Int.mul_ediv_add_emod x K
  have q2 := Int.mul_ediv_add_emod (x / K) J
  rw [hf, Int.add_zero] at q2
  generalize hqq : x / K / J = t at q2
  have rk0 : 0 ≤ r * K := Int.mul_nonneg hr0 (by omega)
  have rk1 : r * K ≤ (J - 1) * K := Int.mul_le_mul_of_nonneg_right (by omega) (by omega)
  have e1 : (J - 1) * K = K * J - K := by rw [Int.sub_mul, Int.one_mul, Int.mul_comm]
  have hb : x - x % K = (K * J) * t := by rw [Int.mul_assoc, q2]; omega
  have hb0 : 0 ≤ x - x % K := by
    have : 0 ≤ K * (x / K) := Int.mul_nonneg (by omega) (Int.ediv_nonneg hx0 (by omega))
    omega
  have hbm : (x - x % K) % (2 : Int) ^ (i + j) = 0 := by rw [hMK, hb]; exact Int.mul_emod_right _ _
  have s1 : Go.bits .or .u32 (x - x % K) (x % K) = x := by
    rw [or_dn (x - x % K) (x % K) (i + j) hb0 hbm (by omega) a0 (by rw [hMK]; have : K * 1 ≤ K * J := Int.mul_le_mul_of_nonneg_left (by omega) (by omega); omega) (by omega)]
    omega
  have s2 : Go.bits .or .u32 (x % K) (r * K) = x % K + r * K := by
    refine or_up _ _ i a0 (by rw [hK]; exact a1) (by omega) rk0 (by rw [hK]; exact Int.mul_emod_left _ _) (by omega)
  conv => lhs; rw [← s1]
  rw [or_assoc _ _ _ ⟨by omega, by omega⟩ ⟨by omega, by omega⟩ ⟨by omega, by omega⟩, s2, or_dn _ _ (i + j) hb0 hbm (by omega) (by omega) (by rw [hMK]; omega) (by omega)]
  omega

set_option maxHeartbeats 4000000 in
theorem or_word (f : Nat) (hf : f < 10) (o word rd rs1 rs2 imm : Int) (hw0 : 0 ≤ word) (hw1 : word < 4294967296) (hm : maskA f word = word)
    (b1 : 0 ≤ rd) (b2 : 0 ≤ rs1) (b3 : 0 ≤ rs2) (b4 : -2147483648 ≤ imm ∧ imm < 2147483648) (ok : okS f o rd rs1 rs2 imm = true) :
    Go.bits .or .u32 (Go.bits .or .u32 (Go.bits .or .u32 (Go.bits .or .u32 word (if hRd f then rd * 128 else 0)) (if hRs1 f then rs1 * 32768 else 0)) (if hRs2 f then rs2 * 1048576 else 0)) (putF f (imm % 4294967296)) =
      wordS f word rd rs1 rs2 imm := by
  have z : ∀ x : Int, 0 ≤ x → x < 4294967296 → Go.bits .or .u32 x 0 = x := fun x h0 h1 => by
    rw [or_dn x 0 0 h0 (by simp) h1 (by decide) (by decide) (by decide), Int.add_zero]
  have c7 : ∀ x r : Int, 0 ≤ x → x < 4294967296 → x / 128 % 32 = 0 → 0 ≤ r → r < 32 → Go.bits .or .u32 x (r * 128) = x + r * 128 := fun x r h0 h1 h2 h3 h4 => or_slot x r 7 5 128 32 (by decide) (by decide) (by decide) h0 h1 h2 h3 h4
  have c15 : ∀ x r : Int, 0 ≤ x → x < 4294967296 → x / 32768 % 32 = 0 → 0 ≤ r → r < 32 → Go.bits .or .u32 x (r * 32768) = x + r * 32768 := fun x r h0 h1 h2 h3 h4 => or_slot x r 15 5 32768 32 (by decide) (by decide) (by decide) h0 h1 h2 h3 h4
  have c20 : ∀ x r : Int, 0 ≤ x → x < 4294967296 → x / 1048576 % 32 = 0 → 0 ≤ r → r < 32 → Go.bits .or .u32 x (r * 1048576) = x + r * 1048576 := fun x r h0 h1 h2 h3 h4 => or_slot x r 20 5 1048576 32 (by decide) (by decide) (by decide) h0 h1 h2 h3 h4
  have two : ∀ x p q : Int, 0 ≤ x → x < 33554432 → x / 128 % 32 = 0 → 0 ≤ p → p < 32 → 0 ≤ q → q < 128 → Go.bits .or .u32 x (p * 128 + q * 33554432) = x + (p * 128 + q * 33554432) := by
    intro x p q h0 h1 h2 h3 h4 h5 h6
    have e : Go.bits .or .u32 (q * 33554432) (p * 128) = p * 128 + q * 33554432 := by
      rw [or_dn _ _ 25 (by omega) (by omega) (by omega) (by omega) (by omega) (by omega)]; omega
    rw [← e, ← or_assoc _ _ _ ⟨by omega, by omega⟩ ⟨by omega, by omega⟩ ⟨by omega, by omega⟩, or_up x _ 25 (by omega) (by omega) (by omega) (by omega) (by omega) (by omega),
      c7 _ _ (by omega) (by omega) (by omega) (by omega) (by omega)]
    omega
  simp only [okS, Bool.and_eq_true] at ok
  obtain ⟨⟨⟨⟨r1, r2⟩, r3⟩, r4⟩, _⟩ := ok
  obtain ⟨b4, b5⟩ := b4
  have n0 : 0 ≤ imm % 4294967296 := by omega
  have n1 : imm % 4294967296 < 4294967296 := by omega
  unfold wordS
  generalize imm % 4294967296 = n at n0 n1 ⊢
  rcases forms10 hf with g | g | g | g | g | g | g | g | g | g <;> subst g <;>
    simp [regOk, hRd, hRs1, hRs2] at r1 r2 r3 <;> simp [maskA] at hm <;>
    simp only [hRd, hRs1, hRs2, putF, List.getD_cons_zero, List.getD_cons_succ, if_true, if_false, Bool.false_eq_true, Int.add_zero]
  · rw [c7 _ _ (by omega) (by omega) (by omega) (by omega) (by omega), z (word + rd * 128) (by omega) (by omega), z (word + rd * 128) (by omega) (by omega), or_up _ _ 12 (by omega) (by omega) (by omega) (by omega) (by omega) (by omega)]
  · rw [c7 _ _ (by omega) (by omega) (by omega) (by omega) (by omega), z (word + rd * 128) (by omega) (by omega), z (word + rd * 128) (by omega) (by omega), or_up _ _ 12 (by omega) (by omega) (by omega) (by omega) (by omega) (by omega)]
  · rw [c7 _ _ (by omega) (by omega) (by omega) (by omega) (by omega), c15 _ _ (by omega) (by omega) (by omega) (by omega) (by omega), z (word + rd * 128 + rs1 * 32768) (by omega) (by omega), or_up _ _ 20 (by omega) (by omega) (by omega) (by omega) (by omega) (by omega)]
  · rw [z (word) (by omega) (by omega), c15 _ _ (by omega) (by omega) (by omega) (by omega) (by omega), c20 _ _ (by omega) (by omega) (by omega) (by omega) (by omega)]
    rw [show n / 4096 % 2 * 2147483648 + n / 32 % 64 * 33554432 + n / 2 % 16 * 256 + n / 2048 % 2 * 128 = (n / 2 % 16 * 2 + n / 2048 % 2) * 128 + (n / 4096 % 2 * 64 + n / 32 % 64) * 33554432 from by omega]
    exact two _ _ _ (by omega) (by omega) (by omega) (by omega) (by omega) (by omega) (by omega)
  · rw [z (word) (by omega) (by omega), c15 _ _ (by omega) (by omega) (by omega) (by omega) (by omega), c20 _ _ (by omega) (by omega) (by omega) (by omega) (by omega)]
    exact two _ _ _ (by omega) (by omega) (by omega) (by omega) (by omega) (by omega) (by omega)
  · rw [c7 _ _ (by omega) (by omega) (by omega) (by omega) (by omega), c15 _ _ (by omega) (by omega) (by omega) (by omega) (by omega), z (word + rd * 128 + rs1 * 32768) (by omega) (by omega), c20 _ _ (by omega) (by omega) (by omega) (by omega) (by omega)]
  · rw [c7 _ _ (by omega) (by omega) (by omega) (by omega) (by omega), c15 _ _ (by omega) (by omega) (by omega) (by omega) (by omega), c20 _ _ (by omega) (by omega) (by omega) (by omega) (by omega), z (word + rd * 128 + rs1 * 32768 + rs2 * 1048576) (by omega) (by omega)]
  · rw [c7 _ _ (by omega) (by omega) (by omega) (by omega) (by omega), c15 _ _ (by omega) (by omega) (by omega) (by omega) (by omega), z (word + rd * 128 + rs1 * 32768) (by omega) (by omega), or_up _ _ 20 (by omega) (by omega) (by omega) (by omega) (by omega) (by omega)]
  · rw [c7 _ _ (by omega) (by omega) (by omega) (by omega) (by omega), c15 _ _ (by omega) (by omega) (by omega) (by omega) (by omega), z (word + rd * 128 + rs1 * 32768) (by omega) (by omega), z (word + rd * 128 + rs1 * 32768) (by omega) (by omega)]
  · rw [z (word) (by omega) (by omega), z (word) (by omega) (by omega), z (word) (by omega) (by omega), z (word) (by omega) (by omega)]

theorem form_calls (f : Nat) (hf : f < 10) (w : World) : Calls Try.prog (fnOf f) #[] w fun e w' => e = .returned (.agg #[.int .i64 (hasF f), .func (.func (putFn f)) #[] #[], .func (.func (getFn f)) #[] #[], .int .u32 (maskF f)]) ∧ Below w.heap.size w w' := by
  rcases forms10 hf with g | g | g | g | g | g | g | g | g | g <;> subst g
  · exact form_upper w
  · exact form_jump w
  · exact form_imm w
  · exact form_branch w
  · exact form_store w
  · exact form_shift w
  · exact form_regs w
  · exact form_plain w
  · exact form_one w
  · exact form_alone w
theorem get_calls_s (f : Nat) (hf : f < 10) (x : Int) (w : World) (h0 : 0 ≤ x) (h1 : x < 4294967296) : Calls Try.prog (getFn f) #[.int .u32 x] w fun e w' => e = .returned (.int .i32 (getF f x)) ∧ w' = w := by
  rcases forms10 hf with g | g | g | g | g | g | g | g | g | g <;> subst g
  · exact (clo_75_s x w h0 h1).mono fun e w' h => ⟨h.1, h.2.symm⟩
  · exact (clo_77_s x w h0 h1).mono fun e w' h => ⟨h.1, h.2.symm⟩
  · exact (clo_80_s x w h0 h1).mono fun e w' h => ⟨h.1, h.2.symm⟩
  · exact (clo_82_s x w h0 h1).mono fun e w' h => ⟨h.1, h.2.symm⟩
  · exact (clo_84_s x w h0 h1).mono fun e w' h => ⟨h.1, h.2.symm⟩
  · exact (clo_86_s x w h0 h1).mono fun e w' h => ⟨h.1, h.2.symm⟩
  · exact (clo_88_s x w).mono fun e w' h => ⟨h.1, h.2.symm⟩
  · exact (clo_89_s x w h0 h1).mono fun e w' h => ⟨h.1, h.2.symm⟩
  · exact (clo_88_s x w).mono fun e w' h => ⟨h.1, h.2.symm⟩
  · exact (clo_88_s x w).mono fun e w' h => ⟨h.1, h.2.symm⟩
theorem take_s_no (x k : Int) (w : World) : Calls Try.prog 32 #[.bool false, .int .u32 x, .int .u64 k] w fun e w' => e = .returned (.int .u8 0) ∧ w' = w := by
  go_enter Try.func32, Try.ntmps32
  go_wp2
  go_ret
  exact ⟨by first | rfl | simp, rfl⟩
theorem take_s_7 (b : Bool) (x : Int) (w : World) (h0 : 0 ≤ x) (h1 : x < 4294967296) : Calls Try.prog 32 #[.bool b, .int .u32 x, .int .u64 7] w fun e w' => e = .returned (.int .u8 (if b then x / 128 % 32 else 0)) ∧ w' = w := by
  cases b
  · exact take_s_no x _ w
  · have h2 := and_low (x / 128) 5 (by decide) (by omega) (by omega)
    have h3 : x / 128 % 32 % 256 = x / 128 % 32 := by omega
    have H2 := Aside0.mk h2; have H3 := Aside0.mk h3
    clear h2 h3
    go_enter Try.func32, Try.ntmps32
    go_wp2
    go_ret
    exact ⟨by have h2 := H2.out; have h3 := H3.out; simp only [Int.reducePow, Int.reduceSub] at h2; first | rfl | (simp; done) | (simp [h2, h3]; done), rfl⟩
theorem take_s_15 (b : Bool) (x : Int) (w : World) (h0 : 0 ≤ x) (h1 : x < 4294967296) : Calls Try.prog 32 #[.bool b, .int .u32 x, .int .u64 15] w fun e w' => e = .returned (.int .u8 (if b then x / 32768 % 32 else 0)) ∧ w' = w := by
  cases b
  · exact take_s_no x _ w
  · have h2 := and_low (x / 32768) 5 (by decide) (by omega) (by omega)
    have h3 : x / 32768 % 32 % 256 = x / 32768 % 32 := by omega
    have H2 := Aside0.mk h2; have H3 := Aside0.mk h3
    clear h2 h3
    go_enter Try.func32, Try.ntmps32
    go_wp2
    go_ret
    exact ⟨by have h2 := H2.out; have h3 := H3.out; simp only [Int.reducePow, Int.reduceSub] at h2; first | rfl | (simp; done) | (simp [h2, h3]; done), rfl⟩
theorem take_s_20 (b : Bool) (x : Int) (w : World) (h0 : 0 ≤ x) (h1 : x < 4294967296) : Calls Try.prog 32 #[.bool b, .int .u32 x, .int .u64 20] w fun e w' => e = .returned (.int .u8 (if b then x / 1048576 % 32 else 0)) ∧ w' = w := by
  cases b
  · exact take_s_no x _ w
  · have h2 := and_low (x / 1048576) 5 (by decide) (by omega) (by omega)
    have h3 : x / 1048576 % 32 % 256 = x / 1048576 % 32 := by omega
    have H2 := Aside0.mk h2; have H3 := Aside0.mk h3
    clear h2 h3
    go_enter Try.func32, Try.ntmps32
    go_wp2
    go_ret
    exact ⟨by have h2 := H2.out; have h3 := H3.out; simp only [Int.reducePow, Int.reduceSub] at h2; first | rfl | (simp; done) | (simp [h2, h3]; done), rfl⟩
theorem has_bits : ∀ f, f < 10 → (Go.bits .and .i64 (hasF f) 1 != 0) = hRd f ∧ (Go.bits .and .i64 (hasF f) 2 != 0) = hRs1 f ∧ (Go.bits .and .i64 (hasF f) 4 != 0) = hRs2 f := by decide +kernel
theorem call_enters {P : Program} {f : FuncId} {fn : Func} {c : Code} (hf : P.funcs[f]? = some fn) (hname : (fn.name == "runtime.NumGoroutine") = false) (hb : fn.body = some c) (args : Array Value) (w : World) :
    (callFunc f args).run P w = .ok (.enter f args) w := by
  have h1 : fn.name ≠ "runtime.NumGoroutine" := by simpa using hname
  simp [callFunc, hf, h1, hb]
theorem form_enters (f : Nat) (hf : f < 10) (w : World) : (callFunc (fnOf f) #[]).run Try.prog w = .ok (.enter (fnOf f) #[]) w := by
  rcases forms10 hf with g | g | g | g | g | g | g | g | g | g <;> subst g
  · exact call_enters Try.func48 (by kernel_rfl) rfl _ _
  · exact call_enters Try.func49 (by kernel_rfl) rfl _ _
  · exact call_enters Try.func50 (by kernel_rfl) rfl _ _
  · exact call_enters Try.func51 (by kernel_rfl) rfl _ _
  · exact call_enters Try.func53 (by kernel_rfl) rfl _ _
  · exact call_enters Try.func54 (by kernel_rfl) rfl _ _
  · exact call_enters Try.func56 (by kernel_rfl) rfl _ _
  · exact call_enters Try.func57 (by kernel_rfl) rfl _ _
  · exact call_enters Try.func58 (by kernel_rfl) rfl _ _
  · exact call_enters Try.func60 (by kernel_rfl) rfl _ _
theorem get_enters (f : Nat) (hf : f < 10) (x : Value) (w : World) : (callFunc (getFn f) #[x]).run Try.prog w = .ok (.enter (getFn f) #[x]) w := by
  rcases forms10 hf with g | g | g | g | g | g | g | g | g | g <;> subst g
  · exact call_enters Try.func81 (by kernel_rfl) rfl _ _
  · exact call_enters Try.func83 (by kernel_rfl) rfl _ _
  · exact call_enters Try.func86 (by kernel_rfl) rfl _ _
  · exact call_enters Try.func88 (by kernel_rfl) rfl _ _
  · exact call_enters Try.func90 (by kernel_rfl) rfl _ _
  · exact call_enters Try.func92 (by kernel_rfl) rfl _ _
  · exact call_enters Try.func94 (by kernel_rfl) rfl _ _
  · exact call_enters Try.func95 (by kernel_rfl) rfl _ _
  · exact call_enters Try.func94 (by kernel_rfl) rfl _ _
  · exact call_enters Try.func94 (by kernel_rfl) rfl _ _
end Go.Proofs.Ytadbonmkockakaa.Ins
