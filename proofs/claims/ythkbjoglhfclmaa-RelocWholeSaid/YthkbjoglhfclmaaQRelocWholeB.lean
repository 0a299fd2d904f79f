/- The walk of the law RelocWhole along its true way, and the plain arithmetic under it. No condition. -/
import Derived.Test.YthkbjoglhfclmaaQRelocWholeA
namespace Go.Proofs.Ythkbjoglhfclmaa.PRelocWhole
open Go.RowKit Go.Proofs.YthkbjoglhfclmaaW.PrintWords Go.Proofs.YthkbjoglhfclmaaW.PrintLast Go.Proofs.YthkbjoglhfclmaaW.PrintMore
theorem and_high (a : Nat) (h : a < 4294967296) : a &&& 4294963200 = a - a % 4096 := by
  have e : (4294963200 : Nat) = (2 ^ 20 - 1) <<< 12 := by decide
  have e2 : a - a % 4096 = (a >>> 12) <<< 12 := by rw [Nat.shiftRight_eq_div_pow, Nat.shiftLeft_eq]; omega
  rw [e, e2]
  apply Nat.eq_of_testBit_eq
  intro i
  rw [Nat.testBit_and, Nat.testBit_shiftLeft, Nat.testBit_shiftLeft, Nat.testBit_two_pow_sub_one, Nat.testBit_shiftRight]
  by_cases hi : 12 ≤ i
  · rw [show 12 + (i - 12) = i from by omega]
    by_cases h32 : i < 32
    · simp [hi]; intro _; omega
    · have : a.testBit i = false := Nat.testBit_lt_two_pow (Nat.lt_of_lt_of_le h (by rw [show (4294967296 : Nat) = 2 ^ 32 from by decide]; exact Nat.pow_le_pow_right (by decide) (by omega)))
      simp [this]
  · simp [hi]

theorem andNot_4095 (x : Int) (h0 : 0 ≤ x) (h1 : x < 4294967296) : Go.bits .andNot .u32 x 4095 = x - x % 4096 := by
  obtain ⟨a, rfl⟩ := Int.eq_ofNat_of_zero_le h0
  have ha : a < 4294967296 := by omega
  have : (BitVec.ofInt 32 (a : Int) &&& ~~~ BitVec.ofInt 32 4095).toNat = a - a % 4096 := by
    rw [BitVec.toNat_and, BitVec.ofInt_natCast, BitVec.toNat_ofNat, show (~~~ BitVec.ofInt 32 4095).toNat = 4294963200 from by decide, Nat.mod_eq_of_lt (by omega)]
    exact and_high a ha
  show IntKind.u32.wrap ((BitVec.ofInt 32 (a : Int) &&& ~~~ BitVec.ofInt 32 4095).toNat) = _
  rw [this, IntKind.wrap_u32]
  omega

theorem near_is (n : Int) : reloc_near.f n = some ((n + 2048) % 4294967296 - (n + 2048) % 4096) := by
  unfold reloc_near.f
  rw [andNot_4095 _ (by omega) (by omega)]
  congr 1
  omega


set_option maxHeartbeats 8000000 in
set_option maxRecDepth 100000 in
theorem relocWhole_true (k : Nat) (a0 a1 a2 t124 t126 t130 : Int) (w : World)
    (A4 : Aside0 (reloc_Value.f k 26 a0 a1 a2 0 = some (t124, 0)))
    (A5 : Aside0 (reloc_Value.f k 27 a0 a1 a2 0 = some (t126, 0)))
    (A6 : Aside0 (reloc_Value.f k 28 a0 a1 a2 0 = some (t126, 0)))
    (A7 : Aside0 (reloc_Value.f k 23 a0 a1 a2 0 = some (t130, 0)))
    (AW : Aside0 (bulwarklaw16_works.f k = some true))
    (c12b0 : ((t124 + t126) % 4294967296 == (a0 + a1) % 4294967296) = true)
    (c14b0 : (t124.tmod 4096 == 0) = true)
    (c15b0 : decide (-2048 ≤ t126) = true)
    (c16b0 : decide (t126 < 2048) = true)
    (c17b0 : (t130.tmod 4096 == 0) = true)
    (c18b0 : decide (-2048 ≤ wrap32 ((a0 + a1 - a2 - t130) % 4294967296)) = true)
    (c19b0 : decide (wrap32 ((a0 + a1 - a2 - t130) % 4294967296) < 2048) = true) :
    Calls Try.prog 3 #[.int .u32 a0, .int .u32 a1, .int .u32 a2] w fun e w' => e = .returned (.bool true) ∧ Drawn0 w w' := by
  go_enter Try.func3, Try.ntmps3
  go_wp2_with fail
  refine (reloc_Value.calls k 26 a0 a1 a2 0 _ _ _ A4.out).mono ?_; intro e w' h; obtain ⟨h1, ⟨n1, rfl⟩⟩ := h; subst h1
  go_wp2_with fail
  refine (reloc_Value.calls k 27 a0 a1 a2 0 _ _ _ A5.out).mono ?_; intro e w' h; obtain ⟨h1, ⟨n2, rfl⟩⟩ := h; subst h1
  go_wp2_with fail
  refine (reloc_Value.calls k 28 a0 a1 a2 0 _ _ _ A6.out).mono ?_; intro e w' h; obtain ⟨h1, ⟨n3, rfl⟩⟩ := h; subst h1
  go_wp2_with fail
  refine (reloc_Value.calls k 23 a0 a1 a2 0 _ _ _ A7.out).mono ?_; intro e w' h; obtain ⟨h1, ⟨n4, rfl⟩⟩ := h; subst h1
  go_wp2_with fail
  refine (bulwarklaw16_works.calls k _ _ AW.out).mono ?_; intro e w' h; obtain ⟨h1, ⟨n5, rfl⟩⟩ := h; subst h1
  go_wp2_with fail
  go_ret
  exact ⟨rfl, by repeat (first | exact Drawn0.refl _ | apply Drawn0.step)⟩

theorem relocWhole_walk (s a p : Int) (w : World) (hs : (Lit.int .u32 s).wf = true) (ha : (Lit.int .u32 a).wf = true) (hp : (Lit.int .u32 p).wf = true) :
    Calls Try.prog 3 #[.int .u32 s, .int .u32 a, .int .u32 p] w fun e w' => e = .returned (.bool true) ∧ Below w.heap.size w w' := by
  have hs' : 0 ≤ s ∧ s < 4294967296 := by simp [Lit.wf, IntKind.min, IntKind.max, IntKind.signed, IntKind.bits] at hs; omega
  have ha' : 0 ≤ a ∧ a < 4294967296 := by simp [Lit.wf, IntKind.min, IntKind.max, IntKind.signed, IntKind.bits] at ha; omega
  have hp' : 0 ≤ p ∧ p < 4294967296 := by simp [Lit.wf, IntKind.min, IntKind.max, IntKind.signed, IntKind.bits] at hp; omega
  clear hs ha hp
  have hw : bulwarklaw16_works.f 5 = some true := by decide +kernel
  obtain ⟨n, hn⟩ : ∃ n, (s + a) % 4294967296 = n := ⟨_, rfl⟩
  have hnn : 0 ≤ n ∧ n < 4294967296 := by omega
  have v26 : reloc_Value.f 5 26 s a p 0 = some (wrap32 ((n + 2048) % 4294967296 - (n + 2048) % 4096), 0) := by
    simp [reloc_Value.f, reloc_Value.j0, hn, near_is n]
  have v27 : reloc_Value.f 5 27 s a p 0 = some (wrap32 ((n - ((n + 2048) % 4294967296 - (n + 2048) % 4096)) % 4294967296), 0) := by
    simp [reloc_Value.f, reloc_Value.j0, reloc_Value.j1, hn, near_is n]
  have v28 : reloc_Value.f 5 28 s a p 0 = some (wrap32 ((n - ((n + 2048) % 4294967296 - (n + 2048) % 4096)) % 4294967296), 0) := by
    simp [reloc_Value.f, reloc_Value.j0, reloc_Value.j1, hn, near_is n]
  have v23 : reloc_Value.f 5 23 s a p 0 = some (wrap32 (((n - p) % 4294967296 + 2048) % 4294967296 - ((n - p) % 4294967296 + 2048) % 4096), 0) := by
    have e : (s + a - p) % 4294967296 = (n - p) % 4294967296 := by omega
    simp [reloc_Value.f, reloc_Value.j0, e, near_is ((n - p) % 4294967296)]
  have tm : ∀ x : Int, x % 4096 = 0 → (Int.tmod x 4096 == 0) = true := by intro x hx; exact beq_iff_eq.2 (Int.tmod_eq_zero_of_dvd (Int.dvd_of_emod_eq_zero hx))
  refine (relocWhole_true 5 s a p _ _ _ w ⟨v26⟩ ⟨v27⟩ ⟨v28⟩ ⟨v23⟩ ⟨hw⟩ ?_ ?_ ?_ ?_ ?_ ?_ ?_).mono (fun e w' h => ⟨h.1, h.2.below⟩)
  · rw [beq_iff_eq]; unfold wrap32; omega
  · apply tm; unfold wrap32; omega
  · rw [decide_eq_true_eq]; unfold wrap32; omega
  · rw [decide_eq_true_eq]; unfold wrap32; omega
  · apply tm; unfold wrap32; omega
  · rw [decide_eq_true_eq]; unfold wrap32; omega
  · rw [decide_eq_true_eq]; unfold wrap32; omega
end Go.Proofs.Ythkbjoglhfclmaa.PRelocWhole
