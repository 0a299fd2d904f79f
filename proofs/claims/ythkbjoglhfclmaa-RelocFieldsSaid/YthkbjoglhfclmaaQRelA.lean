/- Contracts of reloc.Value, reloc.Is and of their reference; the walk of the law RelocValues. No condition. -/
import Derived.Test.YthkbjoglhfclmaaQAluC
namespace Go.Proofs.Ythkbjoglhfclmaa.Rel
open Go.RowKit Go.Proofs.YthkbjoglhfclmaaW.PrintWords Go.Proofs.YthkbjoglhfclmaaW.PrintLast Go.Proofs.Ythkbjoglhfclmaa.Alu
set_option linter.unusedVariables false
set_option linter.unusedSimpArgs false
theorem and_high (a : Nat) (h : a < 4294967296) : a &&& 4294963200 = a - a % 4096 := by
  have e : (4294963200 : Nat) = (2 ^ 20 - 1) <<< 12 := by decide
  have e2 : a - a % 4096 = (a >>> 12) <<< 12 := by rw [Nat.shiftRight_eq_div_pow, Nat.shiftLeft_eq]; omega
  rw [e, e2]
  apply Nat.eq_of_testBit_eq
  intro i
  rw [Nat.testBit_and, Nat.testBit_shiftLeft, Nat.testBit_shiftLeft, Nat.testBit_two_pow_sub_one, Nat.testBit_shiftRight]
  by_cases hi : 12 ≤ i
  · rw [show 12 + (i - 12) = i from by omega]
    by_cases h32 : i < 32
    · simp [hi]; intro _; omega
    · have : a.testBit i = false := Nat.testBit_lt_two_pow (Nat.lt_of_lt_of_le h (by rw [show (4294967296 : Nat) = 2 ^ 32 from by decide]; exact Nat.pow_le_pow_right (by decide) (by omega)))
      simp [this]
  · simp [hi]

theorem andNot_4095 (x : Int) (h0 : 0 ≤ x) (h1 : x < 4294967296) : Go.bits .andNot .u32 x 4095 = x - x % 4096 := by
  obtain ⟨a, rfl⟩ := Int.eq_ofNat_of_zero_le h0
  have ha : a < 4294967296 := by omega
  have : (BitVec.ofInt 32 (a : Int) &&& ~~~ BitVec.ofInt 32 4095).toNat = a - a % 4096 := by
    rw [BitVec.toNat_and, BitVec.ofInt_natCast, BitVec.toNat_ofNat, show (~~~ BitVec.ofInt 32 4095).toNat = 4294963200 from by decide, Nat.mod_eq_of_lt (by omega)]
    exact and_high a ha
  show IntKind.u32.wrap ((BitVec.ofInt 32 (a : Int) &&& ~~~ BitVec.ofInt 32 4095).toNat) = _
  rw [this, IntKind.wrap_u32]
  omega


theorem odd_is (v : Int) : Go.bits .and .i32 v 1 = v % 2 := by
  have h : (BitVec.ofInt 32 v &&& BitVec.ofInt 32 1).toNat = (v % 2).toNat := by
    rw [BitVec.toNat_and, show (BitVec.ofInt 32 1).toNat = 2 ^ 1 - 1 from by decide, Nat.and_two_pow_sub_one_eq_mod, BitVec.toNat_ofInt]
    omega
  show IntKind.i32.wrap ((BitVec.ofInt 32 v &&& BitVec.ofInt 32 1).toNat) = v % 2
  rw [h, IntKind.wrap_i32]
  omega
/-- A number in its bounds, even if that is asked for; else the error. -/
def fit (lo hi : Int) (even : Bool) (m : Int) : Int × Int := if (lo ≤ m ∧ m < hi) ∧ (even = true → m % 2 = 0) then (m, 0) else (0, 3)
theorem fit_yes {lo hi : Int} {even : Bool} {m : Int} (h : (lo ≤ m ∧ m < hi) ∧ (even = true → m % 2 = 0)) : fit lo hi even m = (m, 0) := if_pos h
theorem fit_no {lo hi : Int} {even : Bool} {m : Int} (h : ¬ ((lo ≤ m ∧ m < hi) ∧ (even = true → m % 2 = 0))) : fit lo hi even m = (0, 3) := if_neg h
/-- The nearest multiple of 4096. -/
def nearV (m : Int) : Int := wrap32 ((m + 2048) - (m + 2048) % 4096)
theorem wrap32_mod (m : Int) : wrap32 (m % 4294967296) = wrap32 m := by unfold wrap32; omega
theorem nearV_w (m : Int) : nearV (wrap32 m) = nearV m := by unfold nearV wrap32; omega

theorem fits_13 (m : Int) (w : World) : Calls Try.prog 36 #[.int .u32 m, .int .i64 13, .bool true] w
    fun e w' => e = .returned (.tuple #[.int .i32 (fit (-4096) 4096 true (wrap32 m)).1, .int .i64 (fit (-4096) 4096 true (wrap32 m)).2]) ∧ Drawn0 w w' := by
  have hv := w32_bd m
  have hodd := odd_is (wrap32 m)
  obtain ⟨v, hvv⟩ : ∃ v, wrap32 m = v := ⟨_, rfl⟩
  rw [hvv] at hv hodd ⊢
  obtain ⟨v0, v1⟩ := hv
  go_enter Try.func36, Try.ntmps36
  go_wp2
  all_goals
    go_ret2
    refine ⟨?_, by repeat (first | exact Drawn0.refl _ | apply Drawn0.step)⟩
    first
    | (rw [fit_yes (by unfold wrap32 at *; simp at *; omega)]; first | rfl | (simp; done))
    | (rw [fit_no (by unfold wrap32 at *; simp at *; omega)]; first | rfl | (simp; done))
theorem within_13 (v : Int) (w : World) (v0 : -2147483648 ≤ v) (v1 : v < 2147483648) : Calls Try.prog 38 #[.int .i32 v, .int .u64 13, .bool true] w
    fun e w' => e = .returned (.tuple #[.int .i32 (fit (-4096) 4096 true v).1, .int .i64 (fit (-4096) 4096 true v).2]) ∧ Drawn0 w w' := by
  have ht : Int.tmod v 2 = 0 ↔ v % 2 = 0 := ⟨fun h => Int.emod_eq_zero_of_dvd (Int.dvd_of_tmod_eq_zero h), fun h => Int.tmod_eq_zero_of_dvd (Int.dvd_of_emod_eq_zero h)⟩
  have HT := Aside0.mk ht
  clear ht
  go_enter Try.func38, Try.ntmps38
  go_wp2
  all_goals
    go_ret2
    refine ⟨?_, by repeat (first | exact Drawn0.refl _ | apply Drawn0.step)⟩
    have ht := HT.out
    first
    | (rw [fit_yes (by simp at *; omega)]; first | rfl | (simp; done))
    | (rw [fit_no (by simp at *; omega)]; first | rfl | (simp; done))

theorem fits_21 (m : Int) (w : World) : Calls Try.prog 36 #[.int .u32 m, .int .i64 21, .bool true] w
    fun e w' => e = .returned (.tuple #[.int .i32 (fit (-1048576) 1048576 true (wrap32 m)).1, .int .i64 (fit (-1048576) 1048576 true (wrap32 m)).2]) ∧ Drawn0 w w' := by
  have hv := w32_bd m
  have hodd := odd_is (wrap32 m)
  obtain ⟨v, hvv⟩ : ∃ v, wrap32 m = v := ⟨_, rfl⟩
  rw [hvv] at hv hodd ⊢
  obtain ⟨v0, v1⟩ := hv
  go_enter Try.func36, Try.ntmps36
  go_wp2
  all_goals
    go_ret2
    refine ⟨?_, by repeat (first | exact Drawn0.refl _ | apply Drawn0.step)⟩
    first
    | (rw [fit_yes (by unfold wrap32 at *; simp at *; omega)]; first | rfl | (simp; done))
    | (rw [fit_no (by unfold wrap32 at *; simp at *; omega)]; first | rfl | (simp; done))
theorem within_21 (v : Int) (w : World) (v0 : -2147483648 ≤ v) (v1 : v < 2147483648) : Calls Try.prog 38 #[.int .i32 v, .int .u64 21, .bool true] w
    fun e w' => e = .returned (.tuple #[.int .i32 (fit (-1048576) 1048576 true v).1, .int .i64 (fit (-1048576) 1048576 true v).2]) ∧ Drawn0 w w' := by
  have ht : Int.tmod v 2 = 0 ↔ v % 2 = 0 := ⟨fun h => Int.emod_eq_zero_of_dvd (Int.dvd_of_tmod_eq_zero h), fun h => Int.tmod_eq_zero_of_dvd (Int.dvd_of_emod_eq_zero h)⟩
  have HT := Aside0.mk ht
  clear ht
  go_enter Try.func38, Try.ntmps38
  go_wp2
  all_goals
    go_ret2
    refine ⟨?_, by repeat (first | exact Drawn0.refl _ | apply Drawn0.step)⟩
    have ht := HT.out
    first
    | (rw [fit_yes (by simp at *; omega)]; first | rfl | (simp; done))
    | (rw [fit_no (by simp at *; omega)]; first | rfl | (simp; done))

theorem fits_12 (m : Int) (w : World) : Calls Try.prog 36 #[.int .u32 m, .int .i64 12, .bool false] w
    fun e w' => e = .returned (.tuple #[.int .i32 (fit (-2048) 2048 false (wrap32 m)).1, .int .i64 (fit (-2048) 2048 false (wrap32 m)).2]) ∧ Drawn0 w w' := by
  have hv := w32_bd m
  have hodd := odd_is (wrap32 m)
  obtain ⟨v, hvv⟩ : ∃ v, wrap32 m = v := ⟨_, rfl⟩
  rw [hvv] at hv hodd ⊢
  obtain ⟨v0, v1⟩ := hv
  go_enter Try.func36, Try.ntmps36
  go_wp2
  all_goals
    go_ret2
    refine ⟨?_, by repeat (first | exact Drawn0.refl _ | apply Drawn0.step)⟩
    first
    | (rw [fit_yes (by unfold wrap32 at *; simp at *; omega)]; first | rfl | (simp; done))
    | (rw [fit_no (by unfold wrap32 at *; simp at *; omega)]; first | rfl | (simp; done))
theorem within_12 (v : Int) (w : World) (v0 : -2147483648 ≤ v) (v1 : v < 2147483648) : Calls Try.prog 38 #[.int .i32 v, .int .u64 12, .bool false] w
    fun e w' => e = .returned (.tuple #[.int .i32 (fit (-2048) 2048 false v).1, .int .i64 (fit (-2048) 2048 false v).2]) ∧ Drawn0 w w' := by
  have ht : Int.tmod v 2 = 0 ↔ v % 2 = 0 := ⟨fun h => Int.emod_eq_zero_of_dvd (Int.dvd_of_tmod_eq_zero h), fun h => Int.tmod_eq_zero_of_dvd (Int.dvd_of_emod_eq_zero h)⟩
  have HT := Aside0.mk ht
  clear ht
  go_enter Try.func38, Try.ntmps38
  go_wp2
  all_goals
    go_ret2
    refine ⟨?_, by repeat (first | exact Drawn0.refl _ | apply Drawn0.step)⟩
    have ht := HT.out
    first
    | (rw [fit_yes (by simp at *; omega)]; first | rfl | (simp; done))
    | (rw [fit_no (by simp at *; omega)]; first | rfl | (simp; done))

theorem near_calls (m : Int) (w : World) : Calls Try.prog 37 #[.int .u32 m] w fun e w' => e = .returned (.int .u32 ((m + 2048) % 4294967296 - (m + 2048) % 4096)) ∧ Drawn0 w w' := by
  have h : Go.bits .andNot .u32 ((m + 2048) % 4294967296) 4095 = (m + 2048) % 4294967296 - (m + 2048) % 4096 := by
    rw [andNot_4095 _ (by omega) (by omega)]; omega
  have H := Aside0.mk h
  clear h
  go_enter Try.func37, Try.ntmps37
  go_wp2
  go_ret
  exact ⟨by rw [← H.out]; first | rfl | simp, by repeat (first | exact Drawn0.refl _ | apply Drawn0.step)⟩
theorem Near_calls (m : Int) (w : World) (v0 : -2147483648 ≤ m) (v1 : m < 2147483648) : Calls Try.prog 39 #[.int .i32 m] w fun e w' => e = .returned (.int .i32 (nearV m)) ∧ Drawn0 w w' := by
  have hq := Int.mul_tdiv_add_tmod m 4096
  obtain ⟨r, hr⟩ : ∃ r, Int.tmod m 4096 = r := ⟨_, rfl⟩
  have r1 : -4096 < r ∧ r < 4096 ∧ (0 ≤ m → 0 ≤ r) ∧ (m ≤ 0 → r ≤ 0) ∧ r % 4096 = m % 4096 := by
    subst hr
    refine ⟨Int.lt_tmod_of_pos m (by omega), Int.tmod_lt_of_pos m (by omega), fun h => Int.tmod_nonneg 4096 h, fun h => ?_, by omega⟩
    have := Int.tmod_nonneg (a := -m) 4096 (by omega)
    rw [Int.neg_tmod] at this; omega
  have R1 := Aside0.mk r1
  clear r1 hq
  go_enter Try.func39, Try.ntmps39
  go_wp2
  all_goals
    go_ret
    refine ⟨?_, by repeat (first | exact Drawn0.refl _ | apply Drawn0.step)⟩
    have r1 := R1.out
    have e : ∀ x, x = nearV m → Ending.returned (.int .i32 x) = Ending.returned (.int .i32 (nearV m)) := fun x h => by rw [h]
    refine e _ ?_
    unfold nearV wrap32
    try unfold wrap64 at *
    simp only [hr] at *
    omega
/-- What a field becomes. -/
def relV (k n p g : Int) : Int × Int :=
  if k = 0 then (0, 0) else if k = 51 then (0, 0) else if k = 1 then (wrap32 n, 0) else
  if k = 16 then fit (-4096) 4096 true (wrap32 (n - p)) else if k = 17 then fit (-1048576) 1048576 true (wrap32 (n - p)) else
  if k = 23 then (nearV (n - p), 0) else if k = 26 then (nearV n, 0) else
  if k = 27 then (wrap32 (n - nearV n), 0) else if k = 28 then (wrap32 (n - nearV n), 0) else
  if k = 193 then fit (-2048) 2048 false (wrap32 (n - g)) else if k = 194 then fit (-2048) 2048 false (wrap32 (n - g)) else (0, 5)

set_option maxHeartbeats 4000000 in
set_option maxRecDepth 100000 in
theorem val_0 (s a p g : Int) (w : World) :
    Calls Try.prog 15 #[.int .u8 0, .int .u32 s, .int .u32 a, .int .u32 p, .int .u32 g] w fun e w' => e = .returned (.tuple #[.int .i32 ((0, 0)).1, .int .i64 ((0, 0)).2]) ∧ Drawn0 w w' := by
  go_enter Try.func15, Try.ntmps15
  repeat' (first | (with_reducible refine ex_then ?_) | (with_reducible refine ex_norm ?_) | (with_reducible refine ex_eq ?_) | ((with_reducible refine ex_ne ?_ ?_); exact rfl) | (with_reducible refine ex_thenR ?_) | (with_reducible refine ex_inN ?_) | (with_reducible refine ex_inR ?_) | (go_at_call 36; (first | (with_reducible refine (fits_13 _ _).mono ?_) | (with_reducible refine (fits_21 _ _).mono ?_) | (with_reducible refine (fits_12 _ _).mono ?_)); intro e w' h; obtain ⟨h1, ⟨nq, rfl⟩⟩ := h; subst h1; simp only []) | (go_at_call 37; (first | (with_reducible refine (near_calls _ _).mono ?_)); intro e w' h; obtain ⟨h1, ⟨nq, rfl⟩⟩ := h; subst h1; simp only []) | go_values | go_skip | go_guarded | go_step | go_upon)
  go_ret2
  refine ⟨?_, by repeat (first | exact Drawn0.refl _ | apply Drawn0.step)⟩
  first | rfl | (simp; done) | (simp only [wrap32_mod]; first | rfl | (simp; done)) | (refine congrArg (fun x => Ending.returned (.tuple #[.int .i32 x, .int .i64 0])) ?_; (try simp only [nearV_w]); unfold nearV wrap32; omega)

set_option maxHeartbeats 4000000 in
set_option maxRecDepth 100000 in
theorem val_51 (s a p g : Int) (w : World) :
    Calls Try.prog 15 #[.int .u8 51, .int .u32 s, .int .u32 a, .int .u32 p, .int .u32 g] w fun e w' => e = .returned (.tuple #[.int .i32 ((0, 0)).1, .int .i64 ((0, 0)).2]) ∧ Drawn0 w w' := by
  go_enter Try.func15, Try.ntmps15
  repeat' (first | (with_reducible refine ex_then ?_) | (with_reducible refine ex_norm ?_) | (with_reducible refine ex_eq ?_) | ((with_reducible refine ex_ne ?_ ?_); exact rfl) | (with_reducible refine ex_thenR ?_) | (with_reducible refine ex_inN ?_) | (with_reducible refine ex_inR ?_) | (go_at_call 36; (first | (with_reducible refine (fits_13 _ _).mono ?_) | (with_reducible refine (fits_21 _ _).mono ?_) | (with_reducible refine (fits_12 _ _).mono ?_)); intro e w' h; obtain ⟨h1, ⟨nq, rfl⟩⟩ := h; subst h1; simp only []) | (go_at_call 37; (first | (with_reducible refine (near_calls _ _).mono ?_)); intro e w' h; obtain ⟨h1, ⟨nq, rfl⟩⟩ := h; subst h1; simp only []) | go_values | go_skip | go_guarded | go_step | go_upon)
  go_ret2
  refine ⟨?_, by repeat (first | exact Drawn0.refl _ | apply Drawn0.step)⟩
  first | rfl | (simp; done) | (simp only [wrap32_mod]; first | rfl | (simp; done)) | (refine congrArg (fun x => Ending.returned (.tuple #[.int .i32 x, .int .i64 0])) ?_; (try simp only [nearV_w]); unfold nearV wrap32; omega)

set_option maxHeartbeats 4000000 in
set_option maxRecDepth 100000 in
theorem val_1 (s a p g : Int) (w : World) :
    Calls Try.prog 15 #[.int .u8 1, .int .u32 s, .int .u32 a, .int .u32 p, .int .u32 g] w fun e w' => e = .returned (.tuple #[.int .i32 ((wrap32 (s + a), 0)).1, .int .i64 ((wrap32 (s + a), 0)).2]) ∧ Drawn0 w w' := by
  go_enter Try.func15, Try.ntmps15
  repeat' (first | (with_reducible refine ex_then ?_) | (with_reducible refine ex_norm ?_) | (with_reducible refine ex_eq ?_) | ((with_reducible refine ex_ne ?_ ?_); exact rfl) | (with_reducible refine ex_thenR ?_) | (with_reducible refine ex_inN ?_) | (with_reducible refine ex_inR ?_) | (go_at_call 36; (first | (with_reducible refine (fits_13 _ _).mono ?_) | (with_reducible refine (fits_21 _ _).mono ?_) | (with_reducible refine (fits_12 _ _).mono ?_)); intro e w' h; obtain ⟨h1, ⟨nq, rfl⟩⟩ := h; subst h1; simp only []) | (go_at_call 37; (first | (with_reducible refine (near_calls _ _).mono ?_)); intro e w' h; obtain ⟨h1, ⟨nq, rfl⟩⟩ := h; subst h1; simp only []) | go_values | go_skip | go_guarded | go_step | go_upon)
  go_ret2
  refine ⟨?_, by repeat (first | exact Drawn0.refl _ | apply Drawn0.step)⟩
  first | rfl | (simp; done) | (simp only [wrap32_mod]; first | rfl | (simp; done)) | (refine congrArg (fun x => Ending.returned (.tuple #[.int .i32 x, .int .i64 0])) ?_; (try simp only [nearV_w]); unfold nearV wrap32; omega)

set_option maxHeartbeats 4000000 in
set_option maxRecDepth 100000 in
theorem val_16 (s a p g : Int) (w : World) :
    Calls Try.prog 15 #[.int .u8 16, .int .u32 s, .int .u32 a, .int .u32 p, .int .u32 g] w fun e w' => e = .returned (.tuple #[.int .i32 (fit (-4096) 4096 true (wrap32 (s + a - p))).1, .int .i64 (fit (-4096) 4096 true (wrap32 (s + a - p))).2]) ∧ Drawn0 w w' := by
  go_enter Try.func15, Try.ntmps15
  repeat' (first | (with_reducible refine ex_then ?_) | (with_reducible refine ex_norm ?_) | (with_reducible refine ex_eq ?_) | ((with_reducible refine ex_ne ?_ ?_); exact rfl) | (with_reducible refine ex_thenR ?_) | (with_reducible refine ex_inN ?_) | (with_reducible refine ex_inR ?_) | (go_at_call 36; (first | (with_reducible refine (fits_13 _ _).mono ?_) | (with_reducible refine (fits_21 _ _).mono ?_) | (with_reducible refine (fits_12 _ _).mono ?_)); intro e w' h; obtain ⟨h1, ⟨nq, rfl⟩⟩ := h; subst h1; simp only []) | (go_at_call 37; (first | (with_reducible refine (near_calls _ _).mono ?_)); intro e w' h; obtain ⟨h1, ⟨nq, rfl⟩⟩ := h; subst h1; simp only []) | go_values | go_skip | go_guarded | go_step | go_upon)
  go_ret2
  refine ⟨?_, by repeat (first | exact Drawn0.refl _ | apply Drawn0.step)⟩
  first | rfl | (simp; done) | (simp only [wrap32_mod]; first | rfl | (simp; done)) | (refine congrArg (fun x => Ending.returned (.tuple #[.int .i32 x, .int .i64 0])) ?_; (try simp only [nearV_w]); unfold nearV wrap32; omega)

set_option maxHeartbeats 4000000 in
set_option maxRecDepth 100000 in
theorem val_17 (s a p g : Int) (w : World) :
    Calls Try.prog 15 #[.int .u8 17, .int .u32 s, .int .u32 a, .int .u32 p, .int .u32 g] w fun e w' => e = .returned (.tuple #[.int .i32 (fit (-1048576) 1048576 true (wrap32 (s + a - p))).1, .int .i64 (fit (-1048576) 1048576 true (wrap32 (s + a - p))).2]) ∧ Drawn0 w w' := by
  go_enter Try.func15, Try.ntmps15
  repeat' (first | (with_reducible refine ex_then ?_) | (with_reducible refine ex_norm ?_) | (with_reducible refine ex_eq ?_) | ((with_reducible refine ex_ne ?_ ?_); exact rfl) | (with_reducible refine ex_thenR ?_) | (with_reducible refine ex_inN ?_) | (with_reducible refine ex_inR ?_) | (go_at_call 36; (first | (with_reducible refine (fits_13 _ _).mono ?_) | (with_reducible refine (fits_21 _ _).mono ?_) | (with_reducible refine (fits_12 _ _).mono ?_)); intro e w' h; obtain ⟨h1, ⟨nq, rfl⟩⟩ := h; subst h1; simp only []) | (go_at_call 37; (first | (with_reducible refine (near_calls _ _).mono ?_)); intro e w' h; obtain ⟨h1, ⟨nq, rfl⟩⟩ := h; subst h1; simp only []) | go_values | go_skip | go_guarded | go_step | go_upon)
  go_ret2
  refine ⟨?_, by repeat (first | exact Drawn0.refl _ | apply Drawn0.step)⟩
  first | rfl | (simp; done) | (simp only [wrap32_mod]; first | rfl | (simp; done)) | (refine congrArg (fun x => Ending.returned (.tuple #[.int .i32 x, .int .i64 0])) ?_; (try simp only [nearV_w]); unfold nearV wrap32; omega)

set_option maxHeartbeats 4000000 in
set_option maxRecDepth 100000 in
theorem val_23 (s a p g : Int) (w : World) :
    Calls Try.prog 15 #[.int .u8 23, .int .u32 s, .int .u32 a, .int .u32 p, .int .u32 g] w fun e w' => e = .returned (.tuple #[.int .i32 ((nearV (s + a - p), 0)).1, .int .i64 ((nearV (s + a - p), 0)).2]) ∧ Drawn0 w w' := by
  go_enter Try.func15, Try.ntmps15
  repeat' (first | (with_reducible refine ex_then ?_) | (with_reducible refine ex_norm ?_) | (with_reducible refine ex_eq ?_) | ((with_reducible refine ex_ne ?_ ?_); exact rfl) | (with_reducible refine ex_thenR ?_) | (with_reducible refine ex_inN ?_) | (with_reducible refine ex_inR ?_) | (go_at_call 36; (first | (with_reducible refine (fits_13 _ _).mono ?_) | (with_reducible refine (fits_21 _ _).mono ?_) | (with_reducible refine (fits_12 _ _).mono ?_)); intro e w' h; obtain ⟨h1, ⟨nq, rfl⟩⟩ := h; subst h1; simp only []) | (go_at_call 37; (first | (with_reducible refine (near_calls _ _).mono ?_)); intro e w' h; obtain ⟨h1, ⟨nq, rfl⟩⟩ := h; subst h1; simp only []) | go_values | go_skip | go_guarded | go_step | go_upon)
  go_ret2
  refine ⟨?_, by repeat (first | exact Drawn0.refl _ | apply Drawn0.step)⟩
  first | rfl | (simp; done) | (simp only [wrap32_mod]; first | rfl | (simp; done)) | (refine congrArg (fun x => Ending.returned (.tuple #[.int .i32 x, .int .i64 0])) ?_; (try simp only [nearV_w]); unfold nearV wrap32; omega)

set_option maxHeartbeats 4000000 in
set_option maxRecDepth 100000 in
theorem val_26 (s a p g : Int) (w : World) :
    Calls Try.prog 15 #[.int .u8 26, .int .u32 s, .int .u32 a, .int .u32 p, .int .u32 g] w fun e w' => e = .returned (.tuple #[.int .i32 ((nearV (s + a), 0)).1, .int .i64 ((nearV (s + a), 0)).2]) ∧ Drawn0 w w' := by
  go_enter Try.func15, Try.ntmps15
  repeat' (first | (with_reducible refine ex_then ?_) | (with_reducible refine ex_norm ?_) | (with_reducible refine ex_eq ?_) | ((with_reducible refine ex_ne ?_ ?_); exact rfl) | (with_reducible refine ex_thenR ?_) | (with_reducible refine ex_inN ?_) | (with_reducible refine ex_inR ?_) | (go_at_call 36; (first | (with_reducible refine (fits_13 _ _).mono ?_) | (with_reducible refine (fits_21 _ _).mono ?_) | (with_reducible refine (fits_12 _ _).mono ?_)); intro e w' h; obtain ⟨h1, ⟨nq, rfl⟩⟩ := h; subst h1; simp only []) | (go_at_call 37; (first | (with_reducible refine (near_calls _ _).mono ?_)); intro e w' h; obtain ⟨h1, ⟨nq, rfl⟩⟩ := h; subst h1; simp only []) | go_values | go_skip | go_guarded | go_step | go_upon)
  go_ret2
  refine ⟨?_, by repeat (first | exact Drawn0.refl _ | apply Drawn0.step)⟩
  first | rfl | (simp; done) | (simp only [wrap32_mod]; first | rfl | (simp; done)) | (refine congrArg (fun x => Ending.returned (.tuple #[.int .i32 x, .int .i64 0])) ?_; (try simp only [nearV_w]); unfold nearV wrap32; omega)

set_option maxHeartbeats 4000000 in
set_option maxRecDepth 100000 in
theorem val_27 (s a p g : Int) (w : World) :
    Calls Try.prog 15 #[.int .u8 27, .int .u32 s, .int .u32 a, .int .u32 p, .int .u32 g] w fun e w' => e = .returned (.tuple #[.int .i32 ((wrap32 (s + a - nearV (s + a)), 0)).1, .int .i64 ((wrap32 (s + a - nearV (s + a)), 0)).2]) ∧ Drawn0 w w' := by
  go_enter Try.func15, Try.ntmps15
  repeat' (first | (with_reducible refine ex_then ?_) | (with_reducible refine ex_norm ?_) | (with_reducible refine ex_eq ?_) | ((with_reducible refine ex_ne ?_ ?_); exact rfl) | (with_reducible refine ex_thenR ?_) | (with_reducible refine ex_inN ?_) | (with_reducible refine ex_inR ?_) | (go_at_call 36; (first | (with_reducible refine (fits_13 _ _).mono ?_) | (with_reducible refine (fits_21 _ _).mono ?_) | (with_reducible refine (fits_12 _ _).mono ?_)); intro e w' h; obtain ⟨h1, ⟨nq, rfl⟩⟩ := h; subst h1; simp only []) | (go_at_call 37; (first | (with_reducible refine (near_calls _ _).mono ?_)); intro e w' h; obtain ⟨h1, ⟨nq, rfl⟩⟩ := h; subst h1; simp only []) | go_values | go_skip | go_guarded | go_step | go_upon)
  go_ret2
  refine ⟨?_, by repeat (first | exact Drawn0.refl _ | apply Drawn0.step)⟩
  first | rfl | (simp; done) | (simp only [wrap32_mod]; first | rfl | (simp; done)) | (refine congrArg (fun x => Ending.returned (.tuple #[.int .i32 x, .int .i64 0])) ?_; (try simp only [nearV_w]); unfold nearV wrap32; omega)

set_option maxHeartbeats 4000000 in
set_option maxRecDepth 100000 in
theorem val_28 (s a p g : Int) (w : World) :
    Calls Try.prog 15 #[.int .u8 28, .int .u32 s, .int .u32 a, .int .u32 p, .int .u32 g] w fun e w' => e = .returned (.tuple #[.int .i32 ((wrap32 (s + a - nearV (s + a)), 0)).1, .int .i64 ((wrap32 (s + a - nearV (s + a)), 0)).2]) ∧ Drawn0 w w' := by
  go_enter Try.func15, Try.ntmps15
  repeat' (first | (with_reducible refine ex_then ?_) | (with_reducible refine ex_norm ?_) | (with_reducible refine ex_eq ?_) | ((with_reducible refine ex_ne ?_ ?_); exact rfl) | (with_reducible refine ex_thenR ?_) | (with_reducible refine ex_inN ?_) | (with_reducible refine ex_inR ?_) | (go_at_call 36; (first | (with_reducible refine (fits_13 _ _).mono ?_) | (with_reducible refine (fits_21 _ _).mono ?_) | (with_reducible refine (fits_12 _ _).mono ?_)); intro e w' h; obtain ⟨h1, ⟨nq, rfl⟩⟩ := h; subst h1; simp only []) | (go_at_call 37; (first | (with_reducible refine (near_calls _ _).mono ?_)); intro e w' h; obtain ⟨h1, ⟨nq, rfl⟩⟩ := h; subst h1; simp only []) | go_values | go_skip | go_guarded | go_step | go_upon)
  go_ret2
  refine ⟨?_, by repeat (first | exact Drawn0.refl _ | apply Drawn0.step)⟩
  first | rfl | (simp; done) | (simp only [wrap32_mod]; first | rfl | (simp; done)) | (refine congrArg (fun x => Ending.returned (.tuple #[.int .i32 x, .int .i64 0])) ?_; (try simp only [nearV_w]); unfold nearV wrap32; omega)

set_option maxHeartbeats 4000000 in
set_option maxRecDepth 100000 in
theorem val_193 (s a p g : Int) (w : World) :
    Calls Try.prog 15 #[.int .u8 193, .int .u32 s, .int .u32 a, .int .u32 p, .int .u32 g] w fun e w' => e = .returned (.tuple #[.int .i32 (fit (-2048) 2048 false (wrap32 (s + a - g))).1, .int .i64 (fit (-2048) 2048 false (wrap32 (s + a - g))).2]) ∧ Drawn0 w w' := by
  go_enter Try.func15, Try.ntmps15
  repeat' (first | (with_reducible refine ex_then ?_) | (with_reducible refine ex_norm ?_) | (with_reducible refine ex_eq ?_) | ((with_reducible refine ex_ne ?_ ?_); exact rfl) | (with_reducible refine ex_thenR ?_) | (with_reducible refine ex_inN ?_) | (with_reducible refine ex_inR ?_) | (go_at_call 36; (first | (with_reducible refine (fits_13 _ _).mono ?_) | (with_reducible refine (fits_21 _ _).mono ?_) | (with_reducible refine (fits_12 _ _).mono ?_)); intro e w' h; obtain ⟨h1, ⟨nq, rfl⟩⟩ := h; subst h1; simp only []) | (go_at_call 37; (first | (with_reducible refine (near_calls _ _).mono ?_)); intro e w' h; obtain ⟨h1, ⟨nq, rfl⟩⟩ := h; subst h1; simp only []) | go_values | go_skip | go_guarded | go_step | go_upon)
  go_ret2
  refine ⟨?_, by repeat (first | exact Drawn0.refl _ | apply Drawn0.step)⟩
  first | rfl | (simp; done) | (simp only [wrap32_mod]; first | rfl | (simp; done)) | (refine congrArg (fun x => Ending.returned (.tuple #[.int .i32 x, .int .i64 0])) ?_; (try simp only [nearV_w]); unfold nearV wrap32; omega)

set_option maxHeartbeats 4000000 in
set_option maxRecDepth 100000 in
theorem val_194 (s a p g : Int) (w : World) :
    Calls Try.prog 15 #[.int .u8 194, .int .u32 s, .int .u32 a, .int .u32 p, .int .u32 g] w fun e w' => e = .returned (.tuple #[.int .i32 (fit (-2048) 2048 false (wrap32 (s + a - g))).1, .int .i64 (fit (-2048) 2048 false (wrap32 (s + a - g))).2]) ∧ Drawn0 w w' := by
  go_enter Try.func15, Try.ntmps15
  repeat' (first | (with_reducible refine ex_then ?_) | (with_reducible refine ex_norm ?_) | (with_reducible refine ex_eq ?_) | ((with_reducible refine ex_ne ?_ ?_); exact rfl) | (with_reducible refine ex_thenR ?_) | (with_reducible refine ex_inN ?_) | (with_reducible refine ex_inR ?_) | (go_at_call 36; (first | (with_reducible refine (fits_13 _ _).mono ?_) | (with_reducible refine (fits_21 _ _).mono ?_) | (with_reducible refine (fits_12 _ _).mono ?_)); intro e w' h; obtain ⟨h1, ⟨nq, rfl⟩⟩ := h; subst h1; simp only []) | (go_at_call 37; (first | (with_reducible refine (near_calls _ _).mono ?_)); intro e w' h; obtain ⟨h1, ⟨nq, rfl⟩⟩ := h; subst h1; simp only []) | go_values | go_skip | go_guarded | go_step | go_upon)
  go_ret2
  refine ⟨?_, by repeat (first | exact Drawn0.refl _ | apply Drawn0.step)⟩
  first | rfl | (simp; done) | (simp only [wrap32_mod]; first | rfl | (simp; done)) | (refine congrArg (fun x => Ending.returned (.tuple #[.int .i32 x, .int .i64 0])) ?_; (try simp only [nearV_w]); unfold nearV wrap32; omega)

set_option maxHeartbeats 4000000 in
set_option maxRecDepth 100000 in
theorem val_no (k s a p g : Int) (w : World) (h0 : (k == 0) = false) (h51 : (k == 51) = false) (h1 : (k == 1) = false) (h16 : (k == 16) = false) (h17 : (k == 17) = false) (h23 : (k == 23) = false) (h26 : (k == 26) = false) (h27 : (k == 27) = false) (h28 : (k == 28) = false) (h193 : (k == 193) = false) (h194 : (k == 194) = false) :
    Calls Try.prog 15 #[.int .u8 k, .int .u32 s, .int .u32 a, .int .u32 p, .int .u32 g] w fun e w' => e = .returned (.tuple #[.int .i32 0, .int .i64 5]) ∧ Drawn0 w w' := by
  go_enter Try.func15, Try.ntmps15
  repeat' (first | (with_reducible refine ex_then ?_) | (with_reducible refine ex_norm ?_) | (with_reducible refine ex_eq ?_) | ((with_reducible refine ex_ne ?_ ?_); exact rfl) | (with_reducible refine ex_thenR ?_) | (with_reducible refine ex_inN ?_) | (with_reducible refine ex_inR ?_) | go_values | go_skip | go_guarded | go_step | go_upon)
  go_ret2
  exact ⟨by first | rfl | simp, by repeat (first | exact Drawn0.refl _ | apply Drawn0.step)⟩
theorem val_calls (k s a p g : Int) (w : World) :
    Calls Try.prog 15 #[.int .u8 k, .int .u32 s, .int .u32 a, .int .u32 p, .int .u32 g] w fun e w' => e = .returned (.tuple #[.int .i32 (relV k (s + a) p g).1, .int .i64 (relV k (s + a) p g).2]) ∧ Drawn0 w w' := by
  by_cases h0 : k = 0
  · subst h0; exact val_0 s a p g w
  by_cases h51 : k = 51
  · subst h51; exact val_51 s a p g w
  by_cases h1 : k = 1
  · subst h1; exact val_1 s a p g w
  by_cases h16 : k = 16
  · subst h16; exact val_16 s a p g w
  by_cases h17 : k = 17
  · subst h17; exact val_17 s a p g w
  by_cases h23 : k = 23
  · subst h23; exact val_23 s a p g w
  by_cases h26 : k = 26
  · subst h26; exact val_26 s a p g w
  by_cases h27 : k = 27
  · subst h27; exact val_27 s a p g w
  by_cases h28 : k = 28
  · subst h28; exact val_28 s a p g w
  by_cases h193 : k = 193
  · subst h193; exact val_193 s a p g w
  by_cases h194 : k = 194
  · subst h194; exact val_194 s a p g w
  have hd : relV k (s + a) p g = (0, 5) := by unfold relV; rw [if_neg h0, if_neg h51, if_neg h1, if_neg h16, if_neg h17, if_neg h23, if_neg h26, if_neg h27, if_neg h28, if_neg h193, if_neg h194]
  rw [hd]
  exact val_no k s a p g w (by simpa using h0) (by simpa using h51) (by simpa using h1) (by simpa using h16) (by simpa using h17) (by simpa using h23) (by simpa using h26) (by simpa using h27) (by simpa using h28) (by simpa using h193) (by simpa using h194)

set_option maxHeartbeats 4000000 in
set_option maxRecDepth 100000 in
theorem rval_0 (s a p g : Int) (w : World) :
    Calls Try.prog 17 #[.int .u8 0, .int .u32 s, .int .u32 a, .int .u32 p, .int .u32 g] w fun e w' => e = .returned (.tuple #[.int .i32 ((0, 0)).1, .int .i64 ((0, 0)).2]) ∧ Drawn0 w w' := by
  go_enter Try.func17, Try.ntmps17
  repeat' (first | (with_reducible refine ex_then ?_) | (with_reducible refine ex_norm ?_) | (with_reducible refine ex_eq ?_) | ((with_reducible refine ex_ne ?_ ?_); exact rfl) | (with_reducible refine ex_thenR ?_) | (with_reducible refine ex_inN ?_) | (with_reducible refine ex_inR ?_) | (go_at_call 38; (first | (with_reducible refine (within_13 _ _ (w32_bd _).1 (w32_bd _).2).mono ?_) | (with_reducible refine (within_21 _ _ (w32_bd _).1 (w32_bd _).2).mono ?_) | (with_reducible refine (within_12 _ _ (w32_bd _).1 (w32_bd _).2).mono ?_)); intro e w' h; obtain ⟨h1, ⟨nq, rfl⟩⟩ := h; subst h1; simp only []) | (go_at_call 39; (first | (with_reducible refine (Near_calls _ _ (w32_bd _).1 (w32_bd _).2).mono ?_)); intro e w' h; obtain ⟨h1, ⟨nq, rfl⟩⟩ := h; subst h1; simp only []) | go_values | go_skip | go_guarded | go_step | go_upon)
  go_ret2
  refine ⟨?_, by repeat (first | exact Drawn0.refl _ | apply Drawn0.step)⟩
  first | rfl | (simp; done) | (simp only [wrap32_mod]; first | rfl | (simp; done)) | (refine congrArg (fun x => Ending.returned (.tuple #[.int .i32 x, .int .i64 0])) ?_; (try simp only [nearV_w]); unfold nearV wrap32; omega)

set_option maxHeartbeats 4000000 in
set_option maxRecDepth 100000 in
theorem rval_51 (s a p g : Int) (w : World) :
    Calls Try.prog 17 #[.int .u8 51, .int .u32 s, .int .u32 a, .int .u32 p, .int .u32 g] w fun e w' => e = .returned (.tuple #[.int .i32 ((0, 0)).1, .int .i64 ((0, 0)).2]) ∧ Drawn0 w w' := by
  go_enter Try.func17, Try.ntmps17
  repeat' (first | (with_reducible refine ex_then ?_) | (with_reducible refine ex_norm ?_) | (with_reducible refine ex_eq ?_) | ((with_reducible refine ex_ne ?_ ?_); exact rfl) | (with_reducible refine ex_thenR ?_) | (with_reducible refine ex_inN ?_) | (with_reducible refine ex_inR ?_) | (go_at_call 38; (first | (with_reducible refine (within_13 _ _ (w32_bd _).1 (w32_bd _).2).mono ?_) | (with_reducible refine (within_21 _ _ (w32_bd _).1 (w32_bd _).2).mono ?_) | (with_reducible refine (within_12 _ _ (w32_bd _).1 (w32_bd _).2).mono ?_)); intro e w' h; obtain ⟨h1, ⟨nq, rfl⟩⟩ := h; subst h1; simp only []) | (go_at_call 39; (first | (with_reducible refine (Near_calls _ _ (w32_bd _).1 (w32_bd _).2).mono ?_)); intro e w' h; obtain ⟨h1, ⟨nq, rfl⟩⟩ := h; subst h1; simp only []) | go_values | go_skip | go_guarded | go_step | go_upon)
  go_ret2
  refine ⟨?_, by repeat (first | exact Drawn0.refl _ | apply Drawn0.step)⟩
  first | rfl | (simp; done) | (simp only [wrap32_mod]; first | rfl | (simp; done)) | (refine congrArg (fun x => Ending.returned (.tuple #[.int .i32 x, .int .i64 0])) ?_; (try simp only [nearV_w]); unfold nearV wrap32; omega)

set_option maxHeartbeats 4000000 in
set_option maxRecDepth 100000 in
theorem rval_1 (s a p g : Int) (w : World) :
    Calls Try.prog 17 #[.int .u8 1, .int .u32 s, .int .u32 a, .int .u32 p, .int .u32 g] w fun e w' => e = .returned (.tuple #[.int .i32 ((wrap32 (s + a), 0)).1, .int .i64 ((wrap32 (s + a), 0)).2]) ∧ Drawn0 w w' := by
  go_enter Try.func17, Try.ntmps17
  repeat' (first | (with_reducible refine ex_then ?_) | (with_reducible refine ex_norm ?_) | (with_reducible refine ex_eq ?_) | ((with_reducible refine ex_ne ?_ ?_); exact rfl) | (with_reducible refine ex_thenR ?_) | (with_reducible refine ex_inN ?_) | (with_reducible refine ex_inR ?_) | (go_at_call 38; (first | (with_reducible refine (within_13 _ _ (w32_bd _).1 (w32_bd _).2).mono ?_) | (with_reducible refine (within_21 _ _ (w32_bd _).1 (w32_bd _).2).mono ?_) | (with_reducible refine (within_12 _ _ (w32_bd _).1 (w32_bd _).2).mono ?_)); intro e w' h; obtain ⟨h1, ⟨nq, rfl⟩⟩ := h; subst h1; simp only []) | (go_at_call 39; (first | (with_reducible refine (Near_calls _ _ (w32_bd _).1 (w32_bd _).2).mono ?_)); intro e w' h; obtain ⟨h1, ⟨nq, rfl⟩⟩ := h; subst h1; simp only []) | go_values | go_skip | go_guarded | go_step | go_upon)
  go_ret2
  refine ⟨?_, by repeat (first | exact Drawn0.refl _ | apply Drawn0.step)⟩
  first | rfl | (simp; done) | (simp only [wrap32_mod]; first | rfl | (simp; done)) | (refine congrArg (fun x => Ending.returned (.tuple #[.int .i32 x, .int .i64 0])) ?_; (try simp only [nearV_w]); unfold nearV wrap32; omega)

set_option maxHeartbeats 4000000 in
set_option maxRecDepth 100000 in
theorem rval_16 (s a p g : Int) (w : World) :
    Calls Try.prog 17 #[.int .u8 16, .int .u32 s, .int .u32 a, .int .u32 p, .int .u32 g] w fun e w' => e = .returned (.tuple #[.int .i32 (fit (-4096) 4096 true (wrap32 (s + a - p))).1, .int .i64 (fit (-4096) 4096 true (wrap32 (s + a - p))).2]) ∧ Drawn0 w w' := by
  go_enter Try.func17, Try.ntmps17
  repeat' (first | (with_reducible refine ex_then ?_) | (with_reducible refine ex_norm ?_) | (with_reducible refine ex_eq ?_) | ((with_reducible refine ex_ne ?_ ?_); exact rfl) | (with_reducible refine ex_thenR ?_) | (with_reducible refine ex_inN ?_) | (with_reducible refine ex_inR ?_) | (go_at_call 38; (first | (with_reducible refine (within_13 _ _ (w32_bd _).1 (w32_bd _).2).mono ?_) | (with_reducible refine (within_21 _ _ (w32_bd _).1 (w32_bd _).2).mono ?_) | (with_reducible refine (within_12 _ _ (w32_bd _).1 (w32_bd _).2).mono ?_)); intro e w' h; obtain ⟨h1, ⟨nq, rfl⟩⟩ := h; subst h1; simp only []) | (go_at_call 39; (first | (with_reducible refine (Near_calls _ _ (w32_bd _).1 (w32_bd _).2).mono ?_)); intro e w' h; obtain ⟨h1, ⟨nq, rfl⟩⟩ := h; subst h1; simp only []) | go_values | go_skip | go_guarded | go_step | go_upon)
  go_ret2
  refine ⟨?_, by repeat (first | exact Drawn0.refl _ | apply Drawn0.step)⟩
  first | rfl | (simp; done) | (simp only [wrap32_mod]; first | rfl | (simp; done)) | (refine congrArg (fun x => Ending.returned (.tuple #[.int .i32 x, .int .i64 0])) ?_; (try simp only [nearV_w]); unfold nearV wrap32; omega)

set_option maxHeartbeats 4000000 in
set_option maxRecDepth 100000 in
theorem rval_17 (s a p g : Int) (w : World) :
    Calls Try.prog 17 #[.int .u8 17, .int .u32 s, .int .u32 a, .int .u32 p, .int .u32 g] w fun e w' => e = .returned (.tuple #[.int .i32 (fit (-1048576) 1048576 true (wrap32 (s + a - p))).1, .int .i64 (fit (-1048576) 1048576 true (wrap32 (s + a - p))).2]) ∧ Drawn0 w w' := by
  go_enter Try.func17, Try.ntmps17
  repeat' (first | (with_reducible refine ex_then ?_) | (with_reducible refine ex_norm ?_) | (with_reducible refine ex_eq ?_) | ((with_reducible refine ex_ne ?_ ?_); exact rfl) | (with_reducible refine ex_thenR ?_) | (with_reducible refine ex_inN ?_) | (with_reducible refine ex_inR ?_) | (go_at_call 38; (first | (with_reducible refine (within_13 _ _ (w32_bd _).1 (w32_bd _).2).mono ?_) | (with_reducible refine (within_21 _ _ (w32_bd _).1 (w32_bd _).2).mono ?_) | (with_reducible refine (within_12 _ _ (w32_bd _).1 (w32_bd _).2).mono ?_)); intro e w' h; obtain ⟨h1, ⟨nq, rfl⟩⟩ := h; subst h1; simp only []) | (go_at_call 39; (first | (with_reducible refine (Near_calls _ _ (w32_bd _).1 (w32_bd _).2).mono ?_)); intro e w' h; obtain ⟨h1, ⟨nq, rfl⟩⟩ := h; subst h1; simp only []) | go_values | go_skip | go_guarded | go_step | go_upon)
  go_ret2
  refine ⟨?_, by repeat (first | exact Drawn0.refl _ | apply Drawn0.step)⟩
  first | rfl | (simp; done) | (simp only [wrap32_mod]; first | rfl | (simp; done)) | (refine congrArg (fun x => Ending.returned (.tuple #[.int .i32 x, .int .i64 0])) ?_; (try simp only [nearV_w]); unfold nearV wrap32; omega)

set_option maxHeartbeats 4000000 in
set_option maxRecDepth 100000 in
theorem rval_23 (s a p g : Int) (w : World) :
    Calls Try.prog 17 #[.int .u8 23, .int .u32 s, .int .u32 a, .int .u32 p, .int .u32 g] w fun e w' => e = .returned (.tuple #[.int .i32 ((nearV (s + a - p), 0)).1, .int .i64 ((nearV (s + a - p), 0)).2]) ∧ Drawn0 w w' := by
  go_enter Try.func17, Try.ntmps17
  repeat' (first | (with_reducible refine ex_then ?_) | (with_reducible refine ex_norm ?_) | (with_reducible refine ex_eq ?_) | ((with_reducible refine ex_ne ?_ ?_); exact rfl) | (with_reducible refine ex_thenR ?_) | (with_reducible refine ex_inN ?_) | (with_reducible refine ex_inR ?_) | (go_at_call 38; (first | (with_reducible refine (within_13 _ _ (w32_bd _).1 (w32_bd _).2).mono ?_) | (with_reducible refine (within_21 _ _ (w32_bd _).1 (w32_bd _).2).mono ?_) | (with_reducible refine (within_12 _ _ (w32_bd _).1 (w32_bd _).2).mono ?_)); intro e w' h; obtain ⟨h1, ⟨nq, rfl⟩⟩ := h; subst h1; simp only []) | (go_at_call 39; (first | (with_reducible refine (Near_calls _ _ (w32_bd _).1 (w32_bd _).2).mono ?_)); intro e w' h; obtain ⟨h1, ⟨nq, rfl⟩⟩ := h; subst h1; simp only []) | go_values | go_skip | go_guarded | go_step | go_upon)
  go_ret2
  refine ⟨?_, by repeat (first | exact Drawn0.refl _ | apply Drawn0.step)⟩
  first | rfl | (simp; done) | (simp only [wrap32_mod]; first | rfl | (simp; done)) | (refine congrArg (fun x => Ending.returned (.tuple #[.int .i32 x, .int .i64 0])) ?_; (try simp only [nearV_w]); unfold nearV wrap32; omega)

set_option maxHeartbeats 4000000 in
set_option maxRecDepth 100000 in
theorem rval_26 (s a p g : Int) (w : World) :
    Calls Try.prog 17 #[.int .u8 26, .int .u32 s, .int .u32 a, .int .u32 p, .int .u32 g] w fun e w' => e = .returned (.tuple #[.int .i32 ((nearV (s + a), 0)).1, .int .i64 ((nearV (s + a), 0)).2]) ∧ Drawn0 w w' := by
  go_enter Try.func17, Try.ntmps17
  repeat' (first | (with_reducible refine ex_then ?_) | (with_reducible refine ex_norm ?_) | (with_reducible refine ex_eq ?_) | ((with_reducible refine ex_ne ?_ ?_); exact rfl) | (with_reducible refine ex_thenR ?_) | (with_reducible refine ex_inN ?_) | (with_reducible refine ex_inR ?_) | (go_at_call 38; (first | (with_reducible refine (within_13 _ _ (w32_bd _).1 (w32_bd _).2).mono ?_) | (with_reducible refine (within_21 _ _ (w32_bd _).1 (w32_bd _).2).mono ?_) | (with_reducible refine (within_12 _ _ (w32_bd _).1 (w32_bd _).2).mono ?_)); intro e w' h; obtain ⟨h1, ⟨nq, rfl⟩⟩ := h; subst h1; simp only []) | (go_at_call 39; (first | (with_reducible refine (Near_calls _ _ (w32_bd _).1 (w32_bd _).2).mono ?_)); intro e w' h; obtain ⟨h1, ⟨nq, rfl⟩⟩ := h; subst h1; simp only []) | go_values | go_skip | go_guarded | go_step | go_upon)
  go_ret2
  refine ⟨?_, by repeat (first | exact Drawn0.refl _ | apply Drawn0.step)⟩
  first | rfl | (simp; done) | (simp only [wrap32_mod]; first | rfl | (simp; done)) | (refine congrArg (fun x => Ending.returned (.tuple #[.int .i32 x, .int .i64 0])) ?_; (try simp only [nearV_w]); unfold nearV wrap32; omega)

set_option maxHeartbeats 4000000 in
set_option maxRecDepth 100000 in
theorem rval_27 (s a p g : Int) (w : World) :
    Calls Try.prog 17 #[.int .u8 27, .int .u32 s, .int .u32 a, .int .u32 p, .int .u32 g] w fun e w' => e = .returned (.tuple #[.int .i32 ((wrap32 (s + a - nearV (s + a)), 0)).1, .int .i64 ((wrap32 (s + a - nearV (s + a)), 0)).2]) ∧ Drawn0 w w' := by
  go_enter Try.func17, Try.ntmps17
  repeat' (first | (with_reducible refine ex_then ?_) | (with_reducible refine ex_norm ?_) | (with_reducible refine ex_eq ?_) | ((with_reducible refine ex_ne ?_ ?_); exact rfl) | (with_reducible refine ex_thenR ?_) | (with_reducible refine ex_inN ?_) | (with_reducible refine ex_inR ?_) | (go_at_call 38; (first | (with_reducible refine (within_13 _ _ (w32_bd _).1 (w32_bd _).2).mono ?_) | (with_reducible refine (within_21 _ _ (w32_bd _).1 (w32_bd _).2).mono ?_) | (with_reducible refine (within_12 _ _ (w32_bd _).1 (w32_bd _).2).mono ?_)); intro e w' h; obtain ⟨h1, ⟨nq, rfl⟩⟩ := h; subst h1; simp only []) | (go_at_call 39; (first | (with_reducible refine (Near_calls _ _ (w32_bd _).1 (w32_bd _).2).mono ?_)); intro e w' h; obtain ⟨h1, ⟨nq, rfl⟩⟩ := h; subst h1; simp only []) | go_values | go_skip | go_guarded | go_step | go_upon)
  go_ret2
  refine ⟨?_, by repeat (first | exact Drawn0.refl _ | apply Drawn0.step)⟩
  first | rfl | (simp; done) | (simp only [wrap32_mod]; first | rfl | (simp; done)) | (refine congrArg (fun x => Ending.returned (.tuple #[.int .i32 x, .int .i64 0])) ?_; (try simp only [nearV_w]); unfold nearV wrap32; omega)

set_option maxHeartbeats 4000000 in
set_option maxRecDepth 100000 in
theorem rval_28 (s a p g : Int) (w : World) :
    Calls Try.prog 17 #[.int .u8 28, .int .u32 s, .int .u32 a, .int .u32 p, .int .u32 g] w fun e w' => e = .returned (.tuple #[.int .i32 ((wrap32 (s + a - nearV (s + a)), 0)).1, .int .i64 ((wrap32 (s + a - nearV (s + a)), 0)).2]) ∧ Drawn0 w w' := by
  go_enter Try.func17, Try.ntmps17
  repeat' (first | (with_reducible refine ex_then ?_) | (with_reducible refine ex_norm ?_) | (with_reducible refine ex_eq ?_) | ((with_reducible refine ex_ne ?_ ?_); exact rfl) | (with_reducible refine ex_thenR ?_) | (with_reducible refine ex_inN ?_) | (with_reducible refine ex_inR ?_) | (go_at_call 38; (first | (with_reducible refine (within_13 _ _ (w32_bd _).1 (w32_bd _).2).mono ?_) | (with_reducible refine (within_21 _ _ (w32_bd _).1 (w32_bd _).2).mono ?_) | (with_reducible refine (within_12 _ _ (w32_bd _).1 (w32_bd _).2).mono ?_)); intro e w' h; obtain ⟨h1, ⟨nq, rfl⟩⟩ := h; subst h1; simp only []) | (go_at_call 39; (first | (with_reducible refine (Near_calls _ _ (w32_bd _).1 (w32_bd _).2).mono ?_)); intro e w' h; obtain ⟨h1, ⟨nq, rfl⟩⟩ := h; subst h1; simp only []) | go_values | go_skip | go_guarded | go_step | go_upon)
  go_ret2
  refine ⟨?_, by repeat (first | exact Drawn0.refl _ | apply Drawn0.step)⟩
  first | rfl | (simp; done) | (simp only [wrap32_mod]; first | rfl | (simp; done)) | (refine congrArg (fun x => Ending.returned (.tuple #[.int .i32 x, .int .i64 0])) ?_; (try simp only [nearV_w]); unfold nearV wrap32; omega)

set_option maxHeartbeats 4000000 in
set_option maxRecDepth 100000 in
theorem rval_193 (s a p g : Int) (w : World) :
    Calls Try.prog 17 #[.int .u8 193, .int .u32 s, .int .u32 a, .int .u32 p, .int .u32 g] w fun e w' => e = .returned (.tuple #[.int .i32 (fit (-2048) 2048 false (wrap32 (s + a - g))).1, .int .i64 (fit (-2048) 2048 false (wrap32 (s + a - g))).2]) ∧ Drawn0 w w' := by
  go_enter Try.func17, Try.ntmps17
  repeat' (first | (with_reducible refine ex_then ?_) | (with_reducible refine ex_norm ?_) | (with_reducible refine ex_eq ?_) | ((with_reducible refine ex_ne ?_ ?_); exact rfl) | (with_reducible refine ex_thenR ?_) | (with_reducible refine ex_inN ?_) | (with_reducible refine ex_inR ?_) | (go_at_call 38; (first | (with_reducible refine (within_13 _ _ (w32_bd _).1 (w32_bd _).2).mono ?_) | (with_reducible refine (within_21 _ _ (w32_bd _).1 (w32_bd _).2).mono ?_) | (with_reducible refine (within_12 _ _ (w32_bd _).1 (w32_bd _).2).mono ?_)); intro e w' h; obtain ⟨h1, ⟨nq, rfl⟩⟩ := h; subst h1; simp only []) | (go_at_call 39; (first | (with_reducible refine (Near_calls _ _ (w32_bd _).1 (w32_bd _).2).mono ?_)); intro e w' h; obtain ⟨h1, ⟨nq, rfl⟩⟩ := h; subst h1; simp only []) | go_values | go_skip | go_guarded | go_step | go_upon)
  go_ret2
  refine ⟨?_, by repeat (first | exact Drawn0.refl _ | apply Drawn0.step)⟩
  first | rfl | (simp; done) | (simp only [wrap32_mod]; first | rfl | (simp; done)) | (refine congrArg (fun x => Ending.returned (.tuple #[.int .i32 x, .int .i64 0])) ?_; (try simp only [nearV_w]); unfold nearV wrap32; omega)

set_option maxHeartbeats 4000000 in
set_option maxRecDepth 100000 in
theorem rval_194 (s a p g : Int) (w : World) :
    Calls Try.prog 17 #[.int .u8 194, .int .u32 s, .int .u32 a, .int .u32 p, .int .u32 g] w fun e w' => e = .returned (.tuple #[.int .i32 (fit (-2048) 2048 false (wrap32 (s + a - g))).1, .int .i64 (fit (-2048) 2048 false (wrap32 (s + a - g))).2]) ∧ Drawn0 w w' := by
  go_enter Try.func17, Try.ntmps17
  repeat' (first | (with_reducible refine ex_then ?_) | (with_reducible refine ex_norm ?_) | (with_reducible refine ex_eq ?_) | ((with_reducible refine ex_ne ?_ ?_); exact rfl) | (with_reducible refine ex_thenR ?_) | (with_reducible refine ex_inN ?_) | (with_reducible refine ex_inR ?_) | (go_at_call 38; (first | (with_reducible refine (within_13 _ _ (w32_bd _).1 (w32_bd _).2).mono ?_) | (with_reducible refine (within_21 _ _ (w32_bd _).1 (w32_bd _).2).mono ?_) | (with_reducible refine (within_12 _ _ (w32_bd _).1 (w32_bd _).2).mono ?_)); intro e w' h; obtain ⟨h1, ⟨nq, rfl⟩⟩ := h; subst h1; simp only []) | (go_at_call 39; (first | (with_reducible refine (Near_calls _ _ (w32_bd _).1 (w32_bd _).2).mono ?_)); intro e w' h; obtain ⟨h1, ⟨nq, rfl⟩⟩ := h; subst h1; simp only []) | go_values | go_skip | go_guarded | go_step | go_upon)
  go_ret2
  refine ⟨?_, by repeat (first | exact Drawn0.refl _ | apply Drawn0.step)⟩
  first | rfl | (simp; done) | (simp only [wrap32_mod]; first | rfl | (simp; done)) | (refine congrArg (fun x => Ending.returned (.tuple #[.int .i32 x, .int .i64 0])) ?_; (try simp only [nearV_w]); unfold nearV wrap32; omega)

set_option maxHeartbeats 4000000 in
set_option maxRecDepth 100000 in
theorem rval_no (k s a p g : Int) (w : World) (h0 : (k == 0) = false) (h51 : (k == 51) = false) (h1 : (k == 1) = false) (h16 : (k == 16) = false) (h17 : (k == 17) = false) (h23 : (k == 23) = false) (h26 : (k == 26) = false) (h27 : (k == 27) = false) (h28 : (k == 28) = false) (h193 : (k == 193) = false) (h194 : (k == 194) = false) :
    Calls Try.prog 17 #[.int .u8 k, .int .u32 s, .int .u32 a, .int .u32 p, .int .u32 g] w fun e w' => e = .returned (.tuple #[.int .i32 0, .int .i64 5]) ∧ Drawn0 w w' := by
  go_enter Try.func17, Try.ntmps17
  repeat' (first | (with_reducible refine ex_then ?_) | (with_reducible refine ex_norm ?_) | (with_reducible refine ex_eq ?_) | ((with_reducible refine ex_ne ?_ ?_); exact rfl) | (with_reducible refine ex_thenR ?_) | (with_reducible refine ex_inN ?_) | (with_reducible refine ex_inR ?_) | go_values | go_skip | go_guarded | go_step | go_upon)
  go_ret2
  exact ⟨by first | rfl | simp, by repeat (first | exact Drawn0.refl _ | apply Drawn0.step)⟩
theorem rval_calls (k s a p g : Int) (w : World) :
    Calls Try.prog 17 #[.int .u8 k, .int .u32 s, .int .u32 a, .int .u32 p, .int .u32 g] w fun e w' => e = .returned (.tuple #[.int .i32 (relV k (s + a) p g).1, .int .i64 (relV k (s + a) p g).2]) ∧ Drawn0 w w' := by
  by_cases h0 : k = 0
  · subst h0; exact rval_0 s a p g w
  by_cases h51 : k = 51
  · subst h51; exact rval_51 s a p g w
  by_cases h1 : k = 1
  · subst h1; exact rval_1 s a p g w
  by_cases h16 : k = 16
  · subst h16; exact rval_16 s a p g w
  by_cases h17 : k = 17
  · subst h17; exact rval_17 s a p g w
  by_cases h23 : k = 23
  · subst h23; exact rval_23 s a p g w
  by_cases h26 : k = 26
  · subst h26; exact rval_26 s a p g w
  by_cases h27 : k = 27
  · subst h27; exact rval_27 s a p g w
  by_cases h28 : k = 28
  · subst h28; exact rval_28 s a p g w
  by_cases h193 : k = 193
  · subst h193; exact rval_193 s a p g w
  by_cases h194 : k = 194
  · subst h194; exact rval_194 s a p g w
  have hd : relV k (s + a) p g = (0, 5) := by unfold relV; rw [if_neg h0, if_neg h51, if_neg h1, if_neg h16, if_neg h17, if_neg h23, if_neg h26, if_neg h27, if_neg h28, if_neg h193, if_neg h194]
  rw [hd]
  exact rval_no k s a p g w (by simpa using h0) (by simpa using h51) (by simpa using h1) (by simpa using h16) (by simpa using h17) (by simpa using h23) (by simpa using h26) (by simpa using h27) (by simpa using h28) (by simpa using h193) (by simpa using h194)
/-- Is there such a Kind? -/
def relIs (k : Int) : Bool := decide (k = 0 ∨ k = 1 ∨ k = 16 ∨ k = 17 ∨ k = 23 ∨ k = 24 ∨ k = 25 ∨ k = 26 ∨ k = 27 ∨ k = 28 ∨ k = 51 ∨ k = 193 ∨ k = 194)

set_option maxHeartbeats 4000000 in
set_option maxRecDepth 100000 in
theorem kis_calls (k : Int) (w : World) : Calls Try.prog 18 #[.int .u8 k] w fun e w' => e = .returned (.bool (relIs k)) ∧ Drawn0 w w' := by
  by_cases h0 : k = 0
  · subst h0; go_enter Try.func18, Try.ntmps18; repeat' (first | (with_reducible refine ex_then ?_) | (with_reducible refine ex_norm ?_) | (with_reducible refine ex_eq ?_) | ((with_reducible refine ex_ne ?_ ?_); exact rfl) | (with_reducible refine ex_thenR ?_) | (with_reducible refine ex_inN ?_) | (with_reducible refine ex_inR ?_) | go_values | go_skip | go_guarded | go_step | go_upon)
    go_ret; exact ⟨by first | rfl | simp [relIs], by repeat (first | exact Drawn0.refl _ | apply Drawn0.step)⟩
  by_cases h1 : k = 1
  · subst h1; go_enter Try.func18, Try.ntmps18; repeat' (first | (with_reducible refine ex_then ?_) | (with_reducible refine ex_norm ?_) | (with_reducible refine ex_eq ?_) | ((with_reducible refine ex_ne ?_ ?_); exact rfl) | (with_reducible refine ex_thenR ?_) | (with_reducible refine ex_inN ?_) | (with_reducible refine ex_inR ?_) | go_values | go_skip | go_guarded | go_step | go_upon)
    go_ret; exact ⟨by first | rfl | simp [relIs], by repeat (first | exact Drawn0.refl _ | apply Drawn0.step)⟩
  by_cases h16 : k = 16
  · subst h16; go_enter Try.func18, Try.ntmps18; repeat' (first | (with_reducible refine ex_then ?_) | (with_reducible refine ex_norm ?_) | (with_reducible refine ex_eq ?_) | ((with_reducible refine ex_ne ?_ ?_); exact rfl) | (with_reducible refine ex_thenR ?_) | (with_reducible refine ex_inN ?_) | (with_reducible refine ex_inR ?_) | go_values | go_skip | go_guarded | go_step | go_upon)
    go_ret; exact ⟨by first | rfl | simp [relIs], by repeat (first | exact Drawn0.refl _ | apply Drawn0.step)⟩
  by_cases h17 : k = 17
  · subst h17; go_enter Try.func18, Try.ntmps18; repeat' (first | (with_reducible refine ex_then ?_) | (with_reducible refine ex_norm ?_) | (with_reducible refine ex_eq ?_) | ((with_reducible refine ex_ne ?_ ?_); exact rfl) | (with_reducible refine ex_thenR ?_) | (with_reducible refine ex_inN ?_) | (with_reducible refine ex_inR ?_) | go_values | go_skip | go_guarded | go_step | go_upon)
    go_ret; exact ⟨by first | rfl | simp [relIs], by repeat (first | exact Drawn0.refl _ | apply Drawn0.step)⟩
  by_cases h23 : k = 23
  · subst h23; go_enter Try.func18, Try.ntmps18; repeat' (first | (with_reducible refine ex_then ?_) | (with_reducible refine ex_norm ?_) | (with_reducible refine ex_eq ?_) | ((with_reducible refine ex_ne ?_ ?_); exact rfl) | (with_reducible refine ex_thenR ?_) | (with_reducible refine ex_inN ?_) | (with_reducible refine ex_inR ?_) | go_values | go_skip | go_guarded | go_step | go_upon)
    go_ret; exact ⟨by first | rfl | simp [relIs], by repeat (first | exact Drawn0.refl _ | apply Drawn0.step)⟩
  by_cases h24 : k = 24
  · subst h24; go_enter Try.func18, Try.ntmps18; repeat' (first | (with_reducible refine ex_then ?_) | (with_reducible refine ex_norm ?_) | (with_reducible refine ex_eq ?_) | ((with_reducible refine ex_ne ?_ ?_); exact rfl) | (with_reducible refine ex_thenR ?_) | (with_reducible refine ex_inN ?_) | (with_reducible refine ex_inR ?_) | go_values | go_skip | go_guarded | go_step | go_upon)
    go_ret; exact ⟨by first | rfl | simp [relIs], by repeat (first | exact Drawn0.refl _ | apply Drawn0.step)⟩
  by_cases h25 : k = 25
  · subst h25; go_enter Try.func18, Try.ntmps18; repeat' (first | (with_reducible refine ex_then ?_) | (with_reducible refine ex_norm ?_) | (with_reducible refine ex_eq ?_) | ((with_reducible refine ex_ne ?_ ?_); exact rfl) | (with_reducible refine ex_thenR ?_) | (with_reducible refine ex_inN ?_) | (with_reducible refine ex_inR ?_) | go_values | go_skip | go_guarded | go_step | go_upon)
    go_ret; exact ⟨by first | rfl | simp [relIs], by repeat (first | exact Drawn0.refl _ | apply Drawn0.step)⟩
  by_cases h26 : k = 26
  · subst h26; go_enter Try.func18, Try.ntmps18; repeat' (first | (with_reducible refine ex_then ?_) | (with_reducible refine ex_norm ?_) | (with_reducible refine ex_eq ?_) | ((with_reducible refine ex_ne ?_ ?_); exact rfl) | (with_reducible refine ex_thenR ?_) | (with_reducible refine ex_inN ?_) | (with_reducible refine ex_inR ?_) | go_values | go_skip | go_guarded | go_step | go_upon)
    go_ret; exact ⟨by first | rfl | simp [relIs], by repeat (first | exact Drawn0.refl _ | apply Drawn0.step)⟩
  by_cases h27 : k = 27
  · subst h27; go_enter Try.func18, Try.ntmps18; repeat' (first | (with_reducible refine ex_then ?_) | (with_reducible refine ex_norm ?_) | (with_reducible refine ex_eq ?_) | ((with_reducible refine ex_ne ?_ ?_); exact rfl) | (with_reducible refine ex_thenR ?_) | (with_reducible refine ex_inN ?_) | (with_reducible refine ex_inR ?_) | go_values | go_skip | go_guarded | go_step | go_upon)
    go_ret; exact ⟨by first | rfl | simp [relIs], by repeat (first | exact Drawn0.refl _ | apply Drawn0.step)⟩
  by_cases h28 : k = 28
  · subst h28; go_enter Try.func18, Try.ntmps18; repeat' (first | (with_reducible refine ex_then ?_) | (with_reducible refine ex_norm ?_) | (with_reducible refine ex_eq ?_) | ((with_reducible refine ex_ne ?_ ?_); exact rfl) | (with_reducible refine ex_thenR ?_) | (with_reducible refine ex_inN ?_) | (with_reducible refine ex_inR ?_) | go_values | go_skip | go_guarded | go_step | go_upon)
    go_ret; exact ⟨by first | rfl | simp [relIs], by repeat (first | exact Drawn0.refl _ | apply Drawn0.step)⟩
  by_cases h51 : k = 51
  · subst h51; go_enter Try.func18, Try.ntmps18; repeat' (first | (with_reducible refine ex_then ?_) | (with_reducible refine ex_norm ?_) | (with_reducible refine ex_eq ?_) | ((with_reducible refine ex_ne ?_ ?_); exact rfl) | (with_reducible refine ex_thenR ?_) | (with_reducible refine ex_inN ?_) | (with_reducible refine ex_inR ?_) | go_values | go_skip | go_guarded | go_step | go_upon)
    go_ret; exact ⟨by first | rfl | simp [relIs], by repeat (first | exact Drawn0.refl _ | apply Drawn0.step)⟩
  by_cases h193 : k = 193
  · subst h193; go_enter Try.func18, Try.ntmps18; repeat' (first | (with_reducible refine ex_then ?_) | (with_reducible refine ex_norm ?_) | (with_reducible refine ex_eq ?_) | ((with_reducible refine ex_ne ?_ ?_); exact rfl) | (with_reducible refine ex_thenR ?_) | (with_reducible refine ex_inN ?_) | (with_reducible refine ex_inR ?_) | go_values | go_skip | go_guarded | go_step | go_upon)
    go_ret; exact ⟨by first | rfl | simp [relIs], by repeat (first | exact Drawn0.refl _ | apply Drawn0.step)⟩
  by_cases h194 : k = 194
  · subst h194; go_enter Try.func18, Try.ntmps18; repeat' (first | (with_reducible refine ex_then ?_) | (with_reducible refine ex_norm ?_) | (with_reducible refine ex_eq ?_) | ((with_reducible refine ex_ne ?_ ?_); exact rfl) | (with_reducible refine ex_thenR ?_) | (with_reducible refine ex_inN ?_) | (with_reducible refine ex_inR ?_) | go_values | go_skip | go_guarded | go_step | go_upon)
    go_ret; exact ⟨by first | rfl | simp [relIs], by repeat (first | exact Drawn0.refl _ | apply Drawn0.step)⟩
  have hd : relIs k = false := by unfold relIs; simp only [h0, h1, h16, h17, h23, h24, h25, h26, h27, h28, h51, h193, h194, or_self, decide_false]
  rw [hd]
  clear hd
  have g0 : (k == 0) = false := by simpa using h0
  have g1 : (k == 1) = false := by simpa using h1
  have g16 : (k == 16) = false := by simpa using h16
  have g17 : (k == 17) = false := by simpa using h17
  have g23 : (k == 23) = false := by simpa using h23
  have g24 : (k == 24) = false := by simpa using h24
  have g25 : (k == 25) = false := by simpa using h25
  have g26 : (k == 26) = false := by simpa using h26
  have g27 : (k == 27) = false := by simpa using h27
  have g28 : (k == 28) = false := by simpa using h28
  have g51 : (k == 51) = false := by simpa using h51
  have g193 : (k == 193) = false := by simpa using h193
  have g194 : (k == 194) = false := by simpa using h194
  clear h0 h1 h16 h17 h23 h24 h25 h26 h27 h28 h51 h193 h194
  go_enter Try.func18, Try.ntmps18
  repeat' (first | (with_reducible refine ex_then ?_) | (with_reducible refine ex_norm ?_) | (with_reducible refine ex_eq ?_) | ((with_reducible refine ex_ne ?_ ?_); exact rfl) | (with_reducible refine ex_thenR ?_) | (with_reducible refine ex_inN ?_) | (with_reducible refine ex_inR ?_) | go_values | go_skip | go_guarded | go_step | go_upon)
  go_ret
  exact ⟨by first | rfl | simp, by repeat (first | exact Drawn0.refl _ | apply Drawn0.step)⟩

set_option maxHeartbeats 4000000 in
set_option maxRecDepth 100000 in
theorem rkis_calls (k : Int) (w : World) : Calls Try.prog 19 #[.int .u8 k] w fun e w' => e = .returned (.bool (relIs k)) ∧ Drawn0 w w' := by
  by_cases h0 : k = 0
  · subst h0; go_enter Try.func19, Try.ntmps19; repeat' (first | (with_reducible refine ex_then ?_) | (with_reducible refine ex_norm ?_) | (with_reducible refine ex_eq ?_) | ((with_reducible refine ex_ne ?_ ?_); exact rfl) | (with_reducible refine ex_thenR ?_) | (with_reducible refine ex_inN ?_) | (with_reducible refine ex_inR ?_) | go_values | go_skip | go_guarded | go_step | go_upon)
    go_ret; exact ⟨by first | rfl | simp [relIs], by repeat (first | exact Drawn0.refl _ | apply Drawn0.step)⟩
  by_cases h1 : k = 1
  · subst h1; go_enter Try.func19, Try.ntmps19; repeat' (first | (with_reducible refine ex_then ?_) | (with_reducible refine ex_norm ?_) | (with_reducible refine ex_eq ?_) | ((with_reducible refine ex_ne ?_ ?_); exact rfl) | (with_reducible refine ex_thenR ?_) | (with_reducible refine ex_inN ?_) | (with_reducible refine ex_inR ?_) | go_values | go_skip | go_guarded | go_step | go_upon)
    go_ret; exact ⟨by first | rfl | simp [relIs], by repeat (first | exact Drawn0.refl _ | apply Drawn0.step)⟩
  by_cases h16 : k = 16
  · subst h16; go_enter Try.func19, Try.ntmps19; repeat' (first | (with_reducible refine ex_then ?_) | (with_reducible refine ex_norm ?_) | (with_reducible refine ex_eq ?_) | ((with_reducible refine ex_ne ?_ ?_); exact rfl) | (with_reducible refine ex_thenR ?_) | (with_reducible refine ex_inN ?_) | (with_reducible refine ex_inR ?_) | go_values | go_skip | go_guarded | go_step | go_upon)
    go_ret; exact ⟨by first | rfl | simp [relIs], by repeat (first | exact Drawn0.refl _ | apply Drawn0.step)⟩
  by_cases h17 : k = 17
  · subst h17; go_enter Try.func19, Try.ntmps19; repeat' (first | (with_reducible refine ex_then ?_) | (with_reducible refine ex_norm ?_) | (with_reducible refine ex_eq ?_) | ((with_reducible refine ex_ne ?_ ?_); exact rfl) | (with_reducible refine ex_thenR ?_) | (with_reducible refine ex_inN ?_) | (with_reducible refine ex_inR ?_) | go_values | go_skip | go_guarded | go_step | go_upon)
    go_ret; exact ⟨by first | rfl | simp [relIs], by repeat (first | exact Drawn0.refl _ | apply Drawn0.step)⟩
  by_cases h23 : k = 23
  · subst h23; go_enter Try.func19, Try.ntmps19; repeat' (first | (with_reducible refine ex_then ?_) | (with_reducible refine ex_norm ?_) | (with_reducible refine ex_eq ?_) | ((with_reducible refine ex_ne ?_ ?_); exact rfl) | (with_reducible refine ex_thenR ?_) | (with_reducible refine ex_inN ?_) | (with_reducible refine ex_inR ?_) | go_values | go_skip | go_guarded | go_step | go_upon)
    go_ret; exact ⟨by first | rfl | simp [relIs], by repeat (first | exact Drawn0.refl _ | apply Drawn0.step)⟩
  by_cases h24 : k = 24
  · subst h24; go_enter Try.func19, Try.ntmps19; repeat' (first | (with_reducible refine ex_then ?_) | (with_reducible refine ex_norm ?_) | (with_reducible refine ex_eq ?_) | ((with_reducible refine ex_ne ?_ ?_); exact rfl) | (with_reducible refine ex_thenR ?_) | (with_reducible refine ex_inN ?_) | (with_reducible refine ex_inR ?_) | go_values | go_skip | go_guarded | go_step | go_upon)
    go_ret; exact ⟨by first | rfl | simp [relIs], by repeat (first | exact Drawn0.refl _ | apply Drawn0.step)⟩
  by_cases h25 : k = 25
  · subst h25; go_enter Try.func19, Try.ntmps19; repeat' (first | (with_reducible refine ex_then ?_) | (with_reducible refine ex_norm ?_) | (with_reducible refine ex_eq ?_) | ((with_reducible refine ex_ne ?_ ?_); exact rfl) | (with_reducible refine ex_thenR ?_) | (with_reducible refine ex_inN ?_) | (with_reducible refine ex_inR ?_) | go_values | go_skip | go_guarded | go_step | go_upon)
    go_ret; exact ⟨by first | rfl | simp [relIs], by repeat (first | exact Drawn0.refl _ | apply Drawn0.step)⟩
  by_cases h26 : k = 26
  · subst h26; go_enter Try.func19, Try.ntmps19; repeat' (first | (with_reducible refine ex_then ?_) | (with_reducible refine ex_norm ?_) | (with_reducible refine ex_eq ?_) | ((with_reducible refine ex_ne ?_ ?_); exact rfl) | (with_reducible refine ex_thenR ?_) | (with_reducible refine ex_inN ?_) | (with_reducible refine ex_inR ?_) | go_values | go_skip | go_guarded | go_step | go_upon)
    go_ret; exact ⟨by first | rfl | simp [relIs], by repeat (first | exact Drawn0.refl _ | apply Drawn0.step)⟩
  by_cases h27 : k = 27
  · subst h27; go_enter Try.func19, Try.ntmps19; repeat' (first | (with_reducible refine ex_then ?_) | (with_reducible refine ex_norm ?_) | (with_reducible refine ex_eq ?_) | ((with_reducible refine ex_ne ?_ ?_); exact rfl) | (with_reducible refine ex_thenR ?_) | (with_reducible refine ex_inN ?_) | (with_reducible refine ex_inR ?_) | go_values | go_skip | go_guarded | go_step | go_upon)
    go_ret; exact ⟨by first | rfl | simp [relIs], by repeat (first | exact Drawn0.refl _ | apply Drawn0.step)⟩
  by_cases h28 : k = 28
  · subst h28; go_enter Try.func19, Try.ntmps19; repeat' (first | (with_reducible refine ex_then ?_) | (with_reducible refine ex_norm ?_) | (with_reducible refine ex_eq ?_) | ((with_reducible refine ex_ne ?_ ?_); exact rfl) | (with_reducible refine ex_thenR ?_) | (with_reducible refine ex_inN ?_) | (with_reducible refine ex_inR ?_) | go_values | go_skip | go_guarded | go_step | go_upon)
    go_ret; exact ⟨by first | rfl | simp [relIs], by repeat (first | exact Drawn0.refl _ | apply Drawn0.step)⟩
  by_cases h51 : k = 51
  · subst h51; go_enter Try.func19, Try.ntmps19; repeat' (first | (with_reducible refine ex_then ?_) | (with_reducible refine ex_norm ?_) | (with_reducible refine ex_eq ?_) | ((with_reducible refine ex_ne ?_ ?_); exact rfl) | (with_reducible refine ex_thenR ?_) | (with_reducible refine ex_inN ?_) | (with_reducible refine ex_inR ?_) | go_values | go_skip | go_guarded | go_step | go_upon)
    go_ret; exact ⟨by first | rfl | simp [relIs], by repeat (first | exact Drawn0.refl _ | apply Drawn0.step)⟩
  by_cases h193 : k = 193
  · subst h193; go_enter Try.func19, Try.ntmps19; repeat' (first | (with_reducible refine ex_then ?_) | (with_reducible refine ex_norm ?_) | (with_reducible refine ex_eq ?_) | ((with_reducible refine ex_ne ?_ ?_); exact rfl) | (with_reducible refine ex_thenR ?_) | (with_reducible refine ex_inN ?_) | (with_reducible refine ex_inR ?_) | go_values | go_skip | go_guarded | go_step | go_upon)
    go_ret; exact ⟨by first | rfl | simp [relIs], by repeat (first | exact Drawn0.refl _ | apply Drawn0.step)⟩
  by_cases h194 : k = 194
  · subst h194; go_enter Try.func19, Try.ntmps19; repeat' (first | (with_reducible refine ex_then ?_) | (with_reducible refine ex_norm ?_) | (with_reducible refine ex_eq ?_) | ((with_reducible refine ex_ne ?_ ?_); exact rfl) | (with_reducible refine ex_thenR ?_) | (with_reducible refine ex_inN ?_) | (with_reducible refine ex_inR ?_) | go_values | go_skip | go_guarded | go_step | go_upon)
    go_ret; exact ⟨by first | rfl | simp [relIs], by repeat (first | exact Drawn0.refl _ | apply Drawn0.step)⟩
  have hd : relIs k = false := by unfold relIs; simp only [h0, h1, h16, h17, h23, h24, h25, h26, h27, h28, h51, h193, h194, or_self, decide_false]
  rw [hd]
  clear hd
  have g0 : (k == 0) = false := by simpa using h0
  have g1 : (k == 1) = false := by simpa using h1
  have g16 : (k == 16) = false := by simpa using h16
  have g17 : (k == 17) = false := by simpa using h17
  have g23 : (k == 23) = false := by simpa using h23
  have g24 : (k == 24) = false := by simpa using h24
  have g25 : (k == 25) = false := by simpa using h25
  have g26 : (k == 26) = false := by simpa using h26
  have g27 : (k == 27) = false := by simpa using h27
  have g28 : (k == 28) = false := by simpa using h28
  have g51 : (k == 51) = false := by simpa using h51
  have g193 : (k == 193) = false := by simpa using h193
  have g194 : (k == 194) = false := by simpa using h194
  clear h0 h1 h16 h17 h23 h24 h25 h26 h27 h28 h51 h193 h194
  go_enter Try.func19, Try.ntmps19
  repeat' (first | (with_reducible refine ex_then ?_) | (with_reducible refine ex_norm ?_) | (with_reducible refine ex_eq ?_) | ((with_reducible refine ex_ne ?_ ?_); exact rfl) | (with_reducible refine ex_thenR ?_) | (with_reducible refine ex_inN ?_) | (with_reducible refine ex_inR ?_) | go_values | go_skip | go_guarded | go_step | go_upon)
  go_ret
  exact ⟨by first | rfl | simp, by repeat (first | exact Drawn0.refl _ | apply Drawn0.step)⟩
theorem wk_0 (w : World) : Calls Try.prog 15 #[.int .u8 26, .int .u32 2048, .int .u32 0, .int .u32 0, .int .u32 0] w fun e w' => e = .returned (.tuple #[.int .i32 (4096), .int .i64 0]) ∧ Drawn0 w w' := by
  have h := val_calls 26 2048 0 0 0 w
  rw [show relV 26 (2048 + 0) 0 0 = (4096, 0) from by decide +kernel] at h
  exact h
theorem wk_1 (w : World) : Calls Try.prog 15 #[.int .u8 27, .int .u32 2048, .int .u32 0, .int .u32 0, .int .u32 0] w fun e w' => e = .returned (.tuple #[.int .i32 (-2048), .int .i64 0]) ∧ Drawn0 w w' := by
  have h := val_calls 27 2048 0 0 0 w
  rw [show relV 27 (2048 + 0) 0 0 = (-2048, 0) from by decide +kernel] at h
  exact h
theorem wk_2 (w : World) : Calls Try.prog 15 #[.int .u8 16, .int .u32 8, .int .u32 0, .int .u32 0, .int .u32 0] w fun e w' => e = .returned (.tuple #[.int .i32 (8), .int .i64 0]) ∧ Drawn0 w w' := by
  have h := val_calls 16 8 0 0 0 w
  rw [show relV 16 (8 + 0) 0 0 = (8, 0) from by decide +kernel] at h
  exact h
theorem wk_3 (w : World) : Calls Try.prog 15 #[.int .u8 16, .int .u32 8, .int .u32 1, .int .u32 0, .int .u32 0] w fun e w' => e = .returned (.tuple #[.int .i32 (0), .int .i64 3]) ∧ Drawn0 w w' := by
  have h := val_calls 16 8 1 0 0 w
  rw [show relV 16 (8 + 1) 0 0 = (0, 3) from by decide +kernel] at h
  exact h
theorem wk_4 (w : World) : Calls Try.prog 15 #[.int .u8 1, .int .u32 5, .int .u32 6, .int .u32 7, .int .u32 8] w fun e w' => e = .returned (.tuple #[.int .i32 (11), .int .i64 0]) ∧ Drawn0 w w' := by
  have h := val_calls 1 5 6 7 8 w
  rw [show relV 1 (5 + 6) 7 8 = (11, 0) from by decide +kernel] at h
  exact h
theorem wk_5 (w : World) : Calls Try.prog 15 #[.int .u8 193, .int .u32 4096, .int .u32 0, .int .u32 0, .int .u32 4090] w fun e w' => e = .returned (.tuple #[.int .i32 (6), .int .i64 0]) ∧ Drawn0 w w' := by
  have h := val_calls 193 4096 0 0 4090 w
  rw [show relV 193 (4096 + 0) 0 4090 = (6, 0) from by decide +kernel] at h
  exact h

set_option maxHeartbeats 4000000 in
set_option maxRecDepth 100000 in
theorem works_calls (w : World) : Calls Try.prog 16 #[] w fun e w' => e = .returned (.bool true) ∧ Drawn0 w w' := by
  go_enter Try.func16, Try.ntmps16
  repeat' (first | (with_reducible refine ex_then ?_) | (with_reducible refine ex_norm ?_) | (with_reducible refine ex_eq ?_) | ((with_reducible refine ex_ne ?_ ?_); exact rfl) | (with_reducible refine ex_thenR ?_) | (with_reducible refine ex_inN ?_) | (with_reducible refine ex_inR ?_) | (go_at_call 15; (first | (with_reducible refine (wk_0 _).mono ?_) | (with_reducible refine (wk_1 _).mono ?_) | (with_reducible refine (wk_2 _).mono ?_) | (with_reducible refine (wk_3 _).mono ?_) | (with_reducible refine (wk_4 _).mono ?_) | (with_reducible refine (wk_5 _).mono ?_)); intro e w' h; obtain ⟨h1, ⟨nq, rfl⟩⟩ := h; subst h1; simp only []) | go_values | go_skip | go_guarded | go_step | go_upon)
  go_ret
  exact ⟨by first | rfl | simp, by repeat (first | exact Drawn0.refl _ | apply Drawn0.step)⟩
set_option maxHeartbeats 4000000 in
set_option maxRecDepth 100000 in
theorem relocValues_walk (k s a p g : Int) (w : World) (w0 : (Lit.int .u8 k).wf = true) (w1 : (Lit.int .u32 s).wf = true) (w2 : (Lit.int .u32 a).wf = true) (w3 : (Lit.int .u32 p).wf = true) (w4 : (Lit.int .u32 g).wf = true) :
    Calls Try.prog 4 #[.int .u8 k, .int .u32 s, .int .u32 a, .int .u32 p, .int .u32 g] w fun e w' => e = .returned (.bool true) ∧ Below w.heap.size w w' := by
  refine Calls.mono ?_ (fun e w' h => ⟨h.1, h.2.below⟩ : ∀ e w', (e = .returned (.bool true) ∧ Drawn0 w w') → _)
  clear w0 w1 w2 w3 w4
  have C1 : ∀ w, Calls Try.prog 15 #[.int .u8 k, .int .u32 s, .int .u32 a, .int .u32 p, .int .u32 g] w fun e w' => e = .returned (.tuple #[.int .i32 (relV k (s + a) p g).1, .int .i64 (relV k (s + a) p g).2]) ∧ Drawn0 w w' := fun w => val_calls k s a p g w
  have C2 : ∀ w, Calls Try.prog 17 #[.int .u8 k, .int .u32 s, .int .u32 a, .int .u32 p, .int .u32 g] w fun e w' => e = .returned (.tuple #[.int .i32 (relV k (s + a) p g).1, .int .i64 (relV k (s + a) p g).2]) ∧ Drawn0 w w' := fun w => rval_calls k s a p g w
  have C3 : ∀ w, Calls Try.prog 18 #[.int .u8 k] w fun e w' => e = .returned (.bool (relIs k)) ∧ Drawn0 w w' := fun w => kis_calls k w
  have C4 : ∀ w, Calls Try.prog 19 #[.int .u8 k] w fun e w' => e = .returned (.bool (relIs k)) ∧ Drawn0 w w' := fun w => rkis_calls k w
  generalize (relV k (s + a) p g).1 = d1 at *
  generalize (relV k (s + a) p g).2 = d2 at *
  generalize relIs k = i1 at *
  have G1 := Aside0.mk C1; have G2 := Aside0.mk C2; have G3 := Aside0.mk C3; have G4 := Aside0.mk C4
  clear C1 C2 C3 C4
  cases i1
  all_goals
    go_enter Try.func4, Try.ntmps4
    repeat' (first | (with_reducible refine ex_then ?_) | (with_reducible refine ex_norm ?_) | (with_reducible refine ex_eq ?_) | ((with_reducible refine ex_ne ?_ ?_); exact rfl) | (with_reducible refine ex_thenR ?_) | (with_reducible refine ex_inN ?_) | (with_reducible refine ex_inR ?_) | (go_at_call 15; (first | (with_reducible refine (G1.out _).mono ?_)); intro e w' h; obtain ⟨h1, ⟨nq, rfl⟩⟩ := h; subst h1; simp only []) | (go_at_call 17; (first | (with_reducible refine (G2.out _).mono ?_)); intro e w' h; obtain ⟨h1, ⟨nq, rfl⟩⟩ := h; subst h1; simp only []) | (go_at_call 18; (first | (with_reducible refine (G3.out _).mono ?_)); intro e w' h; obtain ⟨h1, ⟨nq, rfl⟩⟩ := h; subst h1; simp only []) | (go_at_call 19; (first | (with_reducible refine (G4.out _).mono ?_)); intro e w' h; obtain ⟨h1, ⟨nq, rfl⟩⟩ := h; subst h1; simp only []) | (go_at_call 16; (first | (with_reducible refine (works_calls _).mono ?_)); intro e w' h; obtain ⟨h1, ⟨nq, rfl⟩⟩ := h; subst h1; simp only []) | go_values | go_skip | go_guarded | go_step | go_upon)
    go_ret
    exact ⟨by first | rfl | simp, by repeat (first | exact Drawn0.refl _ | apply Drawn0.step)⟩
end Go.Proofs.Ythkbjoglhfclmaa.Rel
