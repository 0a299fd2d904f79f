/- The reference's Do and Is say what the package alu's say; the walk of the law AluDoes. No condition. -/
import Derived.Test.YthkbjoglhfclmaaQAluG
namespace Go.Proofs.Ythkbjoglhfclmaa.Alu
open Go.RowKit Go.Proofs.YthkbjoglhfclmaaW.PrintWords Go.Proofs.YthkbjoglhfclmaaW.PrintLast Go.Proofs.YthkbjoglhfclmaaW.PrintMore
set_option linter.unusedVariables false
set_option linter.unusedSimpArgs false
theorem bw_is (how : Nat) (a b x : Nat) (h : ∀ k, x.testBit k = bwc how (a.testBit k) (b.testBit k)) (k : Nat) : bw how a b k = x % 2 ^ k := by
  induction k with
  | zero => simp [bw, Nat.mod_one]
  | succ k ih =>
    have hk := h k
    rw [Nat.testBit_eq_decide_div_mod_eq] at hk
    rw [Nat.pow_succ, Nat.mod_mul, ← ih]
    simp only [bw]
    rw [← hk]
    have h2 : x / 2 ^ k % 2 < 2 := Nat.mod_lt _ (by decide)
    by_cases g : x / 2 ^ k % 2 = 1
    · simp [g]
    · have g0 : x / 2 ^ k % 2 = 0 := by omega
      simp [g0]
theorem u32w (n : Int) (h0 : 0 ≤ n) (h1 : n < 2 ^ 32) : IntKind.u32.wrap n = n := by rw [IntKind.wrap_u32]; omega
theorem bw_and (a b : Nat) (ha : a < 4294967296) (hb : b < 4294967296) : Go.bits .and .u32 (a : Int) b = (bw 0 a b 32 : Nat) := by
  rw [(bits_nat .u32 32 (by decide) u32w a b ha hb).1, bw_is 0 a b (a &&& b) (fun k => by simp [bwc]) 32, Nat.mod_eq_of_lt (Nat.and_lt_two_pow _ hb)]
theorem bw_or (a b : Nat) (ha : a < 4294967296) (hb : b < 4294967296) : Go.bits .or .u32 (a : Int) b = (bw 1 a b 32 : Nat) := by
  rw [(bits_nat .u32 32 (by decide) u32w a b ha hb).2, bw_is 1 a b (a ||| b) (fun k => by simp [bwc]) 32, Nat.mod_eq_of_lt (Nat.or_lt_two_pow ha hb)]
theorem bw_xor (a b : Nat) (ha : a < 4294967296) (hb : b < 4294967296) : Go.bits .xor .u32 (a : Int) b = (bw 2 a b 32 : Nat) := by
  have e : (BitVec.ofInt 32 (a : Int) ^^^ BitVec.ofInt 32 (b : Int)).toNat = a ^^^ b := by
    rw [BitVec.toNat_xor, BitVec.ofInt_natCast, BitVec.ofInt_natCast, BitVec.toNat_ofNat, BitVec.toNat_ofNat, Nat.mod_eq_of_lt ha, Nat.mod_eq_of_lt hb]
  show IntKind.u32.wrap ((BitVec.ofInt 32 (a : Int) ^^^ BitVec.ofInt 32 (b : Int)).toNat) = _
  have hx : a ^^^ b < 2 ^ 32 := Nat.xor_lt_two_pow ha hb
  rw [e, u32w _ (by omega) (by exact_mod_cast hx), bw_is 2 a b (a ^^^ b) (fun k => by cases ha : a.testBit k <;> cases hb : b.testBit k <;> simp [bwc, ha, hb]) 32, Nat.mod_eq_of_lt hx]
theorem bitwise_calls0 (a b : Int) (w : World) (ha : 0 ≤ a) (ha' : a < 4294967296) (hb : 0 ≤ b) (hb' : b < 4294967296) :
    Calls Try.prog 43 #[.int .u32 a, .int .u32 b, .int .i64 0] w fun e w' => e = .returned (.int .u32 (Go.bits .and .u32 a b)) ∧ Drawn0 w w' := by
  obtain ⟨x, rfl⟩ := Int.eq_ofNat_of_zero_le ha
  obtain ⟨y, rfl⟩ := Int.eq_ofNat_of_zero_le hb
  rw [bw_and x y (by omega) (by omega)]; exact bitwise0_calls x y w (by omega) (by omega)
theorem bitwise_calls1 (a b : Int) (w : World) (ha : 0 ≤ a) (ha' : a < 4294967296) (hb : 0 ≤ b) (hb' : b < 4294967296) :
    Calls Try.prog 43 #[.int .u32 a, .int .u32 b, .int .i64 1] w fun e w' => e = .returned (.int .u32 (Go.bits .or .u32 a b)) ∧ Drawn0 w w' := by
  obtain ⟨x, rfl⟩ := Int.eq_ofNat_of_zero_le ha
  obtain ⟨y, rfl⟩ := Int.eq_ofNat_of_zero_le hb
  rw [bw_or x y (by omega) (by omega)]; exact bitwise1_calls x y w (by omega) (by omega)
theorem bitwise_calls2 (a b : Int) (w : World) (ha : 0 ≤ a) (ha' : a < 4294967296) (hb : 0 ≤ b) (hb' : b < 4294967296) :
    Calls Try.prog 43 #[.int .u32 a, .int .u32 b, .int .i64 2] w fun e w' => e = .returned (.int .u32 (Go.bits .xor .u32 a b)) ∧ Drawn0 w w' := by
  obtain ⟨x, rfl⟩ := Int.eq_ofNat_of_zero_le ha
  obtain ⟨y, rfl⟩ := Int.eq_ofNat_of_zero_le hb
  rw [bw_xor x y (by omega) (by omega)]; exact bitwise2_calls x y w (by omega) (by omega)

set_option maxHeartbeats 4000000 in
set_option maxRecDepth 100000 in
theorem ref_31 (a b : Int) (w : World) (ha : 0 ≤ a) (ha' : a < 4294967296) (hb : 0 ≤ b) (hb' : b < 4294967296) :
    Calls Try.prog 21 #[.int .u8 31, .int .u32 a, .int .u32 b] w fun e w' => e = .returned (.tuple #[.int .u32 ((a - b) % 4294967296), .int .i64 0]) ∧ Drawn0 w w' := by
  have xa := w32_bd a
  have xb := w32_bd b
  obtain ⟨x, hx⟩ : ∃ x, wrap32 a = x := ⟨_, rfl⟩
  obtain ⟨y, hy⟩ : ∃ y, wrap32 b = y := ⟨_, rfl⟩
  rw [hx] at xa
  rw [hy] at xb
  obtain ⟨xa0, xa1⟩ := xa
  obtain ⟨xb0, xb1⟩ := xb
  have HX := Aside0.mk hx
  have HY := Aside0.mk hy
  have WA : ∀ w, Calls Try.prog 42 #[.int .u32 a] w fun e w' => e = .returned (.int .i64 x) ∧ Drawn0 w w' := fun w => by rw [← hx]; exact worth_calls a w ha ha'
  have WB : ∀ w, Calls Try.prog 42 #[.int .u32 b] w fun e w' => e = .returned (.int .i64 y) ∧ Drawn0 w w' := fun w => by rw [← hy]; exact worth_calls b w hb hb'
  have GA := Aside0.mk WA
  have GB := Aside0.mk WB
  clear hx hy WA WB
  go_enter Try.func21, Try.ntmps21
  repeat' (first | (with_reducible refine ex_then ?_) | (with_reducible refine ex_norm ?_) | (with_reducible refine ex_eq ?_) | ((with_reducible refine ex_ne ?_ ?_); exact rfl) | (with_reducible refine ex_thenR ?_) | (with_reducible refine ex_inN ?_) | (with_reducible refine ex_inR ?_) | (go_at_call 42; (first | (with_reducible refine (GA.out _).mono ?_) | (with_reducible refine (GB.out _).mono ?_)); intro e w' h; obtain ⟨h1, ⟨nq, rfl⟩⟩ := h; subst h1; simp only []) | go_values | go_skip | go_guarded | go_step | go_upon)
  go_ret2
  have e : (x - y - (a - b)) % 4294967296 = 0 := by have := HX.out; have := HY.out; unfold wrap32 at *; omega
  exact ⟨by rw [show (a - b) % 4294967296 = (x - y) % 4294967296 from by omega]; first | rfl | simp, by repeat (first | exact Drawn0.refl _ | apply Drawn0.step)⟩

set_option maxHeartbeats 4000000 in
set_option maxRecDepth 100000 in
theorem ref_30 (a b : Int) (w : World) (ha : 0 ≤ a) (ha' : a < 4294967296) (hb : 0 ≤ b) (hb' : b < 4294967296) :
    Calls Try.prog 21 #[.int .u8 30, .int .u32 a, .int .u32 b] w fun e w' => e = .returned (.tuple #[.int .u32 ((a + b) % 4294967296), .int .i64 0]) ∧ Drawn0 w w' := by
  have xa := w32_bd a
  have xb := w32_bd b
  obtain ⟨x, hx⟩ : ∃ x, wrap32 a = x := ⟨_, rfl⟩
  obtain ⟨y, hy⟩ : ∃ y, wrap32 b = y := ⟨_, rfl⟩
  rw [hx] at xa
  rw [hy] at xb
  obtain ⟨xa0, xa1⟩ := xa
  obtain ⟨xb0, xb1⟩ := xb
  have HX := Aside0.mk hx
  have HY := Aside0.mk hy
  have WA : ∀ w, Calls Try.prog 42 #[.int .u32 a] w fun e w' => e = .returned (.int .i64 x) ∧ Drawn0 w w' := fun w => by rw [← hx]; exact worth_calls a w ha ha'
  have WB : ∀ w, Calls Try.prog 42 #[.int .u32 b] w fun e w' => e = .returned (.int .i64 y) ∧ Drawn0 w w' := fun w => by rw [← hy]; exact worth_calls b w hb hb'
  have GA := Aside0.mk WA
  have GB := Aside0.mk WB
  clear hx hy WA WB
  go_enter Try.func21, Try.ntmps21
  repeat' (first | (with_reducible refine ex_then ?_) | (with_reducible refine ex_norm ?_) | (with_reducible refine ex_eq ?_) | ((with_reducible refine ex_ne ?_ ?_); exact rfl) | (with_reducible refine ex_thenR ?_) | (with_reducible refine ex_inN ?_) | (with_reducible refine ex_inR ?_) | (go_at_call 42; (first | (with_reducible refine (GA.out _).mono ?_) | (with_reducible refine (GB.out _).mono ?_)); intro e w' h; obtain ⟨h1, ⟨nq, rfl⟩⟩ := h; subst h1; simp only []) | go_values | go_skip | go_guarded | go_step | go_upon)
  go_ret2
  have e : (x + y - (a + b)) % 4294967296 = 0 := by have := HX.out; have := HY.out; unfold wrap32 at *; omega
  exact ⟨by rw [show (a + b) % 4294967296 = (x + y) % 4294967296 from by omega]; first | rfl | simp, by repeat (first | exact Drawn0.refl _ | apply Drawn0.step)⟩

set_option maxHeartbeats 4000000 in
set_option maxRecDepth 100000 in
theorem ref_21 (a b : Int) (w : World) (ha : 0 ≤ a) (ha' : a < 4294967296) (hb : 0 ≤ b) (hb' : b < 4294967296) :
    Calls Try.prog 21 #[.int .u8 21, .int .u32 a, .int .u32 b] w fun e w' => e = .returned (.tuple #[.int .u32 ((a + b) % 4294967296), .int .i64 0]) ∧ Drawn0 w w' := by
  have xa := w32_bd a
  have xb := w32_bd b
  obtain ⟨x, hx⟩ : ∃ x, wrap32 a = x := ⟨_, rfl⟩
  obtain ⟨y, hy⟩ : ∃ y, wrap32 b = y := ⟨_, rfl⟩
  rw [hx] at xa
  rw [hy] at xb
  obtain ⟨xa0, xa1⟩ := xa
  obtain ⟨xb0, xb1⟩ := xb
  have HX := Aside0.mk hx
  have HY := Aside0.mk hy
  have WA : ∀ w, Calls Try.prog 42 #[.int .u32 a] w fun e w' => e = .returned (.int .i64 x) ∧ Drawn0 w w' := fun w => by rw [← hx]; exact worth_calls a w ha ha'
  have WB : ∀ w, Calls Try.prog 42 #[.int .u32 b] w fun e w' => e = .returned (.int .i64 y) ∧ Drawn0 w w' := fun w => by rw [← hy]; exact worth_calls b w hb hb'
  have GA := Aside0.mk WA
  have GB := Aside0.mk WB
  clear hx hy WA WB
  go_enter Try.func21, Try.ntmps21
  repeat' (first | (with_reducible refine ex_then ?_) | (with_reducible refine ex_norm ?_) | (with_reducible refine ex_eq ?_) | ((with_reducible refine ex_ne ?_ ?_); exact rfl) | (with_reducible refine ex_thenR ?_) | (with_reducible refine ex_inN ?_) | (with_reducible refine ex_inR ?_) | (go_at_call 42; (first | (with_reducible refine (GA.out _).mono ?_) | (with_reducible refine (GB.out _).mono ?_)); intro e w' h; obtain ⟨h1, ⟨nq, rfl⟩⟩ := h; subst h1; simp only []) | go_values | go_skip | go_guarded | go_step | go_upon)
  go_ret2
  have e : (x + y - (a + b)) % 4294967296 = 0 := by have := HX.out; have := HY.out; unfold wrap32 at *; omega
  exact ⟨by rw [show (a + b) % 4294967296 = (x + y) % 4294967296 from by omega]; first | rfl | simp, by repeat (first | exact Drawn0.refl _ | apply Drawn0.step)⟩

set_option maxHeartbeats 4000000 in
set_option maxRecDepth 100000 in
theorem ref_39 (a b : Int) (w : World) (ha : 0 ≤ a) (ha' : a < 4294967296) (hb : 0 ≤ b) (hb' : b < 4294967296) :
    Calls Try.prog 21 #[.int .u8 39, .int .u32 a, .int .u32 b] w fun e w' => e = .returned (.tuple #[.int .u32 (Go.bits .and .u32 a b), .int .i64 0]) ∧ Drawn0 w w' := by
  have xa := w32_bd a
  have xb := w32_bd b
  obtain ⟨x, hx⟩ : ∃ x, wrap32 a = x := ⟨_, rfl⟩
  obtain ⟨y, hy⟩ : ∃ y, wrap32 b = y := ⟨_, rfl⟩
  rw [hx] at xa
  rw [hy] at xb
  obtain ⟨xa0, xa1⟩ := xa
  obtain ⟨xb0, xb1⟩ := xb
  have HX := Aside0.mk hx
  have HY := Aside0.mk hy
  have WA : ∀ w, Calls Try.prog 42 #[.int .u32 a] w fun e w' => e = .returned (.int .i64 x) ∧ Drawn0 w w' := fun w => by rw [← hx]; exact worth_calls a w ha ha'
  have WB : ∀ w, Calls Try.prog 42 #[.int .u32 b] w fun e w' => e = .returned (.int .i64 y) ∧ Drawn0 w w' := fun w => by rw [← hy]; exact worth_calls b w hb hb'
  have GA := Aside0.mk WA
  have GB := Aside0.mk WB
  clear hx hy WA WB
  go_enter Try.func21, Try.ntmps21
  repeat' (first | (with_reducible refine ex_then ?_) | (with_reducible refine ex_norm ?_) | (with_reducible refine ex_eq ?_) | ((with_reducible refine ex_ne ?_ ?_); exact rfl) | (with_reducible refine ex_thenR ?_) | (with_reducible refine ex_inN ?_) | (with_reducible refine ex_inR ?_) | (go_at_call 42; (first | (with_reducible refine (GA.out _).mono ?_) | (with_reducible refine (GB.out _).mono ?_)); intro e w' h; obtain ⟨h1, ⟨nq, rfl⟩⟩ := h; subst h1; simp only []) | (go_at_call 43; (first | (with_reducible refine (bitwise_calls0 a b _ ha ha' hb hb').mono ?_)); intro e w' h; obtain ⟨h1, ⟨nq, rfl⟩⟩ := h; subst h1; simp only []) | go_values | go_skip | go_guarded | go_step | go_upon)
  go_ret2
  exact ⟨by first | rfl | simp, by repeat (first | exact Drawn0.refl _ | apply Drawn0.step)⟩

set_option maxHeartbeats 4000000 in
set_option maxRecDepth 100000 in
theorem ref_26 (a b : Int) (w : World) (ha : 0 ≤ a) (ha' : a < 4294967296) (hb : 0 ≤ b) (hb' : b < 4294967296) :
    Calls Try.prog 21 #[.int .u8 26, .int .u32 a, .int .u32 b] w fun e w' => e = .returned (.tuple #[.int .u32 (Go.bits .and .u32 a b), .int .i64 0]) ∧ Drawn0 w w' := by
  have xa := w32_bd a
  have xb := w32_bd b
  obtain ⟨x, hx⟩ : ∃ x, wrap32 a = x := ⟨_, rfl⟩
  obtain ⟨y, hy⟩ : ∃ y, wrap32 b = y := ⟨_, rfl⟩
  rw [hx] at xa
  rw [hy] at xb
  obtain ⟨xa0, xa1⟩ := xa
  obtain ⟨xb0, xb1⟩ := xb
  have HX := Aside0.mk hx
  have HY := Aside0.mk hy
  have WA : ∀ w, Calls Try.prog 42 #[.int .u32 a] w fun e w' => e = .returned (.int .i64 x) ∧ Drawn0 w w' := fun w => by rw [← hx]; exact worth_calls a w ha ha'
  have WB : ∀ w, Calls Try.prog 42 #[.int .u32 b] w fun e w' => e = .returned (.int .i64 y) ∧ Drawn0 w w' := fun w => by rw [← hy]; exact worth_calls b w hb hb'
  have GA := Aside0.mk WA
  have GB := Aside0.mk WB
  clear hx hy WA WB
  go_enter Try.func21, Try.ntmps21
  repeat' (first | (with_reducible refine ex_then ?_) | (with_reducible refine ex_norm ?_) | (with_reducible refine ex_eq ?_) | ((with_reducible refine ex_ne ?_ ?_); exact rfl) | (with_reducible refine ex_thenR ?_) | (with_reducible refine ex_inN ?_) | (with_reducible refine ex_inR ?_) | (go_at_call 42; (first | (with_reducible refine (GA.out _).mono ?_) | (with_reducible refine (GB.out _).mono ?_)); intro e w' h; obtain ⟨h1, ⟨nq, rfl⟩⟩ := h; subst h1; simp only []) | (go_at_call 43; (first | (with_reducible refine (bitwise_calls0 a b _ ha ha' hb hb').mono ?_)); intro e w' h; obtain ⟨h1, ⟨nq, rfl⟩⟩ := h; subst h1; simp only []) | go_values | go_skip | go_guarded | go_step | go_upon)
  go_ret2
  exact ⟨by first | rfl | simp, by repeat (first | exact Drawn0.refl _ | apply Drawn0.step)⟩

set_option maxHeartbeats 4000000 in
set_option maxRecDepth 100000 in
theorem ref_38 (a b : Int) (w : World) (ha : 0 ≤ a) (ha' : a < 4294967296) (hb : 0 ≤ b) (hb' : b < 4294967296) :
    Calls Try.prog 21 #[.int .u8 38, .int .u32 a, .int .u32 b] w fun e w' => e = .returned (.tuple #[.int .u32 (Go.bits .or .u32 a b), .int .i64 0]) ∧ Drawn0 w w' := by
  have xa := w32_bd a
  have xb := w32_bd b
  obtain ⟨x, hx⟩ : ∃ x, wrap32 a = x := ⟨_, rfl⟩
  obtain ⟨y, hy⟩ : ∃ y, wrap32 b = y := ⟨_, rfl⟩
  rw [hx] at xa
  rw [hy] at xb
  obtain ⟨xa0, xa1⟩ := xa
  obtain ⟨xb0, xb1⟩ := xb
  have HX := Aside0.mk hx
  have HY := Aside0.mk hy
  have WA : ∀ w, Calls Try.prog 42 #[.int .u32 a] w fun e w' => e = .returned (.int .i64 x) ∧ Drawn0 w w' := fun w => by rw [← hx]; exact worth_calls a w ha ha'
  have WB : ∀ w, Calls Try.prog 42 #[.int .u32 b] w fun e w' => e = .returned (.int .i64 y) ∧ Drawn0 w w' := fun w => by rw [← hy]; exact worth_calls b w hb hb'
  have GA := Aside0.mk WA
  have GB := Aside0.mk WB
  clear hx hy WA WB
  go_enter Try.func21, Try.ntmps21
  repeat' (first | (with_reducible refine ex_then ?_) | (with_reducible refine ex_norm ?_) | (with_reducible refine ex_eq ?_) | ((with_reducible refine ex_ne ?_ ?_); exact rfl) | (with_reducible refine ex_thenR ?_) | (with_reducible refine ex_inN ?_) | (with_reducible refine ex_inR ?_) | (go_at_call 42; (first | (with_reducible refine (GA.out _).mono ?_) | (with_reducible refine (GB.out _).mono ?_)); intro e w' h; obtain ⟨h1, ⟨nq, rfl⟩⟩ := h; subst h1; simp only []) | (go_at_call 43; (first | (with_reducible refine (bitwise_calls1 a b _ ha ha' hb hb').mono ?_)); intro e w' h; obtain ⟨h1, ⟨nq, rfl⟩⟩ := h; subst h1; simp only []) | go_values | go_skip | go_guarded | go_step | go_upon)
  go_ret2
  exact ⟨by first | rfl | simp, by repeat (first | exact Drawn0.refl _ | apply Drawn0.step)⟩

set_option maxHeartbeats 4000000 in
set_option maxRecDepth 100000 in
theorem ref_25 (a b : Int) (w : World) (ha : 0 ≤ a) (ha' : a < 4294967296) (hb : 0 ≤ b) (hb' : b < 4294967296) :
    Calls Try.prog 21 #[.int .u8 25, .int .u32 a, .int .u32 b] w fun e w' => e = .returned (.tuple #[.int .u32 (Go.bits .or .u32 a b), .int .i64 0]) ∧ Drawn0 w w' := by
  have xa := w32_bd a
  have xb := w32_bd b
  obtain ⟨x, hx⟩ : ∃ x, wrap32 a = x := ⟨_, rfl⟩
  obtain ⟨y, hy⟩ : ∃ y, wrap32 b = y := ⟨_, rfl⟩
  rw [hx] at xa
  rw [hy] at xb
  obtain ⟨xa0, xa1⟩ := xa
  obtain ⟨xb0, xb1⟩ := xb
  have HX := Aside0.mk hx
  have HY := Aside0.mk hy
  have WA : ∀ w, Calls Try.prog 42 #[.int .u32 a] w fun e w' => e = .returned (.int .i64 x) ∧ Drawn0 w w' := fun w => by rw [← hx]; exact worth_calls a w ha ha'
  have WB : ∀ w, Calls Try.prog 42 #[.int .u32 b] w fun e w' => e = .returned (.int .i64 y) ∧ Drawn0 w w' := fun w => by rw [← hy]; exact worth_calls b w hb hb'
  have GA := Aside0.mk WA
  have GB := Aside0.mk WB
  clear hx hy WA WB
  go_enter Try.func21, Try.ntmps21
  repeat' (first | (with_reducible refine ex_then ?_) | (with_reducible refine ex_norm ?_) | (with_reducible refine ex_eq ?_) | ((with_reducible refine ex_ne ?_ ?_); exact rfl) | (with_reducible refine ex_thenR ?_) | (with_reducible refine ex_inN ?_) | (with_reducible refine ex_inR ?_) | (go_at_call 42; (first | (with_reducible refine (GA.out _).mono ?_) | (with_reducible refine (GB.out _).mono ?_)); intro e w' h; obtain ⟨h1, ⟨nq, rfl⟩⟩ := h; subst h1; simp only []) | (go_at_call 43; (first | (with_reducible refine (bitwise_calls1 a b _ ha ha' hb hb').mono ?_)); intro e w' h; obtain ⟨h1, ⟨nq, rfl⟩⟩ := h; subst h1; simp only []) | go_values | go_skip | go_guarded | go_step | go_upon)
  go_ret2
  exact ⟨by first | rfl | simp, by repeat (first | exact Drawn0.refl _ | apply Drawn0.step)⟩

set_option maxHeartbeats 4000000 in
set_option maxRecDepth 100000 in
theorem ref_35 (a b : Int) (w : World) (ha : 0 ≤ a) (ha' : a < 4294967296) (hb : 0 ≤ b) (hb' : b < 4294967296) :
    Calls Try.prog 21 #[.int .u8 35, .int .u32 a, .int .u32 b] w fun e w' => e = .returned (.tuple #[.int .u32 (Go.bits .xor .u32 a b), .int .i64 0]) ∧ Drawn0 w w' := by
  have xa := w32_bd a
  have xb := w32_bd b
  obtain ⟨x, hx⟩ : ∃ x, wrap32 a = x := ⟨_, rfl⟩
  obtain ⟨y, hy⟩ : ∃ y, wrap32 b = y := ⟨_, rfl⟩
  rw [hx] at xa
  rw [hy] at xb
  obtain ⟨xa0, xa1⟩ := xa
  obtain ⟨xb0, xb1⟩ := xb
  have HX := Aside0.mk hx
  have HY := Aside0.mk hy
  have WA : ∀ w, Calls Try.prog 42 #[.int .u32 a] w fun e w' => e = .returned (.int .i64 x) ∧ Drawn0 w w' := fun w => by rw [← hx]; exact worth_calls a w ha ha'
  have WB : ∀ w, Calls Try.prog 42 #[.int .u32 b] w fun e w' => e = .returned (.int .i64 y) ∧ Drawn0 w w' := fun w => by rw [← hy]; exact worth_calls b w hb hb'
  have GA := Aside0.mk WA
  have GB := Aside0.mk WB
  clear hx hy WA WB
  go_enter Try.func21, Try.ntmps21
  repeat' (first | (with_reducible refine ex_then ?_) | (with_reducible refine ex_norm ?_) | (with_reducible refine ex_eq ?_) | ((with_reducible refine ex_ne ?_ ?_); exact rfl) | (with_reducible refine ex_thenR ?_) | (with_reducible refine ex_inN ?_) | (with_reducible refine ex_inR ?_) | (go_at_call 42; (first | (with_reducible refine (GA.out _).mono ?_) | (with_reducible refine (GB.out _).mono ?_)); intro e w' h; obtain ⟨h1, ⟨nq, rfl⟩⟩ := h; subst h1; simp only []) | (go_at_call 43; (first | (with_reducible refine (bitwise_calls2 a b _ ha ha' hb hb').mono ?_)); intro e w' h; obtain ⟨h1, ⟨nq, rfl⟩⟩ := h; subst h1; simp only []) | go_values | go_skip | go_guarded | go_step | go_upon)
  go_ret2
  exact ⟨by first | rfl | simp, by repeat (first | exact Drawn0.refl _ | apply Drawn0.step)⟩

set_option maxHeartbeats 4000000 in
set_option maxRecDepth 100000 in
theorem ref_24 (a b : Int) (w : World) (ha : 0 ≤ a) (ha' : a < 4294967296) (hb : 0 ≤ b) (hb' : b < 4294967296) :
    Calls Try.prog 21 #[.int .u8 24, .int .u32 a, .int .u32 b] w fun e w' => e = .returned (.tuple #[.int .u32 (Go.bits .xor .u32 a b), .int .i64 0]) ∧ Drawn0 w w' := by
  have xa := w32_bd a
  have xb := w32_bd b
  obtain ⟨x, hx⟩ : ∃ x, wrap32 a = x := ⟨_, rfl⟩
  obtain ⟨y, hy⟩ : ∃ y, wrap32 b = y := ⟨_, rfl⟩
  rw [hx] at xa
  rw [hy] at xb
  obtain ⟨xa0, xa1⟩ := xa
  obtain ⟨xb0, xb1⟩ := xb
  have HX := Aside0.mk hx
  have HY := Aside0.mk hy
  have WA : ∀ w, Calls Try.prog 42 #[.int .u32 a] w fun e w' => e = .returned (.int .i64 x) ∧ Drawn0 w w' := fun w => by rw [← hx]; exact worth_calls a w ha ha'
  have WB : ∀ w, Calls Try.prog 42 #[.int .u32 b] w fun e w' => e = .returned (.int .i64 y) ∧ Drawn0 w w' := fun w => by rw [← hy]; exact worth_calls b w hb hb'
  have GA := Aside0.mk WA
  have GB := Aside0.mk WB
  clear hx hy WA WB
  go_enter Try.func21, Try.ntmps21
  repeat' (first | (with_reducible refine ex_then ?_) | (with_reducible refine ex_norm ?_) | (with_reducible refine ex_eq ?_) | ((with_reducible refine ex_ne ?_ ?_); exact rfl) | (with_reducible refine ex_thenR ?_) | (with_reducible refine ex_inN ?_) | (with_reducible refine ex_inR ?_) | (go_at_call 42; (first | (with_reducible refine (GA.out _).mono ?_) | (with_reducible refine (GB.out _).mono ?_)); intro e w' h; obtain ⟨h1, ⟨nq, rfl⟩⟩ := h; subst h1; simp only []) | (go_at_call 43; (first | (with_reducible refine (bitwise_calls2 a b _ ha ha' hb hb').mono ?_)); intro e w' h; obtain ⟨h1, ⟨nq, rfl⟩⟩ := h; subst h1; simp only []) | go_values | go_skip | go_guarded | go_step | go_upon)
  go_ret2
  exact ⟨by first | rfl | simp, by repeat (first | exact Drawn0.refl _ | apply Drawn0.step)⟩

set_option maxHeartbeats 4000000 in
set_option maxRecDepth 100000 in
theorem ref_33 (a b : Int) (w : World) (ha : 0 ≤ a) (ha' : a < 4294967296) (hb : 0 ≤ b) (hb' : b < 4294967296) :
    Calls Try.prog 21 #[.int .u8 33, .int .u32 a, .int .u32 b] w fun e w' => e = .returned (.tuple #[.int .u32 (b01 (decide (wrap32 a < wrap32 b))), .int .i64 0]) ∧ Drawn0 w w' := by
  have xa := w32_bd a
  have xb := w32_bd b
  obtain ⟨x, hx⟩ : ∃ x, wrap32 a = x := ⟨_, rfl⟩
  obtain ⟨y, hy⟩ : ∃ y, wrap32 b = y := ⟨_, rfl⟩
  rw [hx] at xa
  rw [hy] at xb
  obtain ⟨xa0, xa1⟩ := xa
  obtain ⟨xb0, xb1⟩ := xb
  have HX := Aside0.mk hx
  have HY := Aside0.mk hy
  have WA : ∀ w, Calls Try.prog 42 #[.int .u32 a] w fun e w' => e = .returned (.int .i64 x) ∧ Drawn0 w w' := fun w => by rw [← hx]; exact worth_calls a w ha ha'
  have WB : ∀ w, Calls Try.prog 42 #[.int .u32 b] w fun e w' => e = .returned (.int .i64 y) ∧ Drawn0 w w' := fun w => by rw [← hy]; exact worth_calls b w hb hb'
  have GA := Aside0.mk WA
  have GB := Aside0.mk WB
  clear hx hy WA WB
  go_enter Try.func21, Try.ntmps21
  repeat' (first | (with_reducible refine ex_then ?_) | (with_reducible refine ex_norm ?_) | (with_reducible refine ex_eq ?_) | ((with_reducible refine ex_ne ?_ ?_); exact rfl) | (with_reducible refine ex_thenR ?_) | (with_reducible refine ex_inN ?_) | (with_reducible refine ex_inR ?_) | (go_at_call 42; (first | (with_reducible refine (GA.out _).mono ?_) | (with_reducible refine (GB.out _).mono ?_)); intro e w' h; obtain ⟨h1, ⟨nq, rfl⟩⟩ := h; subst h1; simp only []) | (go_at_call 44; (first | (with_reducible refine (one_calls _ _).mono ?_)); intro e w' h; obtain ⟨h1, ⟨nq, rfl⟩⟩ := h; subst h1; simp only []) | go_values | go_skip | go_guarded | go_step | go_upon)
  go_ret2
  exact ⟨by rw [HX.out, HY.out]; first | rfl | simp, by repeat (first | exact Drawn0.refl _ | apply Drawn0.step)⟩

set_option maxHeartbeats 4000000 in
set_option maxRecDepth 100000 in
theorem ref_22 (a b : Int) (w : World) (ha : 0 ≤ a) (ha' : a < 4294967296) (hb : 0 ≤ b) (hb' : b < 4294967296) :
    Calls Try.prog 21 #[.int .u8 22, .int .u32 a, .int .u32 b] w fun e w' => e = .returned (.tuple #[.int .u32 (b01 (decide (wrap32 a < wrap32 b))), .int .i64 0]) ∧ Drawn0 w w' := by
  have xa := w32_bd a
  have xb := w32_bd b
  obtain ⟨x, hx⟩ : ∃ x, wrap32 a = x := ⟨_, rfl⟩
  obtain ⟨y, hy⟩ : ∃ y, wrap32 b = y := ⟨_, rfl⟩
  rw [hx] at xa
  rw [hy] at xb
  obtain ⟨xa0, xa1⟩ := xa
  obtain ⟨xb0, xb1⟩ := xb
  have HX := Aside0.mk hx
  have HY := Aside0.mk hy
  have WA : ∀ w, Calls Try.prog 42 #[.int .u32 a] w fun e w' => e = .returned (.int .i64 x) ∧ Drawn0 w w' := fun w => by rw [← hx]; exact worth_calls a w ha ha'
  have WB : ∀ w, Calls Try.prog 42 #[.int .u32 b] w fun e w' => e = .returned (.int .i64 y) ∧ Drawn0 w w' := fun w => by rw [← hy]; exact worth_calls b w hb hb'
  have GA := Aside0.mk WA
  have GB := Aside0.mk WB
  clear hx hy WA WB
  go_enter Try.func21, Try.ntmps21
  repeat' (first | (with_reducible refine ex_then ?_) | (with_reducible refine ex_norm ?_) | (with_reducible refine ex_eq ?_) | ((with_reducible refine ex_ne ?_ ?_); exact rfl) | (with_reducible refine ex_thenR ?_) | (with_reducible refine ex_inN ?_) | (with_reducible refine ex_inR ?_) | (go_at_call 42; (first | (with_reducible refine (GA.out _).mono ?_) | (with_reducible refine (GB.out _).mono ?_)); intro e w' h; obtain ⟨h1, ⟨nq, rfl⟩⟩ := h; subst h1; simp only []) | (go_at_call 44; (first | (with_reducible refine (one_calls _ _).mono ?_)); intro e w' h; obtain ⟨h1, ⟨nq, rfl⟩⟩ := h; subst h1; simp only []) | go_values | go_skip | go_guarded | go_step | go_upon)
  go_ret2
  exact ⟨by rw [HX.out, HY.out]; first | rfl | simp, by repeat (first | exact Drawn0.refl _ | apply Drawn0.step)⟩

set_option maxHeartbeats 4000000 in
set_option maxRecDepth 100000 in
theorem ref_34 (a b : Int) (w : World) (ha : 0 ≤ a) (ha' : a < 4294967296) (hb : 0 ≤ b) (hb' : b < 4294967296) :
    Calls Try.prog 21 #[.int .u8 34, .int .u32 a, .int .u32 b] w fun e w' => e = .returned (.tuple #[.int .u32 (b01 (decide (a < b))), .int .i64 0]) ∧ Drawn0 w w' := by
  have xa := w32_bd a
  have xb := w32_bd b
  obtain ⟨x, hx⟩ : ∃ x, wrap32 a = x := ⟨_, rfl⟩
  obtain ⟨y, hy⟩ : ∃ y, wrap32 b = y := ⟨_, rfl⟩
  rw [hx] at xa
  rw [hy] at xb
  obtain ⟨xa0, xa1⟩ := xa
  obtain ⟨xb0, xb1⟩ := xb
  have HX := Aside0.mk hx
  have HY := Aside0.mk hy
  have WA : ∀ w, Calls Try.prog 42 #[.int .u32 a] w fun e w' => e = .returned (.int .i64 x) ∧ Drawn0 w w' := fun w => by rw [← hx]; exact worth_calls a w ha ha'
  have WB : ∀ w, Calls Try.prog 42 #[.int .u32 b] w fun e w' => e = .returned (.int .i64 y) ∧ Drawn0 w w' := fun w => by rw [← hy]; exact worth_calls b w hb hb'
  have GA := Aside0.mk WA
  have GB := Aside0.mk WB
  clear hx hy WA WB
  go_enter Try.func21, Try.ntmps21
  repeat' (first | (with_reducible refine ex_then ?_) | (with_reducible refine ex_norm ?_) | (with_reducible refine ex_eq ?_) | ((with_reducible refine ex_ne ?_ ?_); exact rfl) | (with_reducible refine ex_thenR ?_) | (with_reducible refine ex_inN ?_) | (with_reducible refine ex_inR ?_) | (go_at_call 42; (first | (with_reducible refine (GA.out _).mono ?_) | (with_reducible refine (GB.out _).mono ?_)); intro e w' h; obtain ⟨h1, ⟨nq, rfl⟩⟩ := h; subst h1; simp only []) | (go_at_call 44; (first | (with_reducible refine (one_calls _ _).mono ?_)); intro e w' h; obtain ⟨h1, ⟨nq, rfl⟩⟩ := h; subst h1; simp only []) | go_values | go_skip | go_guarded | go_step | go_upon)
  go_ret2
  exact ⟨by first | rfl | simp, by repeat (first | exact Drawn0.refl _ | apply Drawn0.step)⟩

set_option maxHeartbeats 4000000 in
set_option maxRecDepth 100000 in
theorem ref_23 (a b : Int) (w : World) (ha : 0 ≤ a) (ha' : a < 4294967296) (hb : 0 ≤ b) (hb' : b < 4294967296) :
    Calls Try.prog 21 #[.int .u8 23, .int .u32 a, .int .u32 b] w fun e w' => e = .returned (.tuple #[.int .u32 (b01 (decide (a < b))), .int .i64 0]) ∧ Drawn0 w w' := by
  have xa := w32_bd a
  have xb := w32_bd b
  obtain ⟨x, hx⟩ : ∃ x, wrap32 a = x := ⟨_, rfl⟩
  obtain ⟨y, hy⟩ : ∃ y, wrap32 b = y := ⟨_, rfl⟩
  rw [hx] at xa
  rw [hy] at xb
  obtain ⟨xa0, xa1⟩ := xa
  obtain ⟨xb0, xb1⟩ := xb
  have HX := Aside0.mk hx
  have HY := Aside0.mk hy
  have WA : ∀ w, Calls Try.prog 42 #[.int .u32 a] w fun e w' => e = .returned (.int .i64 x) ∧ Drawn0 w w' := fun w => by rw [← hx]; exact worth_calls a w ha ha'
  have WB : ∀ w, Calls Try.prog 42 #[.int .u32 b] w fun e w' => e = .returned (.int .i64 y) ∧ Drawn0 w w' := fun w => by rw [← hy]; exact worth_calls b w hb hb'
  have GA := Aside0.mk WA
  have GB := Aside0.mk WB
  clear hx hy WA WB
  go_enter Try.func21, Try.ntmps21
  repeat' (first | (with_reducible refine ex_then ?_) | (with_reducible refine ex_norm ?_) | (with_reducible refine ex_eq ?_) | ((with_reducible refine ex_ne ?_ ?_); exact rfl) | (with_reducible refine ex_thenR ?_) | (with_reducible refine ex_inN ?_) | (with_reducible refine ex_inR ?_) | (go_at_call 42; (first | (with_reducible refine (GA.out _).mono ?_) | (with_reducible refine (GB.out _).mono ?_)); intro e w' h; obtain ⟨h1, ⟨nq, rfl⟩⟩ := h; subst h1; simp only []) | (go_at_call 44; (first | (with_reducible refine (one_calls _ _).mono ?_)); intro e w' h; obtain ⟨h1, ⟨nq, rfl⟩⟩ := h; subst h1; simp only []) | go_values | go_skip | go_guarded | go_step | go_upon)
  go_ret2
  exact ⟨by first | rfl | simp, by repeat (first | exact Drawn0.refl _ | apply Drawn0.step)⟩

set_option maxHeartbeats 4000000 in
set_option maxRecDepth 100000 in
theorem ref_32 (a b : Int) (w : World) (ha : 0 ≤ a) (ha' : a < 4294967296) (hb : 0 ≤ b) (hb' : b < 4294967296) :
    Calls Try.prog 21 #[.int .u8 32, .int .u32 a, .int .u32 b] w fun e w' => e = .returned (.tuple #[.int .u32 (a * 2 ^ (b % 32).toNat % 4294967296), .int .i64 0]) ∧ Drawn0 w w' := by
  have xa := w32_bd a
  have xb := w32_bd b
  obtain ⟨x, hx⟩ : ∃ x, wrap32 a = x := ⟨_, rfl⟩
  obtain ⟨y, hy⟩ : ∃ y, wrap32 b = y := ⟨_, rfl⟩
  rw [hx] at xa
  rw [hy] at xb
  obtain ⟨xa0, xa1⟩ := xa
  obtain ⟨xb0, xb1⟩ := xb
  have HX := Aside0.mk hx
  have HY := Aside0.mk hy
  have WA : ∀ w, Calls Try.prog 42 #[.int .u32 a] w fun e w' => e = .returned (.int .i64 x) ∧ Drawn0 w w' := fun w => by rw [← hx]; exact worth_calls a w ha ha'
  have WB : ∀ w, Calls Try.prog 42 #[.int .u32 b] w fun e w' => e = .returned (.int .i64 y) ∧ Drawn0 w w' := fun w => by rw [← hy]; exact worth_calls b w hb hb'
  have GA := Aside0.mk WA
  have GB := Aside0.mk WB
  clear hx hy WA WB
  obtain ⟨P, hP⟩ : ∃ P : Int, (2 : Int) ^ (b % 32).toNat = P := ⟨_, rfl⟩
  obtain ⟨p0, p1⟩ := two_pow_bd (b % 32).toNat (by omega)
  have GP0 : ∀ w, Calls Try.prog 45 #[.int .u32 b] w fun e w' => e = .returned (.int .i64 P) ∧ Drawn0 w w' := fun w => by rw [← hP]; exact power_calls b w hb hb'
  rw [hP] at p0 p1
  have GP := Aside0.mk GP0
  have HP := Aside0.mk hP
  have P0 : (P == 0) = false := by simpa using (by omega : P ≠ 0)
  clear hP GP0
  go_enter Try.func21, Try.ntmps21
  repeat' (first | (with_reducible refine ex_then ?_) | (with_reducible refine ex_norm ?_) | (with_reducible refine ex_eq ?_) | ((with_reducible refine ex_ne ?_ ?_); exact rfl) | (with_reducible refine ex_thenR ?_) | (with_reducible refine ex_inN ?_) | (with_reducible refine ex_inR ?_) | (go_at_call 42; (first | (with_reducible refine (GA.out _).mono ?_) | (with_reducible refine (GB.out _).mono ?_)); intro e w' h; obtain ⟨h1, ⟨nq, rfl⟩⟩ := h; subst h1; simp only []) | (go_at_call 45; (first | (with_reducible refine (GP.out _).mono ?_)); intro e w' h; obtain ⟨h1, ⟨nq, rfl⟩⟩ := h; subst h1; simp only []) | go_values | go_skip | go_guarded | go_step | go_upon)
  go_ret2
  have hm := Int.mul_nonneg ha (Int.le_of_lt p0)
  have hm1 : a * P ≤ 4294967295 * 2147483648 := Int.mul_le_mul (by omega) p1 (by omega) (by omega)
  exact ⟨by rw [HP.out, u64_id _ hm (by omega)]; first | rfl | simp, by repeat (first | exact Drawn0.refl _ | apply Drawn0.step)⟩

set_option maxHeartbeats 4000000 in
set_option maxRecDepth 100000 in
theorem ref_27 (a b : Int) (w : World) (ha : 0 ≤ a) (ha' : a < 4294967296) (hb : 0 ≤ b) (hb' : b < 4294967296) :
    Calls Try.prog 21 #[.int .u8 27, .int .u32 a, .int .u32 b] w fun e w' => e = .returned (.tuple #[.int .u32 (a * 2 ^ (b % 32).toNat % 4294967296), .int .i64 0]) ∧ Drawn0 w w' := by
  have xa := w32_bd a
  have xb := w32_bd b
  obtain ⟨x, hx⟩ : ∃ x, wrap32 a = x := ⟨_, rfl⟩
  obtain ⟨y, hy⟩ : ∃ y, wrap32 b = y := ⟨_, rfl⟩
  rw [hx] at xa
  rw [hy] at xb
  obtain ⟨xa0, xa1⟩ := xa
  obtain ⟨xb0, xb1⟩ := xb
  have HX := Aside0.mk hx
  have HY := Aside0.mk hy
  have WA : ∀ w, Calls Try.prog 42 #[.int .u32 a] w fun e w' => e = .returned (.int .i64 x) ∧ Drawn0 w w' := fun w => by rw [← hx]; exact worth_calls a w ha ha'
  have WB : ∀ w, Calls Try.prog 42 #[.int .u32 b] w fun e w' => e = .returned (.int .i64 y) ∧ Drawn0 w w' := fun w => by rw [← hy]; exact worth_calls b w hb hb'
  have GA := Aside0.mk WA
  have GB := Aside0.mk WB
  clear hx hy WA WB
  obtain ⟨P, hP⟩ : ∃ P : Int, (2 : Int) ^ (b % 32).toNat = P := ⟨_, rfl⟩
  obtain ⟨p0, p1⟩ := two_pow_bd (b % 32).toNat (by omega)
  have GP0 : ∀ w, Calls Try.prog 45 #[.int .u32 b] w fun e w' => e = .returned (.int .i64 P) ∧ Drawn0 w w' := fun w => by rw [← hP]; exact power_calls b w hb hb'
  rw [hP] at p0 p1
  have GP := Aside0.mk GP0
  have HP := Aside0.mk hP
  have P0 : (P == 0) = false := by simpa using (by omega : P ≠ 0)
  clear hP GP0
  go_enter Try.func21, Try.ntmps21
  repeat' (first | (with_reducible refine ex_then ?_) | (with_reducible refine ex_norm ?_) | (with_reducible refine ex_eq ?_) | ((with_reducible refine ex_ne ?_ ?_); exact rfl) | (with_reducible refine ex_thenR ?_) | (with_reducible refine ex_inN ?_) | (with_reducible refine ex_inR ?_) | (go_at_call 42; (first | (with_reducible refine (GA.out _).mono ?_) | (with_reducible refine (GB.out _).mono ?_)); intro e w' h; obtain ⟨h1, ⟨nq, rfl⟩⟩ := h; subst h1; simp only []) | (go_at_call 45; (first | (with_reducible refine (GP.out _).mono ?_)); intro e w' h; obtain ⟨h1, ⟨nq, rfl⟩⟩ := h; subst h1; simp only []) | go_values | go_skip | go_guarded | go_step | go_upon)
  go_ret2
  have hm := Int.mul_nonneg ha (Int.le_of_lt p0)
  have hm1 : a * P ≤ 4294967295 * 2147483648 := Int.mul_le_mul (by omega) p1 (by omega) (by omega)
  exact ⟨by rw [HP.out, u64_id _ hm (by omega)]; first | rfl | simp, by repeat (first | exact Drawn0.refl _ | apply Drawn0.step)⟩

set_option maxHeartbeats 4000000 in
set_option maxRecDepth 100000 in
theorem ref_36 (a b : Int) (w : World) (ha : 0 ≤ a) (ha' : a < 4294967296) (hb : 0 ≤ b) (hb' : b < 4294967296) :
    Calls Try.prog 21 #[.int .u8 36, .int .u32 a, .int .u32 b] w fun e w' => e = .returned (.tuple #[.int .u32 (a / 2 ^ (b % 32).toNat), .int .i64 0]) ∧ Drawn0 w w' := by
  have xa := w32_bd a
  have xb := w32_bd b
  obtain ⟨x, hx⟩ : ∃ x, wrap32 a = x := ⟨_, rfl⟩
  obtain ⟨y, hy⟩ : ∃ y, wrap32 b = y := ⟨_, rfl⟩
  rw [hx] at xa
  rw [hy] at xb
  obtain ⟨xa0, xa1⟩ := xa
  obtain ⟨xb0, xb1⟩ := xb
  have HX := Aside0.mk hx
  have HY := Aside0.mk hy
  have WA : ∀ w, Calls Try.prog 42 #[.int .u32 a] w fun e w' => e = .returned (.int .i64 x) ∧ Drawn0 w w' := fun w => by rw [← hx]; exact worth_calls a w ha ha'
  have WB : ∀ w, Calls Try.prog 42 #[.int .u32 b] w fun e w' => e = .returned (.int .i64 y) ∧ Drawn0 w w' := fun w => by rw [← hy]; exact worth_calls b w hb hb'
  have GA := Aside0.mk WA
  have GB := Aside0.mk WB
  clear hx hy WA WB
  obtain ⟨P, hP⟩ : ∃ P : Int, (2 : Int) ^ (b % 32).toNat = P := ⟨_, rfl⟩
  obtain ⟨p0, p1⟩ := two_pow_bd (b % 32).toNat (by omega)
  have GP0 : ∀ w, Calls Try.prog 45 #[.int .u32 b] w fun e w' => e = .returned (.int .i64 P) ∧ Drawn0 w w' := fun w => by rw [← hP]; exact power_calls b w hb hb'
  rw [hP] at p0 p1
  have GP := Aside0.mk GP0
  have HP := Aside0.mk hP
  have P0 : (P == 0) = false := by simpa using (by omega : P ≠ 0)
  clear hP GP0
  go_enter Try.func21, Try.ntmps21
  repeat' (first | (with_reducible refine ex_then ?_) | (with_reducible refine ex_norm ?_) | (with_reducible refine ex_eq ?_) | ((with_reducible refine ex_ne ?_ ?_); exact rfl) | (with_reducible refine ex_thenR ?_) | (with_reducible refine ex_inN ?_) | (with_reducible refine ex_inR ?_) | (go_at_call 42; (first | (with_reducible refine (GA.out _).mono ?_) | (with_reducible refine (GB.out _).mono ?_)); intro e w' h; obtain ⟨h1, ⟨nq, rfl⟩⟩ := h; subst h1; simp only []) | (go_at_call 45; (first | (with_reducible refine (GP.out _).mono ?_)); intro e w' h; obtain ⟨h1, ⟨nq, rfl⟩⟩ := h; subst h1; simp only []) | go_values | go_skip | go_guarded | go_step | go_upon)
  go_ret2
  have q1 : a.tdiv P = a / P := Int.tdiv_eq_ediv_of_nonneg ha
  have q0 : 0 ≤ a / P := Int.ediv_nonneg ha (by omega)
  have q2 : a / P < 4294967296 := Int.lt_of_le_of_lt (Int.ediv_le_self P ha) ha'
  exact ⟨by rw [HP.out]; first | (rw [q1, wrap64_id (a / P) (by omega), Int.emod_eq_of_lt q0 q2]; first | rfl | (simp; done)) | (simp; omega), by repeat (first | exact Drawn0.refl _ | apply Drawn0.step)⟩

set_option maxHeartbeats 4000000 in
set_option maxRecDepth 100000 in
theorem ref_28 (a b : Int) (w : World) (ha : 0 ≤ a) (ha' : a < 4294967296) (hb : 0 ≤ b) (hb' : b < 4294967296) :
    Calls Try.prog 21 #[.int .u8 28, .int .u32 a, .int .u32 b] w fun e w' => e = .returned (.tuple #[.int .u32 (a / 2 ^ (b % 32).toNat), .int .i64 0]) ∧ Drawn0 w w' := by
  have xa := w32_bd a
  have xb := w32_bd b
  obtain ⟨x, hx⟩ : ∃ x, wrap32 a = x := ⟨_, rfl⟩
  obtain ⟨y, hy⟩ : ∃ y, wrap32 b = y := ⟨_, rfl⟩
  rw [hx] at xa
  rw [hy] at xb
  obtain ⟨xa0, xa1⟩ := xa
  obtain ⟨xb0, xb1⟩ := xb
  have HX := Aside0.mk hx
  have HY := Aside0.mk hy
  have WA : ∀ w, Calls Try.prog 42 #[.int .u32 a] w fun e w' => e = .returned (.int .i64 x) ∧ Drawn0 w w' := fun w => by rw [← hx]; exact worth_calls a w ha ha'
  have WB : ∀ w, Calls Try.prog 42 #[.int .u32 b] w fun e w' => e = .returned (.int .i64 y) ∧ Drawn0 w w' := fun w => by rw [← hy]; exact worth_calls b w hb hb'
  have GA := Aside0.mk WA
  have GB := Aside0.mk WB
  clear hx hy WA WB
  obtain ⟨P, hP⟩ : ∃ P : Int, (2 : Int) ^ (b % 32).toNat = P := ⟨_, rfl⟩
  obtain ⟨p0, p1⟩ := two_pow_bd (b % 32).toNat (by omega)
  have GP0 : ∀ w, Calls Try.prog 45 #[.int .u32 b] w fun e w' => e = .returned (.int .i64 P) ∧ Drawn0 w w' := fun w => by rw [← hP]; exact power_calls b w hb hb'
  rw [hP] at p0 p1
  have GP := Aside0.mk GP0
  have HP := Aside0.mk hP
  have P0 : (P == 0) = false := by simpa using (by omega : P ≠ 0)
  clear hP GP0
  go_enter Try.func21, Try.ntmps21
  repeat' (first | (with_reducible refine ex_then ?_) | (with_reducible refine ex_norm ?_) | (with_reducible refine ex_eq ?_) | ((with_reducible refine ex_ne ?_ ?_); exact rfl) | (with_reducible refine ex_thenR ?_) | (with_reducible refine ex_inN ?_) | (with_reducible refine ex_inR ?_) | (go_at_call 42; (first | (with_reducible refine (GA.out _).mono ?_) | (with_reducible refine (GB.out _).mono ?_)); intro e w' h; obtain ⟨h1, ⟨nq, rfl⟩⟩ := h; subst h1; simp only []) | (go_at_call 45; (first | (with_reducible refine (GP.out _).mono ?_)); intro e w' h; obtain ⟨h1, ⟨nq, rfl⟩⟩ := h; subst h1; simp only []) | go_values | go_skip | go_guarded | go_step | go_upon)
  go_ret2
  have q1 : a.tdiv P = a / P := Int.tdiv_eq_ediv_of_nonneg ha
  have q0 : 0 ≤ a / P := Int.ediv_nonneg ha (by omega)
  have q2 : a / P < 4294967296 := Int.lt_of_le_of_lt (Int.ediv_le_self P ha) ha'
  exact ⟨by rw [HP.out]; first | (rw [q1, wrap64_id (a / P) (by omega), Int.emod_eq_of_lt q0 q2]; first | rfl | (simp; done)) | (simp; omega), by repeat (first | exact Drawn0.refl _ | apply Drawn0.step)⟩

set_option maxHeartbeats 4000000 in
set_option maxRecDepth 100000 in
theorem ref_37 (a b : Int) (w : World) (ha : 0 ≤ a) (ha' : a < 4294967296) (hb : 0 ≤ b) (hb' : b < 4294967296) :
    Calls Try.prog 21 #[.int .u8 37, .int .u32 a, .int .u32 b] w fun e w' => e = .returned (.tuple #[.int .u32 (wrap32 a / 2 ^ (b % 32).toNat % 4294967296), .int .i64 0]) ∧ Drawn0 w w' := by
  have xa := w32_bd a
  have xb := w32_bd b
  obtain ⟨x, hx⟩ : ∃ x, wrap32 a = x := ⟨_, rfl⟩
  obtain ⟨y, hy⟩ : ∃ y, wrap32 b = y := ⟨_, rfl⟩
  rw [hx] at xa
  rw [hy] at xb
  obtain ⟨xa0, xa1⟩ := xa
  obtain ⟨xb0, xb1⟩ := xb
  have HX := Aside0.mk hx
  have HY := Aside0.mk hy
  have WA : ∀ w, Calls Try.prog 42 #[.int .u32 a] w fun e w' => e = .returned (.int .i64 x) ∧ Drawn0 w w' := fun w => by rw [← hx]; exact worth_calls a w ha ha'
  have WB : ∀ w, Calls Try.prog 42 #[.int .u32 b] w fun e w' => e = .returned (.int .i64 y) ∧ Drawn0 w w' := fun w => by rw [← hy]; exact worth_calls b w hb hb'
  have GA := Aside0.mk WA
  have GB := Aside0.mk WB
  clear hx hy WA WB
  obtain ⟨P, hP⟩ : ∃ P : Int, (2 : Int) ^ (b % 32).toNat = P := ⟨_, rfl⟩
  obtain ⟨p0, p1⟩ := two_pow_bd (b % 32).toNat (by omega)
  have GP0 : ∀ w, Calls Try.prog 45 #[.int .u32 b] w fun e w' => e = .returned (.int .i64 P) ∧ Drawn0 w w' := fun w => by rw [← hP]; exact power_calls b w hb hb'
  rw [hP] at p0 p1
  have GP := Aside0.mk GP0
  have HP := Aside0.mk hP
  have P0 : (P == 0) = false := by simpa using (by omega : P ≠ 0)
  clear hP GP0
  go_enter Try.func21, Try.ntmps21
  repeat' (first | (with_reducible refine ex_then ?_) | (with_reducible refine ex_norm ?_) | (with_reducible refine ex_eq ?_) | ((with_reducible refine ex_ne ?_ ?_); exact rfl) | (with_reducible refine ex_thenR ?_) | (with_reducible refine ex_inN ?_) | (with_reducible refine ex_inR ?_) | (go_at_call 42; (first | (with_reducible refine (GA.out _).mono ?_) | (with_reducible refine (GB.out _).mono ?_)); intro e w' h; obtain ⟨h1, ⟨nq, rfl⟩⟩ := h; subst h1; simp only []) | (go_at_call 45; (first | (with_reducible refine (GP.out _).mono ?_)); intro e w' h; obtain ⟨h1, ⟨nq, rfl⟩⟩ := h; subst h1; simp only []) | (go_at_call 46; (first | (with_reducible refine (down_calls x P _ (by omega) (by omega) (by omega) (by omega)).mono ?_)); intro e w' h; obtain ⟨h1, ⟨nq, rfl⟩⟩ := h; subst h1; simp only []) | go_values | go_skip | go_guarded | go_step | go_upon)
  go_ret2
  exact ⟨by rw [HX.out, HP.out]; first | rfl | simp, by repeat (first | exact Drawn0.refl _ | apply Drawn0.step)⟩

set_option maxHeartbeats 4000000 in
set_option maxRecDepth 100000 in
theorem ref_29 (a b : Int) (w : World) (ha : 0 ≤ a) (ha' : a < 4294967296) (hb : 0 ≤ b) (hb' : b < 4294967296) :
    Calls Try.prog 21 #[.int .u8 29, .int .u32 a, .int .u32 b] w fun e w' => e = .returned (.tuple #[.int .u32 (wrap32 a / 2 ^ (b % 32).toNat % 4294967296), .int .i64 0]) ∧ Drawn0 w w' := by
  have xa := w32_bd a
  have xb := w32_bd b
  obtain ⟨x, hx⟩ : ∃ x, wrap32 a = x := ⟨_, rfl⟩
  obtain ⟨y, hy⟩ : ∃ y, wrap32 b = y := ⟨_, rfl⟩
  rw [hx] at xa
  rw [hy] at xb
  obtain ⟨xa0, xa1⟩ := xa
  obtain ⟨xb0, xb1⟩ := xb
  have HX := Aside0.mk hx
  have HY := Aside0.mk hy
  have WA : ∀ w, Calls Try.prog 42 #[.int .u32 a] w fun e w' => e = .returned (.int .i64 x) ∧ Drawn0 w w' := fun w => by rw [← hx]; exact worth_calls a w ha ha'
  have WB : ∀ w, Calls Try.prog 42 #[.int .u32 b] w fun e w' => e = .returned (.int .i64 y) ∧ Drawn0 w w' := fun w => by rw [← hy]; exact worth_calls b w hb hb'
  have GA := Aside0.mk WA
  have GB := Aside0.mk WB
  clear hx hy WA WB
  obtain ⟨P, hP⟩ : ∃ P : Int, (2 : Int) ^ (b % 32).toNat = P := ⟨_, rfl⟩
  obtain ⟨p0, p1⟩ := two_pow_bd (b % 32).toNat (by omega)
  have GP0 : ∀ w, Calls Try.prog 45 #[.int .u32 b] w fun e w' => e = .returned (.int .i64 P) ∧ Drawn0 w w' := fun w => by rw [← hP]; exact power_calls b w hb hb'
  rw [hP] at p0 p1
  have GP := Aside0.mk GP0
  have HP := Aside0.mk hP
  have P0 : (P == 0) = false := by simpa using (by omega : P ≠ 0)
  clear hP GP0
  go_enter Try.func21, Try.ntmps21
  repeat' (first | (with_reducible refine ex_then ?_) | (with_reducible refine ex_norm ?_) | (with_reducible refine ex_eq ?_) | ((with_reducible refine ex_ne ?_ ?_); exact rfl) | (with_reducible refine ex_thenR ?_) | (with_reducible refine ex_inN ?_) | (with_reducible refine ex_inR ?_) | (go_at_call 42; (first | (with_reducible refine (GA.out _).mono ?_) | (with_reducible refine (GB.out _).mono ?_)); intro e w' h; obtain ⟨h1, ⟨nq, rfl⟩⟩ := h; subst h1; simp only []) | (go_at_call 45; (first | (with_reducible refine (GP.out _).mono ?_)); intro e w' h; obtain ⟨h1, ⟨nq, rfl⟩⟩ := h; subst h1; simp only []) | (go_at_call 46; (first | (with_reducible refine (down_calls x P _ (by omega) (by omega) (by omega) (by omega)).mono ?_)); intro e w' h; obtain ⟨h1, ⟨nq, rfl⟩⟩ := h; subst h1; simp only []) | go_values | go_skip | go_guarded | go_step | go_upon)
  go_ret2
  exact ⟨by rw [HX.out, HP.out]; first | rfl | simp, by repeat (first | exact Drawn0.refl _ | apply Drawn0.step)⟩

set_option maxHeartbeats 4000000 in
set_option maxRecDepth 100000 in
theorem ref_40 (a b : Int) (w : World) (ha : 0 ≤ a) (ha' : a < 4294967296) (hb : 0 ≤ b) (hb' : b < 4294967296) :
    Calls Try.prog 21 #[.int .u8 40, .int .u32 a, .int .u32 b] w fun e w' => e = .returned (.tuple #[.int .u32 (a * b % 4294967296), .int .i64 0]) ∧ Drawn0 w w' := by
  have xa := w32_bd a
  have xb := w32_bd b
  obtain ⟨x, hx⟩ : ∃ x, wrap32 a = x := ⟨_, rfl⟩
  obtain ⟨y, hy⟩ : ∃ y, wrap32 b = y := ⟨_, rfl⟩
  rw [hx] at xa
  rw [hy] at xb
  obtain ⟨xa0, xa1⟩ := xa
  obtain ⟨xb0, xb1⟩ := xb
  have HX := Aside0.mk hx
  have HY := Aside0.mk hy
  have WA : ∀ w, Calls Try.prog 42 #[.int .u32 a] w fun e w' => e = .returned (.int .i64 x) ∧ Drawn0 w w' := fun w => by rw [← hx]; exact worth_calls a w ha ha'
  have WB : ∀ w, Calls Try.prog 42 #[.int .u32 b] w fun e w' => e = .returned (.int .i64 y) ∧ Drawn0 w w' := fun w => by rw [← hy]; exact worth_calls b w hb hb'
  have GA := Aside0.mk WA
  have GB := Aside0.mk WB
  clear hx hy WA WB
  have hm := Int.mul_nonneg ha hb
  have hm1 : a * b ≤ 4294967295 * 4294967295 := Int.mul_le_mul (by omega) (by omega) hb (by omega)
  have HM : Aside0 (0 ≤ a * b ∧ a * b ≤ 4294967295 * 4294967295) := ⟨hm, hm1⟩
  clear hm hm1
  go_enter Try.func21, Try.ntmps21
  repeat' (first | (with_reducible refine ex_then ?_) | (with_reducible refine ex_norm ?_) | (with_reducible refine ex_eq ?_) | ((with_reducible refine ex_ne ?_ ?_); exact rfl) | (with_reducible refine ex_thenR ?_) | (with_reducible refine ex_inN ?_) | (with_reducible refine ex_inR ?_) | (go_at_call 42; (first | (with_reducible refine (GA.out _).mono ?_) | (with_reducible refine (GB.out _).mono ?_)); intro e w' h; obtain ⟨h1, ⟨nq, rfl⟩⟩ := h; subst h1; simp only []) | go_values | go_skip | go_guarded | go_step | go_upon)
  go_ret2
  exact ⟨by have hm := HM.out; rw [u64_id _ hm.1 (by omega)]; first | rfl | simp, by repeat (first | exact Drawn0.refl _ | apply Drawn0.step)⟩

set_option maxHeartbeats 4000000 in
set_option maxRecDepth 100000 in
theorem ref_41 (a b : Int) (w : World) (ha : 0 ≤ a) (ha' : a < 4294967296) (hb : 0 ≤ b) (hb' : b < 4294967296) :
    Calls Try.prog 21 #[.int .u8 41, .int .u32 a, .int .u32 b] w fun e w' => e = .returned (.tuple #[.int .u32 (wrap32 a * wrap32 b / 4294967296 % 4294967296), .int .i64 0]) ∧ Drawn0 w w' := by
  have xa := w32_bd a
  have xb := w32_bd b
  obtain ⟨x, hx⟩ : ∃ x, wrap32 a = x := ⟨_, rfl⟩
  obtain ⟨y, hy⟩ : ∃ y, wrap32 b = y := ⟨_, rfl⟩
  rw [hx] at xa
  rw [hy] at xb
  obtain ⟨xa0, xa1⟩ := xa
  obtain ⟨xb0, xb1⟩ := xb
  have HX := Aside0.mk hx
  have HY := Aside0.mk hy
  have WA : ∀ w, Calls Try.prog 42 #[.int .u32 a] w fun e w' => e = .returned (.int .i64 x) ∧ Drawn0 w w' := fun w => by rw [← hx]; exact worth_calls a w ha ha'
  have WB : ∀ w, Calls Try.prog 42 #[.int .u32 b] w fun e w' => e = .returned (.int .i64 y) ∧ Drawn0 w w' := fun w => by rw [← hy]; exact worth_calls b w hb hb'
  have GA := Aside0.mk WA
  have GB := Aside0.mk WB
  clear hx hy WA WB
  have mb := mulbd x y ⟨xa0, xa1⟩ (by omega)
  have mw : wrap64 (x * y) = x * y := wrap64_id _ mb
  have GD0 : ∀ w, Calls Try.prog 46 #[.int .i64 (wrap64 (x * y)), .int .i64 4294967296] w fun e w' => e = .returned (.int .i64 (x * y / 4294967296)) ∧ Drawn0 w w' := fun w => by rw [mw]; exact down_calls _ 4294967296 w mb.1 mb.2 (by omega) (by omega)
  have GD := Aside0.mk GD0
  clear mb mw GD0
  go_enter Try.func21, Try.ntmps21
  repeat' (first | (with_reducible refine ex_then ?_) | (with_reducible refine ex_norm ?_) | (with_reducible refine ex_eq ?_) | ((with_reducible refine ex_ne ?_ ?_); exact rfl) | (with_reducible refine ex_thenR ?_) | (with_reducible refine ex_inN ?_) | (with_reducible refine ex_inR ?_) | (go_at_call 42; (first | (with_reducible refine (GA.out _).mono ?_) | (with_reducible refine (GB.out _).mono ?_)); intro e w' h; obtain ⟨h1, ⟨nq, rfl⟩⟩ := h; subst h1; simp only []) | (go_at_call 46; (first | (with_reducible refine (GD.out _).mono ?_)); intro e w' h; obtain ⟨h1, ⟨nq, rfl⟩⟩ := h; subst h1; simp only []) | go_values | go_skip | go_guarded | go_step | go_upon)
  go_ret2
  exact ⟨by rw [HX.out, HY.out]; first | rfl | simp, by repeat (first | exact Drawn0.refl _ | apply Drawn0.step)⟩

set_option maxHeartbeats 4000000 in
set_option maxRecDepth 100000 in
theorem ref_42 (a b : Int) (w : World) (ha : 0 ≤ a) (ha' : a < 4294967296) (hb : 0 ≤ b) (hb' : b < 4294967296) :
    Calls Try.prog 21 #[.int .u8 42, .int .u32 a, .int .u32 b] w fun e w' => e = .returned (.tuple #[.int .u32 (wrap32 a * b / 4294967296 % 4294967296), .int .i64 0]) ∧ Drawn0 w w' := by
  have xa := w32_bd a
  have xb := w32_bd b
  obtain ⟨x, hx⟩ : ∃ x, wrap32 a = x := ⟨_, rfl⟩
  obtain ⟨y, hy⟩ : ∃ y, wrap32 b = y := ⟨_, rfl⟩
  rw [hx] at xa
  rw [hy] at xb
  obtain ⟨xa0, xa1⟩ := xa
  obtain ⟨xb0, xb1⟩ := xb
  have HX := Aside0.mk hx
  have HY := Aside0.mk hy
  have WA : ∀ w, Calls Try.prog 42 #[.int .u32 a] w fun e w' => e = .returned (.int .i64 x) ∧ Drawn0 w w' := fun w => by rw [← hx]; exact worth_calls a w ha ha'
  have WB : ∀ w, Calls Try.prog 42 #[.int .u32 b] w fun e w' => e = .returned (.int .i64 y) ∧ Drawn0 w w' := fun w => by rw [← hy]; exact worth_calls b w hb hb'
  have GA := Aside0.mk WA
  have GB := Aside0.mk WB
  clear hx hy WA WB
  have mb := mulbd x b ⟨xa0, xa1⟩ (by omega)
  have mw : wrap64 (x * b) = x * b := wrap64_id _ mb
  have GD0 : ∀ w, Calls Try.prog 46 #[.int .i64 (wrap64 (x * b)), .int .i64 4294967296] w fun e w' => e = .returned (.int .i64 (x * b / 4294967296)) ∧ Drawn0 w w' := fun w => by rw [mw]; exact down_calls _ 4294967296 w mb.1 mb.2 (by omega) (by omega)
  have GD := Aside0.mk GD0
  clear mb mw GD0
  go_enter Try.func21, Try.ntmps21
  repeat' (first | (with_reducible refine ex_then ?_) | (with_reducible refine ex_norm ?_) | (with_reducible refine ex_eq ?_) | ((with_reducible refine ex_ne ?_ ?_); exact rfl) | (with_reducible refine ex_thenR ?_) | (with_reducible refine ex_inN ?_) | (with_reducible refine ex_inR ?_) | (go_at_call 42; (first | (with_reducible refine (GA.out _).mono ?_) | (with_reducible refine (GB.out _).mono ?_)); intro e w' h; obtain ⟨h1, ⟨nq, rfl⟩⟩ := h; subst h1; simp only []) | (go_at_call 46; (first | (with_reducible refine (GD.out _).mono ?_)); intro e w' h; obtain ⟨h1, ⟨nq, rfl⟩⟩ := h; subst h1; simp only []) | go_values | go_skip | go_guarded | go_step | go_upon)
  go_ret2
  exact ⟨by rw [HX.out]; first | rfl | simp, by repeat (first | exact Drawn0.refl _ | apply Drawn0.step)⟩

set_option maxHeartbeats 4000000 in
set_option maxRecDepth 100000 in
theorem ref_43 (a b : Int) (w : World) (ha : 0 ≤ a) (ha' : a < 4294967296) (hb : 0 ≤ b) (hb' : b < 4294967296) :
    Calls Try.prog 21 #[.int .u8 43, .int .u32 a, .int .u32 b] w fun e w' => e = .returned (.tuple #[.int .u32 (a * b / 4294967296 % 4294967296), .int .i64 0]) ∧ Drawn0 w w' := by
  have xa := w32_bd a
  have xb := w32_bd b
  obtain ⟨x, hx⟩ : ∃ x, wrap32 a = x := ⟨_, rfl⟩
  obtain ⟨y, hy⟩ : ∃ y, wrap32 b = y := ⟨_, rfl⟩
  rw [hx] at xa
  rw [hy] at xb
  obtain ⟨xa0, xa1⟩ := xa
  obtain ⟨xb0, xb1⟩ := xb
  have HX := Aside0.mk hx
  have HY := Aside0.mk hy
  have WA : ∀ w, Calls Try.prog 42 #[.int .u32 a] w fun e w' => e = .returned (.int .i64 x) ∧ Drawn0 w w' := fun w => by rw [← hx]; exact worth_calls a w ha ha'
  have WB : ∀ w, Calls Try.prog 42 #[.int .u32 b] w fun e w' => e = .returned (.int .i64 y) ∧ Drawn0 w w' := fun w => by rw [← hy]; exact worth_calls b w hb hb'
  have GA := Aside0.mk WA
  have GB := Aside0.mk WB
  clear hx hy WA WB
  go_enter Try.func21, Try.ntmps21
  repeat' (first | (with_reducible refine ex_then ?_) | (with_reducible refine ex_norm ?_) | (with_reducible refine ex_eq ?_) | ((with_reducible refine ex_ne ?_ ?_); exact rfl) | (with_reducible refine ex_thenR ?_) | (with_reducible refine ex_inN ?_) | (with_reducible refine ex_inR ?_) | (go_at_call 42; (first | (with_reducible refine (GA.out _).mono ?_) | (with_reducible refine (GB.out _).mono ?_)); intro e w' h; obtain ⟨h1, ⟨nq, rfl⟩⟩ := h; subst h1; simp only []) | (go_at_call 47; (first | (with_reducible refine (high_calls a b _ ha ha' hb hb').mono ?_)); intro e w' h; obtain ⟨h1, ⟨nq, rfl⟩⟩ := h; subst h1; simp only []) | go_values | go_skip | go_guarded | go_step | go_upon)
  go_ret2
  exact ⟨by first | rfl | simp, by repeat (first | exact Drawn0.refl _ | apply Drawn0.step)⟩

set_option maxHeartbeats 4000000 in
set_option maxRecDepth 100000 in
theorem ref_44 (a b : Int) (w : World) (ha : 0 ≤ a) (ha' : a < 4294967296) (hb : 0 ≤ b) (hb' : b < 4294967296) :
    Calls Try.prog 21 #[.int .u8 44, .int .u32 a, .int .u32 b] w fun e w' => e = .returned (.tuple #[.int .u32 (divQ a b), .int .i64 0]) ∧ Drawn0 w w' := by
  have xa := w32_bd a
  have xb := w32_bd b
  obtain ⟨x, hx⟩ : ∃ x, wrap32 a = x := ⟨_, rfl⟩
  obtain ⟨y, hy⟩ : ∃ y, wrap32 b = y := ⟨_, rfl⟩
  rw [hx] at xa
  rw [hy] at xb
  obtain ⟨xa0, xa1⟩ := xa
  obtain ⟨xb0, xb1⟩ := xb
  have HX := Aside0.mk hx
  have HY := Aside0.mk hy
  have WA : ∀ w, Calls Try.prog 42 #[.int .u32 a] w fun e w' => e = .returned (.int .i64 x) ∧ Drawn0 w w' := fun w => by rw [← hx]; exact worth_calls a w ha ha'
  have WB : ∀ w, Calls Try.prog 42 #[.int .u32 b] w fun e w' => e = .returned (.int .i64 y) ∧ Drawn0 w w' := fun w => by rw [← hy]; exact worth_calls b w hb hb'
  have GA := Aside0.mk WA
  have GB := Aside0.mk WB
  clear hx hy WA WB
  by_cases hz : b = 0
  · subst hz
    go_enter Try.func21, Try.ntmps21
    repeat' (first | (with_reducible refine ex_then ?_) | (with_reducible refine ex_norm ?_) | (with_reducible refine ex_eq ?_) | ((with_reducible refine ex_ne ?_ ?_); exact rfl) | (with_reducible refine ex_thenR ?_) | (with_reducible refine ex_inN ?_) | (with_reducible refine ex_inR ?_) | (go_at_call 42; (first | (with_reducible refine (GA.out _).mono ?_) | (with_reducible refine (GB.out _).mono ?_)); intro e w' h; obtain ⟨h1, ⟨nq, rfl⟩⟩ := h; subst h1; simp only []) | go_values | go_skip | go_guarded | go_step | go_upon)
    go_ret2
    exact ⟨by simp [divQ, divR], by repeat (first | exact Drawn0.refl _ | apply Drawn0.step)⟩
  · have hz1 : (b == 0) = false := by simpa using hz
    have y0 : (y == 0) = false := by
      have := HY.out
      simpa using (by unfold wrap32 at this; omega : y ≠ 0)
    have y1 : ¬ (y = 0) := by simpa using y0
    have dv : divQ a b = Int.tdiv x y % 4294967296 := by unfold divQ; rw [if_neg hz, HX.out, HY.out]
    have tb := tdiv_bd x y ⟨xa0, xa1⟩
    rw [dv]
    have TB := Aside0.mk tb
    clear dv tb
    go_enter Try.func21, Try.ntmps21
    repeat' (first | (with_reducible refine ex_then ?_) | (with_reducible refine ex_norm ?_) | (with_reducible refine ex_eq ?_) | ((with_reducible refine ex_ne ?_ ?_); exact rfl) | (with_reducible refine ex_thenR ?_) | (with_reducible refine ex_inN ?_) | (with_reducible refine ex_inR ?_) | (go_at_call 42; (first | (with_reducible refine (GA.out _).mono ?_) | (with_reducible refine (GB.out _).mono ?_)); intro e w' h; obtain ⟨h1, ⟨nq, rfl⟩⟩ := h; subst h1; simp only []) | go_values | go_skip | go_guarded | go_step | go_upon)
    go_ret2
    exact ⟨by have tb := TB.out; first | rfl | (simp; done) | (rw [wrap64_id (Int.tdiv x y) (by omega)]; first | rfl | simp), by repeat (first | exact Drawn0.refl _ | apply Drawn0.step)⟩

set_option maxHeartbeats 4000000 in
set_option maxRecDepth 100000 in
theorem ref_46 (a b : Int) (w : World) (ha : 0 ≤ a) (ha' : a < 4294967296) (hb : 0 ≤ b) (hb' : b < 4294967296) :
    Calls Try.prog 21 #[.int .u8 46, .int .u32 a, .int .u32 b] w fun e w' => e = .returned (.tuple #[.int .u32 (divR a b), .int .i64 0]) ∧ Drawn0 w w' := by
  have xa := w32_bd a
  have xb := w32_bd b
  obtain ⟨x, hx⟩ : ∃ x, wrap32 a = x := ⟨_, rfl⟩
  obtain ⟨y, hy⟩ : ∃ y, wrap32 b = y := ⟨_, rfl⟩
  rw [hx] at xa
  rw [hy] at xb
  obtain ⟨xa0, xa1⟩ := xa
  obtain ⟨xb0, xb1⟩ := xb
  have HX := Aside0.mk hx
  have HY := Aside0.mk hy
  have WA : ∀ w, Calls Try.prog 42 #[.int .u32 a] w fun e w' => e = .returned (.int .i64 x) ∧ Drawn0 w w' := fun w => by rw [← hx]; exact worth_calls a w ha ha'
  have WB : ∀ w, Calls Try.prog 42 #[.int .u32 b] w fun e w' => e = .returned (.int .i64 y) ∧ Drawn0 w w' := fun w => by rw [← hy]; exact worth_calls b w hb hb'
  have GA := Aside0.mk WA
  have GB := Aside0.mk WB
  clear hx hy WA WB
  by_cases hz : b = 0
  · subst hz
    go_enter Try.func21, Try.ntmps21
    repeat' (first | (with_reducible refine ex_then ?_) | (with_reducible refine ex_norm ?_) | (with_reducible refine ex_eq ?_) | ((with_reducible refine ex_ne ?_ ?_); exact rfl) | (with_reducible refine ex_thenR ?_) | (with_reducible refine ex_inN ?_) | (with_reducible refine ex_inR ?_) | (go_at_call 42; (first | (with_reducible refine (GA.out _).mono ?_) | (with_reducible refine (GB.out _).mono ?_)); intro e w' h; obtain ⟨h1, ⟨nq, rfl⟩⟩ := h; subst h1; simp only []) | go_values | go_skip | go_guarded | go_step | go_upon)
    go_ret2
    exact ⟨by simp [divQ, divR], by repeat (first | exact Drawn0.refl _ | apply Drawn0.step)⟩
  · have hz1 : (b == 0) = false := by simpa using hz
    have y0 : (y == 0) = false := by
      have := HY.out
      simpa using (by unfold wrap32 at this; omega : y ≠ 0)
    have y1 : ¬ (y = 0) := by simpa using y0
    have dv : divR a b = Int.tmod x y % 4294967296 := by unfold divR; rw [if_neg hz, HX.out, HY.out]
    have tb := tdiv_bd x y ⟨xa0, xa1⟩
    rw [dv]
    have TB := Aside0.mk tb
    clear dv tb
    go_enter Try.func21, Try.ntmps21
    repeat' (first | (with_reducible refine ex_then ?_) | (with_reducible refine ex_norm ?_) | (with_reducible refine ex_eq ?_) | ((with_reducible refine ex_ne ?_ ?_); exact rfl) | (with_reducible refine ex_thenR ?_) | (with_reducible refine ex_inN ?_) | (with_reducible refine ex_inR ?_) | (go_at_call 42; (first | (with_reducible refine (GA.out _).mono ?_) | (with_reducible refine (GB.out _).mono ?_)); intro e w' h; obtain ⟨h1, ⟨nq, rfl⟩⟩ := h; subst h1; simp only []) | go_values | go_skip | go_guarded | go_step | go_upon)
    go_ret2
    exact ⟨by have tb := TB.out; first | rfl | (simp; done) | (rw [wrap64_id (Int.tdiv x y) (by omega)]; first | rfl | simp), by repeat (first | exact Drawn0.refl _ | apply Drawn0.step)⟩

set_option maxHeartbeats 4000000 in
set_option maxRecDepth 100000 in
theorem ref_45 (a b : Int) (w : World) (ha : 0 ≤ a) (ha' : a < 4294967296) (hb : 0 ≤ b) (hb' : b < 4294967296) :
    Calls Try.prog 21 #[.int .u8 45, .int .u32 a, .int .u32 b] w fun e w' => e = .returned (.tuple #[.int .u32 (if b = 0 then 4294967295 else a / b), .int .i64 0]) ∧ Drawn0 w w' := by
  have xa := w32_bd a
  have xb := w32_bd b
  obtain ⟨x, hx⟩ : ∃ x, wrap32 a = x := ⟨_, rfl⟩
  obtain ⟨y, hy⟩ : ∃ y, wrap32 b = y := ⟨_, rfl⟩
  rw [hx] at xa
  rw [hy] at xb
  obtain ⟨xa0, xa1⟩ := xa
  obtain ⟨xb0, xb1⟩ := xb
  have HX := Aside0.mk hx
  have HY := Aside0.mk hy
  have WA : ∀ w, Calls Try.prog 42 #[.int .u32 a] w fun e w' => e = .returned (.int .i64 x) ∧ Drawn0 w w' := fun w => by rw [← hx]; exact worth_calls a w ha ha'
  have WB : ∀ w, Calls Try.prog 42 #[.int .u32 b] w fun e w' => e = .returned (.int .i64 y) ∧ Drawn0 w w' := fun w => by rw [← hy]; exact worth_calls b w hb hb'
  have GA := Aside0.mk WA
  have GB := Aside0.mk WB
  clear hx hy WA WB
  by_cases hz : b = 0
  · subst hz
    go_enter Try.func21, Try.ntmps21
    repeat' (first | (with_reducible refine ex_then ?_) | (with_reducible refine ex_norm ?_) | (with_reducible refine ex_eq ?_) | ((with_reducible refine ex_ne ?_ ?_); exact rfl) | (with_reducible refine ex_thenR ?_) | (with_reducible refine ex_inN ?_) | (with_reducible refine ex_inR ?_) | (go_at_call 42; (first | (with_reducible refine (GA.out _).mono ?_) | (with_reducible refine (GB.out _).mono ?_)); intro e w' h; obtain ⟨h1, ⟨nq, rfl⟩⟩ := h; subst h1; simp only []) | go_values | go_skip | go_guarded | go_step | go_upon)
    go_ret2
    exact ⟨by simp, by repeat (first | exact Drawn0.refl _ | apply Drawn0.step)⟩
  · have hz1 : (b == 0) = false := by simpa using hz
    go_enter Try.func21, Try.ntmps21
    repeat' (first | (with_reducible refine ex_then ?_) | (with_reducible refine ex_norm ?_) | (with_reducible refine ex_eq ?_) | ((with_reducible refine ex_ne ?_ ?_); exact rfl) | (with_reducible refine ex_thenR ?_) | (with_reducible refine ex_inN ?_) | (with_reducible refine ex_inR ?_) | (go_at_call 42; (first | (with_reducible refine (GA.out _).mono ?_) | (with_reducible refine (GB.out _).mono ?_)); intro e w' h; obtain ⟨h1, ⟨nq, rfl⟩⟩ := h; subst h1; simp only []) | go_values | go_skip | go_guarded | go_step | go_upon)
    go_ret2
    have q1 : a.tdiv b = a / b := Int.tdiv_eq_ediv_of_nonneg ha
    have q2 : a / b % 4294967296 = a / b := Int.emod_eq_of_lt (Int.ediv_nonneg ha hb) (Int.lt_of_le_of_lt (Int.ediv_le_self b ha) ha')
    have q3 : a.tmod b = a % b := Int.tmod_eq_emod_of_nonneg ha
    exact ⟨by simp [hz, q1, q2, q3], by repeat (first | exact Drawn0.refl _ | apply Drawn0.step)⟩

set_option maxHeartbeats 4000000 in
set_option maxRecDepth 100000 in
theorem ref_47 (a b : Int) (w : World) (ha : 0 ≤ a) (ha' : a < 4294967296) (hb : 0 ≤ b) (hb' : b < 4294967296) :
    Calls Try.prog 21 #[.int .u8 47, .int .u32 a, .int .u32 b] w fun e w' => e = .returned (.tuple #[.int .u32 (if b = 0 then a else a % b), .int .i64 0]) ∧ Drawn0 w w' := by
  have xa := w32_bd a
  have xb := w32_bd b
  obtain ⟨x, hx⟩ : ∃ x, wrap32 a = x := ⟨_, rfl⟩
  obtain ⟨y, hy⟩ : ∃ y, wrap32 b = y := ⟨_, rfl⟩
  rw [hx] at xa
  rw [hy] at xb
  obtain ⟨xa0, xa1⟩ := xa
  obtain ⟨xb0, xb1⟩ := xb
  have HX := Aside0.mk hx
  have HY := Aside0.mk hy
  have WA : ∀ w, Calls Try.prog 42 #[.int .u32 a] w fun e w' => e = .returned (.int .i64 x) ∧ Drawn0 w w' := fun w => by rw [← hx]; exact worth_calls a w ha ha'
  have WB : ∀ w, Calls Try.prog 42 #[.int .u32 b] w fun e w' => e = .returned (.int .i64 y) ∧ Drawn0 w w' := fun w => by rw [← hy]; exact worth_calls b w hb hb'
  have GA := Aside0.mk WA
  have GB := Aside0.mk WB
  clear hx hy WA WB
  by_cases hz : b = 0
  · subst hz
    go_enter Try.func21, Try.ntmps21
    repeat' (first | (with_reducible refine ex_then ?_) | (with_reducible refine ex_norm ?_) | (with_reducible refine ex_eq ?_) | ((with_reducible refine ex_ne ?_ ?_); exact rfl) | (with_reducible refine ex_thenR ?_) | (with_reducible refine ex_inN ?_) | (with_reducible refine ex_inR ?_) | (go_at_call 42; (first | (with_reducible refine (GA.out _).mono ?_) | (with_reducible refine (GB.out _).mono ?_)); intro e w' h; obtain ⟨h1, ⟨nq, rfl⟩⟩ := h; subst h1; simp only []) | go_values | go_skip | go_guarded | go_step | go_upon)
    go_ret2
    exact ⟨by simp, by repeat (first | exact Drawn0.refl _ | apply Drawn0.step)⟩
  · have hz1 : (b == 0) = false := by simpa using hz
    go_enter Try.func21, Try.ntmps21
    repeat' (first | (with_reducible refine ex_then ?_) | (with_reducible refine ex_norm ?_) | (with_reducible refine ex_eq ?_) | ((with_reducible refine ex_ne ?_ ?_); exact rfl) | (with_reducible refine ex_thenR ?_) | (with_reducible refine ex_inN ?_) | (with_reducible refine ex_inR ?_) | (go_at_call 42; (first | (with_reducible refine (GA.out _).mono ?_) | (with_reducible refine (GB.out _).mono ?_)); intro e w' h; obtain ⟨h1, ⟨nq, rfl⟩⟩ := h; subst h1; simp only []) | go_values | go_skip | go_guarded | go_step | go_upon)
    go_ret2
    have q1 : a.tdiv b = a / b := Int.tdiv_eq_ediv_of_nonneg ha
    have q2 : a / b % 4294967296 = a / b := Int.emod_eq_of_lt (Int.ediv_nonneg ha hb) (Int.lt_of_le_of_lt (Int.ediv_le_self b ha) ha')
    have q3 : a.tmod b = a % b := Int.tmod_eq_emod_of_nonneg ha
    exact ⟨by simp [hz, q1, q2, q3], by repeat (first | exact Drawn0.refl _ | apply Drawn0.step)⟩

set_option maxHeartbeats 4000000 in
set_option maxRecDepth 100000 in
theorem ref_no (o a b : Int) (w : World) (ha : 0 ≤ a) (ha' : a < 4294967296) (hb : 0 ≤ b) (hb' : b < 4294967296) (h31 : (o == 31) = false) (h30 : (o == 30) = false) (h21 : (o == 21) = false) (h39 : (o == 39) = false) (h26 : (o == 26) = false) (h38 : (o == 38) = false) (h25 : (o == 25) = false) (h35 : (o == 35) = false) (h24 : (o == 24) = false) (h33 : (o == 33) = false) (h22 : (o == 22) = false) (h34 : (o == 34) = false) (h23 : (o == 23) = false) (h32 : (o == 32) = false) (h27 : (o == 27) = false) (h36 : (o == 36) = false) (h28 : (o == 28) = false) (h37 : (o == 37) = false) (h29 : (o == 29) = false) (h40 : (o == 40) = false) (h41 : (o == 41) = false) (h42 : (o == 42) = false) (h43 : (o == 43) = false) (h44 : (o == 44) = false) (h46 : (o == 46) = false) (h45 : (o == 45) = false) (h47 : (o == 47) = false) :
    Calls Try.prog 21 #[.int .u8 o, .int .u32 a, .int .u32 b] w fun e w' => e = .returned (.tuple #[.int .u32 0, .int .i64 2]) ∧ Drawn0 w w' := by
  go_enter Try.func21, Try.ntmps21
  repeat' (first | (with_reducible refine ex_then ?_) | (with_reducible refine ex_norm ?_) | (with_reducible refine ex_eq ?_) | ((with_reducible refine ex_ne ?_ ?_); exact rfl) | (with_reducible refine ex_thenR ?_) | (with_reducible refine ex_inN ?_) | (with_reducible refine ex_inR ?_) | (go_at_call 42; (first | (with_reducible refine (worth_calls a _ ha ha').mono ?_) | (with_reducible refine (worth_calls b _ hb hb').mono ?_)); intro e w' h; obtain ⟨h1, ⟨nq, rfl⟩⟩ := h; subst h1; simp only []) | go_values | go_skip | go_guarded | go_step | go_upon)
  go_ret2
  exact ⟨by first | rfl | simp, by repeat (first | exact Drawn0.refl _ | apply Drawn0.step)⟩

theorem ref_calls (o a b : Int) (w : World) (ha : 0 ≤ a) (ha' : a < 4294967296) (hb : 0 ≤ b) (hb' : b < 4294967296) :
    Calls Try.prog 21 #[.int .u8 o, .int .u32 a, .int .u32 b] w fun e w' => e = .returned (.tuple #[.int .u32 (aluDo o a b).1, .int .i64 (aluDo o a b).2]) ∧ Drawn0 w w' := by
  by_cases h31 : o = 31
  · subst h31; exact ref_31 a b w ha ha' hb hb'
  by_cases h30 : o = 30
  · subst h30; exact ref_30 a b w ha ha' hb hb'
  by_cases h21 : o = 21
  · subst h21; exact ref_21 a b w ha ha' hb hb'
  by_cases h39 : o = 39
  · subst h39; exact ref_39 a b w ha ha' hb hb'
  by_cases h26 : o = 26
  · subst h26; exact ref_26 a b w ha ha' hb hb'
  by_cases h38 : o = 38
  · subst h38; exact ref_38 a b w ha ha' hb hb'
  by_cases h25 : o = 25
  · subst h25; exact ref_25 a b w ha ha' hb hb'
  by_cases h35 : o = 35
  · subst h35; exact ref_35 a b w ha ha' hb hb'
  by_cases h24 : o = 24
  · subst h24; exact ref_24 a b w ha ha' hb hb'
  by_cases h33 : o = 33
  · subst h33; exact ref_33 a b w ha ha' hb hb'
  by_cases h22 : o = 22
  · subst h22; exact ref_22 a b w ha ha' hb hb'
  by_cases h34 : o = 34
  · subst h34; exact ref_34 a b w ha ha' hb hb'
  by_cases h23 : o = 23
  · subst h23; exact ref_23 a b w ha ha' hb hb'
  by_cases h32 : o = 32
  · subst h32; exact ref_32 a b w ha ha' hb hb'
  by_cases h27 : o = 27
  · subst h27; exact ref_27 a b w ha ha' hb hb'
  by_cases h36 : o = 36
  · subst h36; exact ref_36 a b w ha ha' hb hb'
  by_cases h28 : o = 28
  · subst h28; exact ref_28 a b w ha ha' hb hb'
  by_cases h37 : o = 37
  · subst h37; exact ref_37 a b w ha ha' hb hb'
  by_cases h29 : o = 29
  · subst h29; exact ref_29 a b w ha ha' hb hb'
  by_cases h40 : o = 40
  · subst h40; exact ref_40 a b w ha ha' hb hb'
  by_cases h41 : o = 41
  · subst h41; exact ref_41 a b w ha ha' hb hb'
  by_cases h42 : o = 42
  · subst h42; exact ref_42 a b w ha ha' hb hb'
  by_cases h43 : o = 43
  · subst h43; exact ref_43 a b w ha ha' hb hb'
  by_cases h44 : o = 44
  · subst h44; exact ref_44 a b w ha ha' hb hb'
  by_cases h46 : o = 46
  · subst h46; exact ref_46 a b w ha ha' hb hb'
  by_cases h45 : o = 45
  · subst h45; exact ref_45 a b w ha ha' hb hb'
  by_cases h47 : o = 47
  · subst h47; exact ref_47 a b w ha ha' hb hb'
  have hd : aluDo o a b = (0, 2) := by unfold aluDo; rw [if_neg h31, if_neg h30, if_neg h21, if_neg h39, if_neg h26, if_neg h38, if_neg h25, if_neg h35, if_neg h24, if_neg h33, if_neg h22, if_neg h34, if_neg h23, if_neg h32, if_neg h27, if_neg h36, if_neg h28, if_neg h37, if_neg h29, if_neg h40, if_neg h41, if_neg h42, if_neg h43, if_neg h44, if_neg h46, if_neg h45, if_neg h47]
  rw [hd]
  exact ref_no o a b w ha ha' hb hb' (by simpa using h31) (by simpa using h30) (by simpa using h21) (by simpa using h39) (by simpa using h26) (by simpa using h38) (by simpa using h25) (by simpa using h35) (by simpa using h24) (by simpa using h33) (by simpa using h22) (by simpa using h34) (by simpa using h23) (by simpa using h32) (by simpa using h27) (by simpa using h36) (by simpa using h28) (by simpa using h37) (by simpa using h29) (by simpa using h40) (by simpa using h41) (by simpa using h42) (by simpa using h43) (by simpa using h44) (by simpa using h46) (by simpa using h45) (by simpa using h47)

theorem refis_calls (o a b : Int) (w : World) (ha : 0 ≤ a) (ha' : a < 4294967296) (hb : 0 ≤ b) (hb' : b < 4294967296) :
    Calls Try.prog 23 #[.int .u8 o, .int .u32 a, .int .u32 b] w fun e w' => e = .returned (.tuple #[.bool (aluIs o a b).1, .int .i64 (aluIs o a b).2]) ∧ Drawn0 w w' := by
  have hge : ∀ x y : Int, decide (y ≤ x) = !decide (x < y) := fun x y => by rw [← decide_not]; exact decide_eq_decide.2 (by omega)
  have WA : ∀ w, Calls Try.prog 42 #[.int .u32 a] w fun e w' => e = .returned (.int .i64 (wrap32 a)) ∧ Drawn0 w w' := fun w => worth_calls a w ha ha'
  have WB : ∀ w, Calls Try.prog 42 #[.int .u32 b] w fun e w' => e = .returned (.int .i64 (wrap32 b)) ∧ Drawn0 w w' := fun w => worth_calls b w hb hb'
  have GA := Aside0.mk WA
  have GB := Aside0.mk WB
  clear WA WB
  have HGE := Aside0.mk hge
  clear hge
  by_cases h5 : o = 5
  · subst h5
    show Calls Try.prog 23 #[.int .u8 5, .int .u32 a, .int .u32 b] w fun e w' => e = .returned (.tuple #[.bool (a == b), .int .i64 0]) ∧ Drawn0 w w'
    go_enter Try.func23, Try.ntmps23
    repeat' (first | (with_reducible refine ex_then ?_) | (with_reducible refine ex_norm ?_) | (with_reducible refine ex_eq ?_) | ((with_reducible refine ex_ne ?_ ?_); exact rfl) | (with_reducible refine ex_thenR ?_) | (with_reducible refine ex_inN ?_) | (with_reducible refine ex_inR ?_) | (go_at_call 42; (first | (with_reducible refine (GA.out _).mono ?_) | (with_reducible refine (GB.out _).mono ?_)); intro e w' h; obtain ⟨h1, ⟨nq, rfl⟩⟩ := h; subst h1; simp only []) | go_values | go_skip | go_guarded | go_step | go_upon)
    go_ret2
    exact ⟨by first | rfl | (simp; done) | (simp [bne]; done), by repeat (first | exact Drawn0.refl _ | apply Drawn0.step)⟩
  by_cases h6 : o = 6
  · subst h6
    show Calls Try.prog 23 #[.int .u8 6, .int .u32 a, .int .u32 b] w fun e w' => e = .returned (.tuple #[.bool (!(a == b)), .int .i64 0]) ∧ Drawn0 w w'
    go_enter Try.func23, Try.ntmps23
    repeat' (first | (with_reducible refine ex_then ?_) | (with_reducible refine ex_norm ?_) | (with_reducible refine ex_eq ?_) | ((with_reducible refine ex_ne ?_ ?_); exact rfl) | (with_reducible refine ex_thenR ?_) | (with_reducible refine ex_inN ?_) | (with_reducible refine ex_inR ?_) | (go_at_call 42; (first | (with_reducible refine (GA.out _).mono ?_) | (with_reducible refine (GB.out _).mono ?_)); intro e w' h; obtain ⟨h1, ⟨nq, rfl⟩⟩ := h; subst h1; simp only []) | go_values | go_skip | go_guarded | go_step | go_upon)
    go_ret2
    exact ⟨by first | rfl | (simp; done) | (simp [bne]; done), by repeat (first | exact Drawn0.refl _ | apply Drawn0.step)⟩
  by_cases h7 : o = 7
  · subst h7
    show Calls Try.prog 23 #[.int .u8 7, .int .u32 a, .int .u32 b] w fun e w' => e = .returned (.tuple #[.bool (decide (wrap32 a < wrap32 b)), .int .i64 0]) ∧ Drawn0 w w'
    go_enter Try.func23, Try.ntmps23
    repeat' (first | (with_reducible refine ex_then ?_) | (with_reducible refine ex_norm ?_) | (with_reducible refine ex_eq ?_) | ((with_reducible refine ex_ne ?_ ?_); exact rfl) | (with_reducible refine ex_thenR ?_) | (with_reducible refine ex_inN ?_) | (with_reducible refine ex_inR ?_) | (go_at_call 42; (first | (with_reducible refine (GA.out _).mono ?_) | (with_reducible refine (GB.out _).mono ?_)); intro e w' h; obtain ⟨h1, ⟨nq, rfl⟩⟩ := h; subst h1; simp only []) | go_values | go_skip | go_guarded | go_step | go_upon)
    go_ret2
    exact ⟨by first | rfl | (simp; done) | (simp [bne]; done), by repeat (first | exact Drawn0.refl _ | apply Drawn0.step)⟩
  by_cases h8 : o = 8
  · subst h8
    show Calls Try.prog 23 #[.int .u8 8, .int .u32 a, .int .u32 b] w fun e w' => e = .returned (.tuple #[.bool (!decide (wrap32 a < wrap32 b)), .int .i64 0]) ∧ Drawn0 w w'
    rw [← HGE.out]
    go_enter Try.func23, Try.ntmps23
    repeat' (first | (with_reducible refine ex_then ?_) | (with_reducible refine ex_norm ?_) | (with_reducible refine ex_eq ?_) | ((with_reducible refine ex_ne ?_ ?_); exact rfl) | (with_reducible refine ex_thenR ?_) | (with_reducible refine ex_inN ?_) | (with_reducible refine ex_inR ?_) | (go_at_call 42; (first | (with_reducible refine (GA.out _).mono ?_) | (with_reducible refine (GB.out _).mono ?_)); intro e w' h; obtain ⟨h1, ⟨nq, rfl⟩⟩ := h; subst h1; simp only []) | go_values | go_skip | go_guarded | go_step | go_upon)
    go_ret2
    exact ⟨by first | rfl | (simp; done) | (simp [bne]; done), by repeat (first | exact Drawn0.refl _ | apply Drawn0.step)⟩
  by_cases h9 : o = 9
  · subst h9
    show Calls Try.prog 23 #[.int .u8 9, .int .u32 a, .int .u32 b] w fun e w' => e = .returned (.tuple #[.bool (decide (a < b)), .int .i64 0]) ∧ Drawn0 w w'
    go_enter Try.func23, Try.ntmps23
    repeat' (first | (with_reducible refine ex_then ?_) | (with_reducible refine ex_norm ?_) | (with_reducible refine ex_eq ?_) | ((with_reducible refine ex_ne ?_ ?_); exact rfl) | (with_reducible refine ex_thenR ?_) | (with_reducible refine ex_inN ?_) | (with_reducible refine ex_inR ?_) | (go_at_call 42; (first | (with_reducible refine (GA.out _).mono ?_) | (with_reducible refine (GB.out _).mono ?_)); intro e w' h; obtain ⟨h1, ⟨nq, rfl⟩⟩ := h; subst h1; simp only []) | go_values | go_skip | go_guarded | go_step | go_upon)
    go_ret2
    exact ⟨by first | rfl | (simp; done) | (simp [bne]; done), by repeat (first | exact Drawn0.refl _ | apply Drawn0.step)⟩
  by_cases h10 : o = 10
  · subst h10
    show Calls Try.prog 23 #[.int .u8 10, .int .u32 a, .int .u32 b] w fun e w' => e = .returned (.tuple #[.bool (!decide (a < b)), .int .i64 0]) ∧ Drawn0 w w'
    rw [← HGE.out]
    go_enter Try.func23, Try.ntmps23
    repeat' (first | (with_reducible refine ex_then ?_) | (with_reducible refine ex_norm ?_) | (with_reducible refine ex_eq ?_) | ((with_reducible refine ex_ne ?_ ?_); exact rfl) | (with_reducible refine ex_thenR ?_) | (with_reducible refine ex_inN ?_) | (with_reducible refine ex_inR ?_) | (go_at_call 42; (first | (with_reducible refine (GA.out _).mono ?_) | (with_reducible refine (GB.out _).mono ?_)); intro e w' h; obtain ⟨h1, ⟨nq, rfl⟩⟩ := h; subst h1; simp only []) | go_values | go_skip | go_guarded | go_step | go_upon)
    go_ret2
    exact ⟨by first | rfl | (simp; done) | (simp [bne]; done), by repeat (first | exact Drawn0.refl _ | apply Drawn0.step)⟩
  have hd : aluIs o a b = (false, 2) := by unfold aluIs; rw [if_neg h5, if_neg h6, if_neg h7, if_neg h8, if_neg h9, if_neg h10]
  rw [hd]
  have g5 : (o == 5) = false := by simpa using h5
  have g6 : (o == 6) = false := by simpa using h6
  have g7 : (o == 7) = false := by simpa using h7
  have g8 : (o == 8) = false := by simpa using h8
  have g9 : (o == 9) = false := by simpa using h9
  have g10 : (o == 10) = false := by simpa using h10
  clear h5 h6 h7 h8 h9 h10 hd
  go_enter Try.func23, Try.ntmps23
  repeat' (first | (with_reducible refine ex_then ?_) | (with_reducible refine ex_norm ?_) | (with_reducible refine ex_eq ?_) | ((with_reducible refine ex_ne ?_ ?_); exact rfl) | (with_reducible refine ex_thenR ?_) | (with_reducible refine ex_inN ?_) | (with_reducible refine ex_inR ?_) | (go_at_call 42; (first | (with_reducible refine (GA.out _).mono ?_) | (with_reducible refine (GB.out _).mono ?_)); intro e w' h; obtain ⟨h1, ⟨nq, rfl⟩⟩ := h; subst h1; simp only []) | go_values | go_skip | go_guarded | go_step | go_upon)
  go_ret2
  exact ⟨by first | rfl | simp, by repeat (first | exact Drawn0.refl _ | apply Drawn0.step)⟩

set_option maxHeartbeats 4000000 in
set_option maxRecDepth 100000 in
theorem aluDoes_walk (o a b : Int) (w : World) (w0 : (Lit.int .u8 o).wf = true) (w1 : (Lit.int .u32 a).wf = true) (w2 : (Lit.int .u32 b).wf = true) :
    Calls Try.prog 5 #[.int .u8 o, .int .u32 a, .int .u32 b] w fun e w' => e = .returned (.bool true) ∧ Below w.heap.size w w' := by
  have hs' : 0 ≤ a ∧ a < 4294967296 := by simp [Lit.wf, IntKind.min, IntKind.max, IntKind.signed, IntKind.bits] at w1; omega
  have ha' : 0 ≤ b ∧ b < 4294967296 := by simp [Lit.wf, IntKind.min, IntKind.max, IntKind.signed, IntKind.bits] at w2; omega
  clear w0 w1 w2
  obtain ⟨a0, a1⟩ := hs'
  obtain ⟨b0, b1⟩ := ha'
  refine Calls.mono ?_ (fun e w' h => ⟨h.1, h.2.below⟩ : ∀ e w', (e = .returned (.bool true) ∧ Drawn0 w w') → _)
  have C1 : ∀ w, Calls Try.prog 20 #[.int .u8 o, .int .u32 a, .int .u32 b] w fun e w' => e = .returned (.tuple #[.int .u32 (aluDo o a b).1, .int .i64 (aluDo o a b).2]) ∧ Drawn0 w w' := fun w => do_calls o a b w a0 a1 b0 b1
  have C2 : ∀ w, Calls Try.prog 21 #[.int .u8 o, .int .u32 a, .int .u32 b] w fun e w' => e = .returned (.tuple #[.int .u32 (aluDo o a b).1, .int .i64 (aluDo o a b).2]) ∧ Drawn0 w w' := fun w => ref_calls o a b w a0 a1 b0 b1
  have C3 : ∀ w, Calls Try.prog 22 #[.int .u8 o, .int .u32 a, .int .u32 b] w fun e w' => e = .returned (.tuple #[.bool (aluIs o a b).1, .int .i64 (aluIs o a b).2]) ∧ Drawn0 w w' := fun w => is_calls o a b w
  have C4 : ∀ w, Calls Try.prog 23 #[.int .u8 o, .int .u32 a, .int .u32 b] w fun e w' => e = .returned (.tuple #[.bool (aluIs o a b).1, .int .i64 (aluIs o a b).2]) ∧ Drawn0 w w' := fun w => refis_calls o a b w a0 a1 b0 b1
  generalize (aluDo o a b).1 = d1 at *
  generalize (aluDo o a b).2 = d2 at *
  generalize (aluIs o a b).1 = i1 at *
  generalize (aluIs o a b).2 = i2 at *
  have G1 := Aside0.mk C1; have G2 := Aside0.mk C2; have G3 := Aside0.mk C3; have G4 := Aside0.mk C4
  clear C1 C2 C3 C4
  cases i1
  all_goals
    go_enter Try.func5, Try.ntmps5
    repeat' (first | (with_reducible refine ex_then ?_) | (with_reducible refine ex_norm ?_) | (with_reducible refine ex_eq ?_) | ((with_reducible refine ex_ne ?_ ?_); exact rfl) | (with_reducible refine ex_thenR ?_) | (with_reducible refine ex_inN ?_) | (with_reducible refine ex_inR ?_) | (go_at_call 20; (first | (with_reducible refine (G1.out _).mono ?_)); intro e w' h; obtain ⟨h1, ⟨nq, rfl⟩⟩ := h; subst h1; simp only []) | (go_at_call 21; (first | (with_reducible refine (G2.out _).mono ?_)); intro e w' h; obtain ⟨h1, ⟨nq, rfl⟩⟩ := h; subst h1; simp only []) | (go_at_call 22; (first | (with_reducible refine (G3.out _).mono ?_)); intro e w' h; obtain ⟨h1, ⟨nq, rfl⟩⟩ := h; subst h1; simp only []) | (go_at_call 23; (first | (with_reducible refine (G4.out _).mono ?_)); intro e w' h; obtain ⟨h1, ⟨nq, rfl⟩⟩ := h; subst h1; simp only []) | (go_at_call 24; (first | (with_reducible refine (works_calls _).mono ?_)); intro e w' h; obtain ⟨h1, ⟨nq, rfl⟩⟩ := h; subst h1; simp only []) | go_values | go_skip | go_guarded | go_step | go_upon)
    go_ret
    exact ⟨by first | rfl | simp, by repeat (first | exact Drawn0.refl _ | apply Drawn0.step)⟩
end Go.Proofs.Ythkbjoglhfclmaa.Alu
