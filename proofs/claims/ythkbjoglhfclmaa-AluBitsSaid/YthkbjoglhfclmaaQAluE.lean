/- The walk of the law AluBits. No condition. -/
import Derived.Test.YthkbjoglhfclmaaQAluC
namespace Go.Proofs.Ythkbjoglhfclmaa.Alu
open Go.RowKit Go.Proofs.YthkbjoglhfclmaaW.PrintWords Go.Proofs.YthkbjoglhfclmaaW.PrintLast Go.Proofs.YthkbjoglhfclmaaW.PrintMore
set_option linter.unusedVariables false
set_option linter.unusedSimpArgs false
theorem bdB_u32 {a : Int} (h : (Lit.int .u32 a).wf = true) : 0 ≤ a ∧ a < 4294967296 := by
  simp [Lit.wf, IntKind.min, IntKind.max, IntKind.signed, IntKind.bits] at h; omega
theorem bits_sum (a b : Int) : (Go.bits .and .u32 a b + Go.bits .xor .u32 a b) % 4294967296 = Go.bits .or .u32 a b := by
  have e : (BitVec.ofInt 32 a &&& BitVec.ofInt 32 b) + (BitVec.ofInt 32 a ^^^ BitVec.ofInt 32 b) = BitVec.ofInt 32 a ||| BitVec.ofInt 32 b := by
    rw [BitVec.add_eq_or_of_and_eq_zero]
    · apply BitVec.eq_of_getLsbD_eq
      intro i hi
      simp only [BitVec.getLsbD_or, BitVec.getLsbD_and, BitVec.getLsbD_xor]
      cases (BitVec.ofInt 32 a).getLsbD i <;> cases (BitVec.ofInt 32 b).getLsbD i <;> rfl
    · apply BitVec.eq_of_getLsbD_eq
      intro i hi
      simp only [BitVec.getLsbD_and, BitVec.getLsbD_xor, BitVec.getLsbD_zero]
      cases (BitVec.ofInt 32 a).getLsbD i <;> cases (BitVec.ofInt 32 b).getLsbD i <;> rfl
  show (IntKind.u32.wrap ((BitVec.ofInt 32 a &&& BitVec.ofInt 32 b).toNat) + IntKind.u32.wrap ((BitVec.ofInt 32 a ^^^ BitVec.ofInt 32 b).toNat)) % 4294967296 = IntKind.u32.wrap ((BitVec.ofInt 32 a ||| BitVec.ofInt 32 b).toNat)
  rw [← e, BitVec.toNat_add, IntKind.wrap_u32, IntKind.wrap_u32, IntKind.wrap_u32]
  omega

set_option maxHeartbeats 8000000 in
set_option maxRecDepth 100000 in
theorem bits_true (a b x y z s p u lo hi : Int) (w : World)
    (C39 : Aside0 (∀ w, Calls Try.prog 20 #[.int .u8 39, .int .u32 a, .int .u32 b] w fun e w' => e = .returned (.tuple #[.int .u32 x, .int .i64 0]) ∧ Drawn0 w w'))
    (C38 : Aside0 (∀ w, Calls Try.prog 20 #[.int .u8 38, .int .u32 a, .int .u32 b] w fun e w' => e = .returned (.tuple #[.int .u32 y, .int .i64 0]) ∧ Drawn0 w w'))
    (C35 : Aside0 (∀ w, Calls Try.prog 20 #[.int .u8 35, .int .u32 a, .int .u32 b] w fun e w' => e = .returned (.tuple #[.int .u32 z, .int .i64 0]) ∧ Drawn0 w w'))
    (C30 : Aside0 (∀ w, Calls Try.prog 20 #[.int .u8 30, .int .u32 a, .int .u32 b] w fun e w' => e = .returned (.tuple #[.int .u32 s, .int .i64 0]) ∧ Drawn0 w w'))
    (C32 : Aside0 (∀ w, Calls Try.prog 20 #[.int .u8 32, .int .u32 a, .int .u32 b] w fun e w' => e = .returned (.tuple #[.int .u32 p, .int .i64 0]) ∧ Drawn0 w w'))
    (C27 : Aside0 (∀ w, Calls Try.prog 20 #[.int .u8 27, .int .u32 a, .int .u32 (b % 32)] w fun e w' => e = .returned (.tuple #[.int .u32 p, .int .i64 0]) ∧ Drawn0 w w'))
    (C36 : Aside0 (∀ w, Calls Try.prog 20 #[.int .u8 36, .int .u32 a, .int .u32 b] w fun e w' => e = .returned (.tuple #[.int .u32 u, .int .i64 0]) ∧ Drawn0 w w'))
    (C28 : Aside0 (∀ w, Calls Try.prog 20 #[.int .u8 28, .int .u32 a, .int .u32 (b % 32)] w fun e w' => e = .returned (.tuple #[.int .u32 u, .int .i64 0]) ∧ Drawn0 w w'))
    (C40 : Aside0 (∀ w, Calls Try.prog 20 #[.int .u8 40, .int .u32 a, .int .u32 b] w fun e w' => e = .returned (.tuple #[.int .u32 lo, .int .i64 0]) ∧ Drawn0 w w'))
    (C43 : Aside0 (∀ w, Calls Try.prog 20 #[.int .u8 43, .int .u32 a, .int .u32 b] w fun e w' => e = .returned (.tuple #[.int .u32 hi, .int .i64 0]) ∧ Drawn0 w w'))
    (C31 : Aside0 (∀ w, Calls Try.prog 20 #[.int .u8 31, .int .u32 s, .int .u32 b] w fun e w' => e = .returned (.tuple #[.int .u32 a, .int .i64 0]) ∧ Drawn0 w w'))
    (hb0 : 0 ≤ b) (hb1 : b < 4294967296) (hh0 : 0 ≤ hi) (hh1 : hi < 4294967296) (hl0 : 0 ≤ lo) (hl1 : lo < 4294967296) (ha0 : 0 ≤ a) (ha1 : a < 4294967296)
    (h1 : ((x + z) % 4294967296 == y) = true) (h2 : (hi * 4294967296 + lo == IntKind.u64.wrap (a * b)) = true) :
    Calls Try.prog 8 #[.int .u32 a, .int .u32 b] w fun e w' => e = .returned (.bool true) ∧ Drawn0 w w' := by
  go_enter Try.func8, Try.ntmps8
  repeat' (first | (with_reducible refine ex_then ?_) | (with_reducible refine ex_norm ?_) | (with_reducible refine ex_eq ?_) | ((with_reducible refine ex_ne ?_ ?_); exact rfl) | (with_reducible refine ex_thenR ?_) | (with_reducible refine ex_inN ?_) | (with_reducible refine ex_inR ?_) | (go_at_call 20; (first | (with_reducible refine (C39.out _).mono ?_) | (with_reducible refine (C38.out _).mono ?_) | (with_reducible refine (C35.out _).mono ?_) | (with_reducible refine (C30.out _).mono ?_) | (with_reducible refine (C32.out _).mono ?_) | (with_reducible refine (C27.out _).mono ?_) | (with_reducible refine (C36.out _).mono ?_) | (with_reducible refine (C28.out _).mono ?_) | (with_reducible refine (C40.out _).mono ?_) | (with_reducible refine (C43.out _).mono ?_) | (with_reducible refine (C31.out _).mono ?_)); intro e w' h; obtain ⟨h1, ⟨nq, rfl⟩⟩ := h; subst h1; simp only []) | (go_at_call 24; refine (works_calls _).mono ?_; intro e w' h; obtain ⟨h1, ⟨nq, rfl⟩⟩ := h; subst h1; simp only []) | go_values | go_skip | go_guarded | go_step | go_upon)
  go_ret
  exact ⟨by first | rfl | simp, by repeat (first | exact Drawn0.refl _ | apply Drawn0.step)⟩

theorem aluBits_walk (a b : Int) (w : World) (w0 : (Lit.int .u32 a).wf = true) (w1 : (Lit.int .u32 b).wf = true) :
    Calls Try.prog 8 #[.int .u32 a, .int .u32 b] w fun e w' => e = .returned (.bool true) ∧ Below w.heap.size w w' := by
  obtain ⟨ha, ha'⟩ := bdB_u32 w0
  obtain ⟨hb, hb'⟩ := bdB_u32 w1
  refine Calls.mono ?_ (fun e w' h => ⟨h.1, h.2.below⟩ : ∀ e w', (e = .returned (.bool true) ∧ Drawn0 w w') → _)
  have hm : b % 32 % 32 = b % 32 := by omega
  have hm0 : 0 ≤ b % 32 ∧ b % 32 < 4294967296 := by omega
  have hp0 := Int.mul_nonneg ha hb
  have hp1 : a * b ≤ 4294967295 * 4294967295 := Int.mul_le_mul (by omega) (by omega) hb (by omega)
  have hw : IntKind.u64.wrap (a * b) = a * b := by simp [IntKind.wrap, IntKind.bits, IntKind.signed]; omega
  refine bits_true a b (Go.bits .and .u32 a b) (Go.bits .or .u32 a b) (Go.bits .xor .u32 a b) ((a + b) % 4294967296) (a * 2 ^ (b % 32).toNat % 4294967296) (a / 2 ^ (b % 32).toNat)
    (a * b % 4294967296) (a * b / 4294967296 % 4294967296) w ⟨fun w => do_39 a b w ha ha' hb hb'⟩ ⟨fun w => do_38 a b w ha ha' hb hb'⟩ ⟨fun w => do_35 a b w ha ha' hb hb'⟩ ⟨fun w => do_30 a b w ha ha' hb hb'⟩
    ⟨fun w => do_32 a b w ha ha' hb hb'⟩ ⟨fun w => by have h := do_27 a (b % 32) w ha ha' hm0.1 hm0.2; rw [hm] at h; exact h⟩
    ⟨fun w => do_36 a b w ha ha' hb hb'⟩ ⟨fun w => by have h := do_28 a (b % 32) w ha ha' hm0.1 hm0.2; rw [hm] at h; exact h⟩
    ⟨fun w => do_40 a b w ha ha' hb hb'⟩ ⟨fun w => do_43 a b w ha ha' hb hb'⟩ ⟨fun w => ?_⟩ hb hb' (by omega) (by omega) (by omega) (by omega) ha ha' (beq_iff_eq.2 (bits_sum a b)) ?_
  · have h := do_31 ((a + b) % 4294967296) b w (by omega) (by omega) hb hb'
    rw [show ((a + b) % 4294967296 - b) % 4294967296 = a from by omega] at h
    exact h
  · rw [beq_iff_eq, hw]; generalize a * b = m at *; omega
end Go.Proofs.Ythkbjoglhfclmaa.Alu
