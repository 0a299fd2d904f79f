/- Contracts of the package alu. No condition beyond the words' bounds. -/
import Derived.Test.YtadbonmkockakaaWWords
import Derived.Test.YtadbonmkockakaaWLast
import Derived.Test.YtadbonmkockakaaProg
import Derived.WalkKit
import Derived.KernelRfl
import Derived.RowKit3
import Derived.Deep.QuietTactic
import Derived.BigQuiet
import Derived.WideLaws
import Derived.Laws.BitsLemmas
namespace Go.Proofs.Ytadbonmkockakaa.Alu
open Go.RowKit Go.Proofs.YtadbonmkockakaaW.PrintWords Go.Proofs.YtadbonmkockakaaW.PrintLast
set_option linter.unusedVariables false
set_option linter.unusedSimpArgs false
section
variable {K : Act → World → Prop} {Q : Exit → Act → World → Prop} {n m : Nat} {a : Act} {w : World}
theorem ex_then (h : Q (.exit n) a w) : Exit.then K Q (.exit n) a w := h
theorem ex_thenR (h : Q .ret a w) : Exit.then K Q .ret a w := h
theorem ex_norm (h : K a w) : Exit.then K Q .normal a w := h
theorem ex_eq (h : Q .normal a w) : Exit.inBlock n Q (.exit n) a w := by
  show (if n = n then Q .normal a w else Q (.exit n) a w)
  rw [if_pos rfl]; exact h
theorem ex_ne (hn : (n == m) = false) (h : Q (.exit n) a w) : Exit.inBlock m Q (.exit n) a w := by
  show (if n = m then Q .normal a w else Q (.exit n) a w)
  rw [if_neg (by simpa using hn)]; exact h
theorem ex_inN (h : Q .normal a w) : Exit.inBlock m Q .normal a w := h
theorem ex_inR (h : Q .ret a w) : Exit.inBlock m Q .ret a w := h
end

abbrev M32 : Int := 4294967296
theorem w6432 (a : Int) : wrap64 (wrap32 a) = wrap32 a := by unfold wrap64 wrap32; omega
theorem w32_bd (a : Int) : -2147483648 ≤ wrap32 a ∧ wrap32 a < 2147483648 := by unfold wrap32; omega
theorem and31 (b : Int) (hb : 0 ≤ b) (hb' : b < 4294967296) : Go.bits .and .u32 b 31 = b % 32 :=
  bits_mask .u32 32 (by decide) (fun n h0 h1 => by rw [IntKind.wrap_u32]; omega) 5 (by decide) b hb hb'
def b01 (c : Bool) : Int := if c = true then 1 else 0
theorem bit_calls (c : Bool) (w : World) : Calls Try.prog 98 #[.bool c] w fun e w' => e = .returned (.int .u32 (b01 c)) ∧ Drawn0 w w' := by
  cases c <;> (go_enter Try.func98, Try.ntmps98; go_wp2; go_ret; exact ⟨rfl, by repeat (first | exact Drawn0.refl _ | apply Drawn0.step)⟩)
theorem mulbd (x y : Int) (hx : -2147483648 ≤ x ∧ x < 2147483648) (hy : -2147483648 ≤ y ∧ y < 4294967296) : -9223372036854775808 ≤ x * y ∧ x * y < 9223372036854775808 := by
  have h1 : x * y ≤ x.natAbs * y.natAbs := by rw [← Int.natCast_mul, ← Int.natAbs_mul]; omega
  have h2 : -(x.natAbs * y.natAbs : Int) ≤ x * y := by rw [← Int.natCast_mul, ← Int.natAbs_mul]; omega
  have h3 : (x.natAbs * y.natAbs : Nat) ≤ 2147483648 * 4294967295 := Nat.mul_le_mul (by omega) (by omega)
  omega
theorem wrap64_id (x : Int) (h : -9223372036854775808 ≤ x ∧ x < 9223372036854775808) : wrap64 x = x := by unfold wrap64; omega
theorem tdiv_bd (x y : Int) (hx : -2147483648 ≤ x ∧ x < 2147483648) : -2147483648 ≤ Int.tdiv x y ∧ Int.tdiv x y ≤ 2147483648 := by
  have := Int.natAbs_tdiv_le_natAbs x y
  omega
/-- The quotient and what is left, by worths. -/
def divQ (a b : Int) : Int := if b = 0 then 4294967295 else Int.tdiv (wrap32 a) (wrap32 b) % 4294967296
def divR (a b : Int) : Int := if b = 0 then a else Int.tmod (wrap32 a) (wrap32 b) % 4294967296
theorem divide_calls (a b : Int) (w : World) (ha : 0 ≤ a) (ha' : a < 4294967296) (hb : 0 ≤ b) (hb' : b < 4294967296) :
    Calls Try.prog 99 #[.int .u32 a, .int .u32 b] w fun e w' => e = .returned (.tuple #[.int .u32 (divQ a b), .int .u32 (divR a b)]) ∧ Drawn0 w w' := by
  by_cases h : b = 0
  · subst h
    go_enter Try.func99, Try.ntmps99
    go_wp2
    go_ret2
    exact ⟨by simp [divQ, divR], by repeat (first | exact Drawn0.refl _ | apply Drawn0.step)⟩
  · have h0 : wrap32 b ≠ 0 := by unfold wrap32; omega
    have h1 : (wrap64 (wrap32 b) == 0) = false := by rw [w6432]; simpa using h0
    have h2 : ¬ (wrap64 (wrap32 b) = 0) := by rw [w6432]; exact h0
    have h3 : (b == 0) = false := by simpa using h
    have hf : (divQ a b, divR a b) = (wrap64 (Int.tdiv (wrap64 (wrap32 a)) (wrap64 (wrap32 b))) % 4294967296, Int.tmod (wrap64 (wrap32 a)) (wrap64 (wrap32 b)) % 4294967296) := by
      unfold divQ divR
      rw [if_neg h, if_neg h, w6432, w6432, wrap64_id _ (by have := tdiv_bd (wrap32 a) (wrap32 b) (w32_bd a); omega)]
    have Hf : Aside0 ((divQ a b, divR a b) = (wrap64 (Int.tdiv (wrap64 (wrap32 a)) (wrap64 (wrap32 b))) % 4294967296, Int.tmod (wrap64 (wrap32 a)) (wrap64 (wrap32 b)) % 4294967296)) := ⟨hf⟩
    clear hf
    go_enter Try.func99, Try.ntmps99
    go_wp2
    repeat (go_quiet (fail); try go_wp2)
    go_ret2
    have hq := congrArg Prod.fst Hf.out
    have hr := congrArg Prod.snd Hf.out
    simp only at hq hr
    exact ⟨by rw [hq, hr]; first | rfl | simp, by repeat (first | exact Drawn0.refl _ | apply Drawn0.step)⟩
/-- What an operator makes of two words; its error. -/
def aluDo (o a b : Int) : Int × Int :=
  if o = 31 then ((a - b) % 4294967296, 0) else
  if o = 30 then ((a + b) % 4294967296, 0) else
  if o = 21 then ((a + b) % 4294967296, 0) else
  if o = 39 then (Go.bits .and .u32 a b, 0) else
  if o = 26 then (Go.bits .and .u32 a b, 0) else
  if o = 38 then (Go.bits .or .u32 a b, 0) else
  if o = 25 then (Go.bits .or .u32 a b, 0) else
  if o = 35 then (Go.bits .xor .u32 a b, 0) else
  if o = 24 then (Go.bits .xor .u32 a b, 0) else
  if o = 33 then (b01 (decide (wrap32 a < wrap32 b)), 0) else
  if o = 22 then (b01 (decide (wrap32 a < wrap32 b)), 0) else
  if o = 34 then (b01 (decide (a < b)), 0) else
  if o = 23 then (b01 (decide (a < b)), 0) else
  if o = 32 then (a * 2 ^ (b % 32).toNat % 4294967296, 0) else
  if o = 27 then (a * 2 ^ (b % 32).toNat % 4294967296, 0) else
  if o = 36 then (a / 2 ^ (b % 32).toNat, 0) else
  if o = 28 then (a / 2 ^ (b % 32).toNat, 0) else
  if o = 37 then (wrap32 a / 2 ^ (b % 32).toNat % 4294967296, 0) else
  if o = 29 then (wrap32 a / 2 ^ (b % 32).toNat % 4294967296, 0) else
  if o = 40 then (a * b % 4294967296, 0) else
  if o = 41 then (wrap32 a * wrap32 b / 4294967296 % 4294967296, 0) else
  if o = 42 then (wrap32 a * b / 4294967296 % 4294967296, 0) else
  if o = 43 then (a * b / 4294967296 % 4294967296, 0) else
  if o = 44 then (divQ a b, 0) else
  if o = 46 then (divR a b, 0) else
  if o = 45 then (if b = 0 then 4294967295 else a / b, 0) else
  if o = 47 then (if b = 0 then a else a % b, 0) else
  (0, 2)

set_option maxHeartbeats 4000000 in
set_option maxRecDepth 100000 in
theorem do_31 (a b : Int) (w : World) (ha : 0 ≤ a) (ha' : a < 4294967296) (hb : 0 ≤ b) (hb' : b < 4294967296) :
    Calls Try.prog 69 #[.int .u8 31, .int .u32 a, .int .u32 b] w fun e w' => e = .returned (.tuple #[.int .u32 ((a - b) % 4294967296), .int .i64 0]) ∧ Drawn0 w w' := by
  go_enter Try.func69, Try.ntmps69
  repeat' (first | (with_reducible refine ex_then ?_) | (with_reducible refine ex_norm ?_) | (with_reducible refine ex_eq ?_) | ((with_reducible refine ex_ne ?_ ?_); exact rfl) | (with_reducible refine ex_thenR ?_) | (with_reducible refine ex_inN ?_) | (with_reducible refine ex_inR ?_) | go_values | go_skip | go_guarded | go_step | go_upon)
  go_ret2
  exact ⟨by rw [show (a - b) % 4294967296 = (a + -b) % 4294967296 from by omega]; first | rfl | simp, by repeat (first | exact Drawn0.refl _ | apply Drawn0.step)⟩

set_option maxHeartbeats 4000000 in
set_option maxRecDepth 100000 in
theorem do_30 (a b : Int) (w : World) (ha : 0 ≤ a) (ha' : a < 4294967296) (hb : 0 ≤ b) (hb' : b < 4294967296) :
    Calls Try.prog 69 #[.int .u8 30, .int .u32 a, .int .u32 b] w fun e w' => e = .returned (.tuple #[.int .u32 ((a + b) % 4294967296), .int .i64 0]) ∧ Drawn0 w w' := by
  go_enter Try.func69, Try.ntmps69
  repeat' (first | (with_reducible refine ex_then ?_) | (with_reducible refine ex_norm ?_) | (with_reducible refine ex_eq ?_) | ((with_reducible refine ex_ne ?_ ?_); exact rfl) | (with_reducible refine ex_thenR ?_) | (with_reducible refine ex_inN ?_) | (with_reducible refine ex_inR ?_) | go_values | go_skip | go_guarded | go_step | go_upon)
  go_ret2
  exact ⟨by first | rfl | simp, by repeat (first | exact Drawn0.refl _ | apply Drawn0.step)⟩

set_option maxHeartbeats 4000000 in
set_option maxRecDepth 100000 in
theorem do_21 (a b : Int) (w : World) (ha : 0 ≤ a) (ha' : a < 4294967296) (hb : 0 ≤ b) (hb' : b < 4294967296) :
    Calls Try.prog 69 #[.int .u8 21, .int .u32 a, .int .u32 b] w fun e w' => e = .returned (.tuple #[.int .u32 ((a + b) % 4294967296), .int .i64 0]) ∧ Drawn0 w w' := by
  go_enter Try.func69, Try.ntmps69
  repeat' (first | (with_reducible refine ex_then ?_) | (with_reducible refine ex_norm ?_) | (with_reducible refine ex_eq ?_) | ((with_reducible refine ex_ne ?_ ?_); exact rfl) | (with_reducible refine ex_thenR ?_) | (with_reducible refine ex_inN ?_) | (with_reducible refine ex_inR ?_) | go_values | go_skip | go_guarded | go_step | go_upon)
  go_ret2
  exact ⟨by first | rfl | simp, by repeat (first | exact Drawn0.refl _ | apply Drawn0.step)⟩

set_option maxHeartbeats 4000000 in
set_option maxRecDepth 100000 in
theorem do_39 (a b : Int) (w : World) (ha : 0 ≤ a) (ha' : a < 4294967296) (hb : 0 ≤ b) (hb' : b < 4294967296) :
    Calls Try.prog 69 #[.int .u8 39, .int .u32 a, .int .u32 b] w fun e w' => e = .returned (.tuple #[.int .u32 (Go.bits .and .u32 a b), .int .i64 0]) ∧ Drawn0 w w' := by
  go_enter Try.func69, Try.ntmps69
  repeat' (first | (with_reducible refine ex_then ?_) | (with_reducible refine ex_norm ?_) | (with_reducible refine ex_eq ?_) | ((with_reducible refine ex_ne ?_ ?_); exact rfl) | (with_reducible refine ex_thenR ?_) | (with_reducible refine ex_inN ?_) | (with_reducible refine ex_inR ?_) | go_values | go_skip | go_guarded | go_step | go_upon)
  go_ret2
  exact ⟨by first | rfl | simp, by repeat (first | exact Drawn0.refl _ | apply Drawn0.step)⟩

set_option maxHeartbeats 4000000 in
set_option maxRecDepth 100000 in
theorem do_26 (a b : Int) (w : World) (ha : 0 ≤ a) (ha' : a < 4294967296) (hb : 0 ≤ b) (hb' : b < 4294967296) :
    Calls Try.prog 69 #[.int .u8 26, .int .u32 a, .int .u32 b] w fun e w' => e = .returned (.tuple #[.int .u32 (Go.bits .and .u32 a b), .int .i64 0]) ∧ Drawn0 w w' := by
  go_enter Try.func69, Try.ntmps69
  repeat' (first | (with_reducible refine ex_then ?_) | (with_reducible refine ex_norm ?_) | (with_reducible refine ex_eq ?_) | ((with_reducible refine ex_ne ?_ ?_); exact rfl) | (with_reducible refine ex_thenR ?_) | (with_reducible refine ex_inN ?_) | (with_reducible refine ex_inR ?_) | go_values | go_skip | go_guarded | go_step | go_upon)
  go_ret2
  exact ⟨by first | rfl | simp, by repeat (first | exact Drawn0.refl _ | apply Drawn0.step)⟩

set_option maxHeartbeats 4000000 in
set_option maxRecDepth 100000 in
theorem do_38 (a b : Int) (w : World) (ha : 0 ≤ a) (ha' : a < 4294967296) (hb : 0 ≤ b) (hb' : b < 4294967296) :
    Calls Try.prog 69 #[.int .u8 38, .int .u32 a, .int .u32 b] w fun e w' => e = .returned (.tuple #[.int .u32 (Go.bits .or .u32 a b), .int .i64 0]) ∧ Drawn0 w w' := by
  go_enter Try.func69, Try.ntmps69
  repeat' (first | (with_reducible refine ex_then ?_) | (with_reducible refine ex_norm ?_) | (with_reducible refine ex_eq ?_) | ((with_reducible refine ex_ne ?_ ?_); exact rfl) | (with_reducible refine ex_thenR ?_) | (with_reducible refine ex_inN ?_) | (with_reducible refine ex_inR ?_) | go_values | go_skip | go_guarded | go_step | go_upon)
  go_ret2
  exact ⟨by first | rfl | simp, by repeat (first | exact Drawn0.refl _ | apply Drawn0.step)⟩

set_option maxHeartbeats 4000000 in
set_option maxRecDepth 100000 in
theorem do_25 (a b : Int) (w : World) (ha : 0 ≤ a) (ha' : a < 4294967296) (hb : 0 ≤ b) (hb' : b < 4294967296) :
    Calls Try.prog 69 #[.int .u8 25, .int .u32 a, .int .u32 b] w fun e w' => e = .returned (.tuple #[.int .u32 (Go.bits .or .u32 a b), .int .i64 0]) ∧ Drawn0 w w' := by
  go_enter Try.func69, Try.ntmps69
  repeat' (first | (with_reducible refine ex_then ?_) | (with_reducible refine ex_norm ?_) | (with_reducible refine ex_eq ?_) | ((with_reducible refine ex_ne ?_ ?_); exact rfl) | (with_reducible refine ex_thenR ?_) | (with_reducible refine ex_inN ?_) | (with_reducible refine ex_inR ?_) | go_values | go_skip | go_guarded | go_step | go_upon)
  go_ret2
  exact ⟨by first | rfl | simp, by repeat (first | exact Drawn0.refl _ | apply Drawn0.step)⟩

set_option maxHeartbeats 4000000 in
set_option maxRecDepth 100000 in
theorem do_35 (a b : Int) (w : World) (ha : 0 ≤ a) (ha' : a < 4294967296) (hb : 0 ≤ b) (hb' : b < 4294967296) :
    Calls Try.prog 69 #[.int .u8 35, .int .u32 a, .int .u32 b] w fun e w' => e = .returned (.tuple #[.int .u32 (Go.bits .xor .u32 a b), .int .i64 0]) ∧ Drawn0 w w' := by
  go_enter Try.func69, Try.ntmps69
  repeat' (first | (with_reducible refine ex_then ?_) | (with_reducible refine ex_norm ?_) | (with_reducible refine ex_eq ?_) | ((with_reducible refine ex_ne ?_ ?_); exact rfl) | (with_reducible refine ex_thenR ?_) | (with_reducible refine ex_inN ?_) | (with_reducible refine ex_inR ?_) | go_values | go_skip | go_guarded | go_step | go_upon)
  go_ret2
  exact ⟨by first | rfl | simp, by repeat (first | exact Drawn0.refl _ | apply Drawn0.step)⟩

set_option maxHeartbeats 4000000 in
set_option maxRecDepth 100000 in
theorem do_24 (a b : Int) (w : World) (ha : 0 ≤ a) (ha' : a < 4294967296) (hb : 0 ≤ b) (hb' : b < 4294967296) :
    Calls Try.prog 69 #[.int .u8 24, .int .u32 a, .int .u32 b] w fun e w' => e = .returned (.tuple #[.int .u32 (Go.bits .xor .u32 a b), .int .i64 0]) ∧ Drawn0 w w' := by
  go_enter Try.func69, Try.ntmps69
  repeat' (first | (with_reducible refine ex_then ?_) | (with_reducible refine ex_norm ?_) | (with_reducible refine ex_eq ?_) | ((with_reducible refine ex_ne ?_ ?_); exact rfl) | (with_reducible refine ex_thenR ?_) | (with_reducible refine ex_inN ?_) | (with_reducible refine ex_inR ?_) | go_values | go_skip | go_guarded | go_step | go_upon)
  go_ret2
  exact ⟨by first | rfl | simp, by repeat (first | exact Drawn0.refl _ | apply Drawn0.step)⟩

set_option maxHeartbeats 4000000 in
set_option maxRecDepth 100000 in
theorem do_33 (a b : Int) (w : World) (ha : 0 ≤ a) (ha' : a < 4294967296) (hb : 0 ≤ b) (hb' : b < 4294967296) :
    Calls Try.prog 69 #[.int .u8 33, .int .u32 a, .int .u32 b] w fun e w' => e = .returned (.tuple #[.int .u32 (b01 (decide (wrap32 a < wrap32 b))), .int .i64 0]) ∧ Drawn0 w w' := by
  go_enter Try.func69, Try.ntmps69
  repeat' (first | (with_reducible refine ex_then ?_) | (with_reducible refine ex_norm ?_) | (with_reducible refine ex_eq ?_) | ((with_reducible refine ex_ne ?_ ?_); exact rfl) | (with_reducible refine ex_thenR ?_) | (with_reducible refine ex_inN ?_) | (with_reducible refine ex_inR ?_) | (go_at_call 98; refine (bit_calls _ _).mono ?_; intro e w' h; obtain ⟨h1, ⟨n1, rfl⟩⟩ := h; subst h1; simp only []) | go_values | go_skip | go_guarded | go_step | go_upon)
  go_ret2
  exact ⟨by rw [w6432, w6432]; first | rfl | simp, by repeat (first | exact Drawn0.refl _ | apply Drawn0.step)⟩

set_option maxHeartbeats 4000000 in
set_option maxRecDepth 100000 in
theorem do_22 (a b : Int) (w : World) (ha : 0 ≤ a) (ha' : a < 4294967296) (hb : 0 ≤ b) (hb' : b < 4294967296) :
    Calls Try.prog 69 #[.int .u8 22, .int .u32 a, .int .u32 b] w fun e w' => e = .returned (.tuple #[.int .u32 (b01 (decide (wrap32 a < wrap32 b))), .int .i64 0]) ∧ Drawn0 w w' := by
  go_enter Try.func69, Try.ntmps69
  repeat' (first | (with_reducible refine ex_then ?_) | (with_reducible refine ex_norm ?_) | (with_reducible refine ex_eq ?_) | ((with_reducible refine ex_ne ?_ ?_); exact rfl) | (with_reducible refine ex_thenR ?_) | (with_reducible refine ex_inN ?_) | (with_reducible refine ex_inR ?_) | (go_at_call 98; refine (bit_calls _ _).mono ?_; intro e w' h; obtain ⟨h1, ⟨n1, rfl⟩⟩ := h; subst h1; simp only []) | go_values | go_skip | go_guarded | go_step | go_upon)
  go_ret2
  exact ⟨by rw [w6432, w6432]; first | rfl | simp, by repeat (first | exact Drawn0.refl _ | apply Drawn0.step)⟩

set_option maxHeartbeats 4000000 in
set_option maxRecDepth 100000 in
theorem do_34 (a b : Int) (w : World) (ha : 0 ≤ a) (ha' : a < 4294967296) (hb : 0 ≤ b) (hb' : b < 4294967296) :
    Calls Try.prog 69 #[.int .u8 34, .int .u32 a, .int .u32 b] w fun e w' => e = .returned (.tuple #[.int .u32 (b01 (decide (a < b))), .int .i64 0]) ∧ Drawn0 w w' := by
  go_enter Try.func69, Try.ntmps69
  repeat' (first | (with_reducible refine ex_then ?_) | (with_reducible refine ex_norm ?_) | (with_reducible refine ex_eq ?_) | ((with_reducible refine ex_ne ?_ ?_); exact rfl) | (with_reducible refine ex_thenR ?_) | (with_reducible refine ex_inN ?_) | (with_reducible refine ex_inR ?_) | (go_at_call 98; refine (bit_calls _ _).mono ?_; intro e w' h; obtain ⟨h1, ⟨n1, rfl⟩⟩ := h; subst h1; simp only []) | go_values | go_skip | go_guarded | go_step | go_upon)
  go_ret2
  exact ⟨by first | rfl | simp, by repeat (first | exact Drawn0.refl _ | apply Drawn0.step)⟩

set_option maxHeartbeats 4000000 in
set_option maxRecDepth 100000 in
theorem do_23 (a b : Int) (w : World) (ha : 0 ≤ a) (ha' : a < 4294967296) (hb : 0 ≤ b) (hb' : b < 4294967296) :
    Calls Try.prog 69 #[.int .u8 23, .int .u32 a, .int .u32 b] w fun e w' => e = .returned (.tuple #[.int .u32 (b01 (decide (a < b))), .int .i64 0]) ∧ Drawn0 w w' := by
  go_enter Try.func69, Try.ntmps69
  repeat' (first | (with_reducible refine ex_then ?_) | (with_reducible refine ex_norm ?_) | (with_reducible refine ex_eq ?_) | ((with_reducible refine ex_ne ?_ ?_); exact rfl) | (with_reducible refine ex_thenR ?_) | (with_reducible refine ex_inN ?_) | (with_reducible refine ex_inR ?_) | (go_at_call 98; refine (bit_calls _ _).mono ?_; intro e w' h; obtain ⟨h1, ⟨n1, rfl⟩⟩ := h; subst h1; simp only []) | go_values | go_skip | go_guarded | go_step | go_upon)
  go_ret2
  exact ⟨by first | rfl | simp, by repeat (first | exact Drawn0.refl _ | apply Drawn0.step)⟩

set_option maxHeartbeats 4000000 in
set_option maxRecDepth 100000 in
theorem do_32 (a b : Int) (w : World) (ha : 0 ≤ a) (ha' : a < 4294967296) (hb : 0 ≤ b) (hb' : b < 4294967296) :
    Calls Try.prog 69 #[.int .u8 32, .int .u32 a, .int .u32 b] w fun e w' => e = .returned (.tuple #[.int .u32 (a * 2 ^ (b % 32).toNat % 4294967296), .int .i64 0]) ∧ Drawn0 w w' := by
  obtain ⟨s, hs⟩ : ∃ s, Go.bits .and .u32 b 31 = s := ⟨_, rfl⟩
  have hs2 : b % 32 = s := by rw [← hs, and31 b hb hb']
  have h0 : 0 ≤ s := by omega
  have h31 : s < 32 := by omega
  have d0 : decide (0 ≤ s) = true := decide_eq_true h0
  have m0 : min s.toNat 32 = s.toNat := by omega
  rw [hs2]
  have HS2 : Aside0 (b % 32 = s) := ⟨hs2⟩
  clear hs2
  go_enter Try.func69, Try.ntmps69
  repeat' (first | (with_reducible refine ex_then ?_) | (with_reducible refine ex_norm ?_) | (with_reducible refine ex_eq ?_) | ((with_reducible refine ex_ne ?_ ?_); exact rfl) | (with_reducible refine ex_thenR ?_) | (with_reducible refine ex_inN ?_) | (with_reducible refine ex_inR ?_) | go_values | go_skip | go_guarded | go_step | go_upon)
  go_ret2
  exact ⟨by simp only [Ending.returned.injEq, Value.tuple.injEq]; first | rfl | (simp [m0, IntKind.wrap_u32]; done) | (simp [m0, IntKind.wrap_u32]; omega), by repeat (first | exact Drawn0.refl _ | apply Drawn0.step)⟩

set_option maxHeartbeats 4000000 in
set_option maxRecDepth 100000 in
theorem do_27 (a b : Int) (w : World) (ha : 0 ≤ a) (ha' : a < 4294967296) (hb : 0 ≤ b) (hb' : b < 4294967296) :
    Calls Try.prog 69 #[.int .u8 27, .int .u32 a, .int .u32 b] w fun e w' => e = .returned (.tuple #[.int .u32 (a * 2 ^ (b % 32).toNat % 4294967296), .int .i64 0]) ∧ Drawn0 w w' := by
  obtain ⟨s, hs⟩ : ∃ s, Go.bits .and .u32 b 31 = s := ⟨_, rfl⟩
  have hs2 : b % 32 = s := by rw [← hs, and31 b hb hb']
  have h0 : 0 ≤ s := by omega
  have h31 : s < 32 := by omega
  have d0 : decide (0 ≤ s) = true := decide_eq_true h0
  have m0 : min s.toNat 32 = s.toNat := by omega
  rw [hs2]
  have HS2 : Aside0 (b % 32 = s) := ⟨hs2⟩
  clear hs2
  go_enter Try.func69, Try.ntmps69
  repeat' (first | (with_reducible refine ex_then ?_) | (with_reducible refine ex_norm ?_) | (with_reducible refine ex_eq ?_) | ((with_reducible refine ex_ne ?_ ?_); exact rfl) | (with_reducible refine ex_thenR ?_) | (with_reducible refine ex_inN ?_) | (with_reducible refine ex_inR ?_) | go_values | go_skip | go_guarded | go_step | go_upon)
  go_ret2
  exact ⟨by simp only [Ending.returned.injEq, Value.tuple.injEq]; first | rfl | (simp [m0, IntKind.wrap_u32]; done) | (simp [m0, IntKind.wrap_u32]; omega), by repeat (first | exact Drawn0.refl _ | apply Drawn0.step)⟩

set_option maxHeartbeats 4000000 in
set_option maxRecDepth 100000 in
theorem do_36 (a b : Int) (w : World) (ha : 0 ≤ a) (ha' : a < 4294967296) (hb : 0 ≤ b) (hb' : b < 4294967296) :
    Calls Try.prog 69 #[.int .u8 36, .int .u32 a, .int .u32 b] w fun e w' => e = .returned (.tuple #[.int .u32 (a / 2 ^ (b % 32).toNat), .int .i64 0]) ∧ Drawn0 w w' := by
  obtain ⟨s, hs⟩ : ∃ s, Go.bits .and .u32 b 31 = s := ⟨_, rfl⟩
  have hs2 : b % 32 = s := by rw [← hs, and31 b hb hb']
  have h0 : 0 ≤ s := by omega
  have h31 : s < 32 := by omega
  have d0 : decide (0 ≤ s) = true := decide_eq_true h0
  have m0 : min s.toNat 32 = s.toNat := by omega
  rw [hs2]
  have HS2 : Aside0 (b % 32 = s) := ⟨hs2⟩
  clear hs2
  go_enter Try.func69, Try.ntmps69
  repeat' (first | (with_reducible refine ex_then ?_) | (with_reducible refine ex_norm ?_) | (with_reducible refine ex_eq ?_) | ((with_reducible refine ex_ne ?_ ?_); exact rfl) | (with_reducible refine ex_thenR ?_) | (with_reducible refine ex_inN ?_) | (with_reducible refine ex_inR ?_) | go_values | go_skip | go_guarded | go_step | go_upon)
  go_ret2
  exact ⟨by simp only [Ending.returned.injEq, Value.tuple.injEq]; first | rfl | (simp [m0, IntKind.wrap_u32]; done) | (simp [m0, IntKind.wrap_u32]; omega), by repeat (first | exact Drawn0.refl _ | apply Drawn0.step)⟩

set_option maxHeartbeats 4000000 in
set_option maxRecDepth 100000 in
theorem do_28 (a b : Int) (w : World) (ha : 0 ≤ a) (ha' : a < 4294967296) (hb : 0 ≤ b) (hb' : b < 4294967296) :
    Calls Try.prog 69 #[.int .u8 28, .int .u32 a, .int .u32 b] w fun e w' => e = .returned (.tuple #[.int .u32 (a / 2 ^ (b % 32).toNat), .int .i64 0]) ∧ Drawn0 w w' := by
  obtain ⟨s, hs⟩ : ∃ s, Go.bits .and .u32 b 31 = s := ⟨_, rfl⟩
  have hs2 : b % 32 = s := by rw [← hs, and31 b hb hb']
  have h0 : 0 ≤ s := by omega
  have h31 : s < 32 := by omega
  have d0 : decide (0 ≤ s) = true := decide_eq_true h0
  have m0 : min s.toNat 32 = s.toNat := by omega
  rw [hs2]
  have HS2 : Aside0 (b % 32 = s) := ⟨hs2⟩
  clear hs2
  go_enter Try.func69, Try.ntmps69
  repeat' (first | (with_reducible refine ex_then ?_) | (with_reducible refine ex_norm ?_) | (with_reducible refine ex_eq ?_) | ((with_reducible refine ex_ne ?_ ?_); exact rfl) | (with_reducible refine ex_thenR ?_) | (with_reducible refine ex_inN ?_) | (with_reducible refine ex_inR ?_) | go_values | go_skip | go_guarded | go_step | go_upon)
  go_ret2
  exact ⟨by simp only [Ending.returned.injEq, Value.tuple.injEq]; first | rfl | (simp [m0, IntKind.wrap_u32]; done) | (simp [m0, IntKind.wrap_u32]; omega), by repeat (first | exact Drawn0.refl _ | apply Drawn0.step)⟩

set_option maxHeartbeats 4000000 in
set_option maxRecDepth 100000 in
theorem do_37 (a b : Int) (w : World) (ha : 0 ≤ a) (ha' : a < 4294967296) (hb : 0 ≤ b) (hb' : b < 4294967296) :
    Calls Try.prog 69 #[.int .u8 37, .int .u32 a, .int .u32 b] w fun e w' => e = .returned (.tuple #[.int .u32 (wrap32 a / 2 ^ (b % 32).toNat % 4294967296), .int .i64 0]) ∧ Drawn0 w w' := by
  obtain ⟨s, hs⟩ : ∃ s, Go.bits .and .u32 b 31 = s := ⟨_, rfl⟩
  have hs2 : b % 32 = s := by rw [← hs, and31 b hb hb']
  have h0 : 0 ≤ s := by omega
  have h31 : s < 32 := by omega
  have d0 : decide (0 ≤ s) = true := decide_eq_true h0
  have m0 : min s.toNat 32 = s.toNat := by omega
  rw [hs2]
  have HS2 : Aside0 (b % 32 = s) := ⟨hs2⟩
  clear hs2
  go_enter Try.func69, Try.ntmps69
  repeat' (first | (with_reducible refine ex_then ?_) | (with_reducible refine ex_norm ?_) | (with_reducible refine ex_eq ?_) | ((with_reducible refine ex_ne ?_ ?_); exact rfl) | (with_reducible refine ex_thenR ?_) | (with_reducible refine ex_inN ?_) | (with_reducible refine ex_inR ?_) | go_values | go_skip | go_guarded | go_step | go_upon)
  go_ret2
  exact ⟨by simp only [Ending.returned.injEq, Value.tuple.injEq]; first | rfl | (simp [m0, IntKind.wrap_u32]; done) | (simp [m0, IntKind.wrap_u32]; omega), by repeat (first | exact Drawn0.refl _ | apply Drawn0.step)⟩

set_option maxHeartbeats 4000000 in
set_option maxRecDepth 100000 in
theorem do_29 (a b : Int) (w : World) (ha : 0 ≤ a) (ha' : a < 4294967296) (hb : 0 ≤ b) (hb' : b < 4294967296) :
    Calls Try.prog 69 #[.int .u8 29, .int .u32 a, .int .u32 b] w fun e w' => e = .returned (.tuple #[.int .u32 (wrap32 a / 2 ^ (b % 32).toNat % 4294967296), .int .i64 0]) ∧ Drawn0 w w' := by
  obtain ⟨s, hs⟩ : ∃ s, Go.bits .and .u32 b 31 = s := ⟨_, rfl⟩
  have hs2 : b % 32 = s := by rw [← hs, and31 b hb hb']
  have h0 : 0 ≤ s := by omega
  have h31 : s < 32 := by omega
  have d0 : decide (0 ≤ s) = true := decide_eq_true h0
  have m0 : min s.toNat 32 = s.toNat := by omega
  rw [hs2]
  have HS2 : Aside0 (b % 32 = s) := ⟨hs2⟩
  clear hs2
  go_enter Try.func69, Try.ntmps69
  repeat' (first | (with_reducible refine ex_then ?_) | (with_reducible refine ex_norm ?_) | (with_reducible refine ex_eq ?_) | ((with_reducible refine ex_ne ?_ ?_); exact rfl) | (with_reducible refine ex_thenR ?_) | (with_reducible refine ex_inN ?_) | (with_reducible refine ex_inR ?_) | go_values | go_skip | go_guarded | go_step | go_upon)
  go_ret2
  exact ⟨by simp only [Ending.returned.injEq, Value.tuple.injEq]; first | rfl | (simp [m0, IntKind.wrap_u32]; done) | (simp [m0, IntKind.wrap_u32]; omega), by repeat (first | exact Drawn0.refl _ | apply Drawn0.step)⟩

set_option maxHeartbeats 4000000 in
set_option maxRecDepth 100000 in
theorem do_40 (a b : Int) (w : World) (ha : 0 ≤ a) (ha' : a < 4294967296) (hb : 0 ≤ b) (hb' : b < 4294967296) :
    Calls Try.prog 69 #[.int .u8 40, .int .u32 a, .int .u32 b] w fun e w' => e = .returned (.tuple #[.int .u32 (a * b % 4294967296), .int .i64 0]) ∧ Drawn0 w w' := by
  go_enter Try.func69, Try.ntmps69
  repeat' (first | (with_reducible refine ex_then ?_) | (with_reducible refine ex_norm ?_) | (with_reducible refine ex_eq ?_) | ((with_reducible refine ex_ne ?_ ?_); exact rfl) | (with_reducible refine ex_thenR ?_) | (with_reducible refine ex_inN ?_) | (with_reducible refine ex_inR ?_) | go_values | go_skip | go_guarded | go_step | go_upon)
  go_ret2
  exact ⟨by first | rfl | simp, by repeat (first | exact Drawn0.refl _ | apply Drawn0.step)⟩

set_option maxHeartbeats 4000000 in
set_option maxRecDepth 100000 in
theorem do_41 (a b : Int) (w : World) (ha : 0 ≤ a) (ha' : a < 4294967296) (hb : 0 ≤ b) (hb' : b < 4294967296) :
    Calls Try.prog 69 #[.int .u8 41, .int .u32 a, .int .u32 b] w fun e w' => e = .returned (.tuple #[.int .u32 (wrap32 a * wrap32 b / 4294967296 % 4294967296), .int .i64 0]) ∧ Drawn0 w w' := by
  go_enter Try.func69, Try.ntmps69
  repeat' (first | (with_reducible refine ex_then ?_) | (with_reducible refine ex_norm ?_) | (with_reducible refine ex_eq ?_) | ((with_reducible refine ex_ne ?_ ?_); exact rfl) | (with_reducible refine ex_thenR ?_) | (with_reducible refine ex_inN ?_) | (with_reducible refine ex_inR ?_) | go_values | go_skip | go_guarded | go_step | go_upon)
  go_ret2
  exact ⟨by rw [w6432, w6432, wrap64_id _ (mulbd _ _ (w32_bd a) (by have := w32_bd b; omega))]; first | rfl | simp, by repeat (first | exact Drawn0.refl _ | apply Drawn0.step)⟩

set_option maxHeartbeats 4000000 in
set_option maxRecDepth 100000 in
theorem do_42 (a b : Int) (w : World) (ha : 0 ≤ a) (ha' : a < 4294967296) (hb : 0 ≤ b) (hb' : b < 4294967296) :
    Calls Try.prog 69 #[.int .u8 42, .int .u32 a, .int .u32 b] w fun e w' => e = .returned (.tuple #[.int .u32 (wrap32 a * b / 4294967296 % 4294967296), .int .i64 0]) ∧ Drawn0 w w' := by
  go_enter Try.func69, Try.ntmps69
  repeat' (first | (with_reducible refine ex_then ?_) | (with_reducible refine ex_norm ?_) | (with_reducible refine ex_eq ?_) | ((with_reducible refine ex_ne ?_ ?_); exact rfl) | (with_reducible refine ex_thenR ?_) | (with_reducible refine ex_inN ?_) | (with_reducible refine ex_inR ?_) | go_values | go_skip | go_guarded | go_step | go_upon)
  go_ret2
  exact ⟨by rw [w6432, wrap64_id _ (mulbd _ _ (w32_bd a) (by omega))]; first | rfl | simp, by repeat (first | exact Drawn0.refl _ | apply Drawn0.step)⟩

set_option maxHeartbeats 4000000 in
set_option maxRecDepth 100000 in
theorem do_43 (a b : Int) (w : World) (ha : 0 ≤ a) (ha' : a < 4294967296) (hb : 0 ≤ b) (hb' : b < 4294967296) :
    Calls Try.prog 69 #[.int .u8 43, .int .u32 a, .int .u32 b] w fun e w' => e = .returned (.tuple #[.int .u32 (a * b / 4294967296 % 4294967296), .int .i64 0]) ∧ Drawn0 w w' := by
  go_enter Try.func69, Try.ntmps69
  repeat' (first | (with_reducible refine ex_then ?_) | (with_reducible refine ex_norm ?_) | (with_reducible refine ex_eq ?_) | ((with_reducible refine ex_ne ?_ ?_); exact rfl) | (with_reducible refine ex_thenR ?_) | (with_reducible refine ex_inN ?_) | (with_reducible refine ex_inR ?_) | go_values | go_skip | go_guarded | go_step | go_upon)
  go_ret2
  exact ⟨by rw [show IntKind.u64.wrap (a * b) = a * b from by (have := Int.mul_nonneg ha hb; have h2 : a * b ≤ 4294967295 * 4294967295 := Int.mul_le_mul (by omega) (by omega) hb (by omega); simp [IntKind.wrap, IntKind.bits, IntKind.signed]; omega)]; first | rfl | simp, by repeat (first | exact Drawn0.refl _ | apply Drawn0.step)⟩

set_option maxHeartbeats 4000000 in
set_option maxRecDepth 100000 in
theorem do_44 (a b : Int) (w : World) (ha : 0 ≤ a) (ha' : a < 4294967296) (hb : 0 ≤ b) (hb' : b < 4294967296) :
    Calls Try.prog 69 #[.int .u8 44, .int .u32 a, .int .u32 b] w fun e w' => e = .returned (.tuple #[.int .u32 (divQ a b), .int .i64 0]) ∧ Drawn0 w w' := by
  go_enter Try.func69, Try.ntmps69
  repeat' (first | (with_reducible refine ex_then ?_) | (with_reducible refine ex_norm ?_) | (with_reducible refine ex_eq ?_) | ((with_reducible refine ex_ne ?_ ?_); exact rfl) | (with_reducible refine ex_thenR ?_) | (with_reducible refine ex_inN ?_) | (with_reducible refine ex_inR ?_) | (go_at_call 99; refine (divide_calls a b _ ha ha' hb hb').mono ?_; intro e w' h; obtain ⟨h1, ⟨n1, rfl⟩⟩ := h; subst h1; simp only []) | go_values | go_skip | go_guarded | go_step | go_upon)
  go_ret2
  exact ⟨by first | rfl | simp, by repeat (first | exact Drawn0.refl _ | apply Drawn0.step)⟩

set_option maxHeartbeats 4000000 in
set_option maxRecDepth 100000 in
theorem do_46 (a b : Int) (w : World) (ha : 0 ≤ a) (ha' : a < 4294967296) (hb : 0 ≤ b) (hb' : b < 4294967296) :
    Calls Try.prog 69 #[.int .u8 46, .int .u32 a, .int .u32 b] w fun e w' => e = .returned (.tuple #[.int .u32 (divR a b), .int .i64 0]) ∧ Drawn0 w w' := by
  go_enter Try.func69, Try.ntmps69
  repeat' (first | (with_reducible refine ex_then ?_) | (with_reducible refine ex_norm ?_) | (with_reducible refine ex_eq ?_) | ((with_reducible refine ex_ne ?_ ?_); exact rfl) | (with_reducible refine ex_thenR ?_) | (with_reducible refine ex_inN ?_) | (with_reducible refine ex_inR ?_) | (go_at_call 99; refine (divide_calls a b _ ha ha' hb hb').mono ?_; intro e w' h; obtain ⟨h1, ⟨n1, rfl⟩⟩ := h; subst h1; simp only []) | go_values | go_skip | go_guarded | go_step | go_upon)
  go_ret2
  exact ⟨by first | rfl | simp, by repeat (first | exact Drawn0.refl _ | apply Drawn0.step)⟩

set_option maxHeartbeats 4000000 in
set_option maxRecDepth 100000 in
theorem do_45 (a b : Int) (w : World) (ha : 0 ≤ a) (ha' : a < 4294967296) (hb : 0 ≤ b) (hb' : b < 4294967296) :
    Calls Try.prog 69 #[.int .u8 45, .int .u32 a, .int .u32 b] w fun e w' => e = .returned (.tuple #[.int .u32 (if b = 0 then 4294967295 else a / b), .int .i64 0]) ∧ Drawn0 w w' := by
  by_cases hz : b = 0
  · subst hz
    go_enter Try.func69, Try.ntmps69
    repeat' (first | (with_reducible refine ex_then ?_) | (with_reducible refine ex_norm ?_) | (with_reducible refine ex_eq ?_) | ((with_reducible refine ex_ne ?_ ?_); exact rfl) | (with_reducible refine ex_thenR ?_) | (with_reducible refine ex_inN ?_) | (with_reducible refine ex_inR ?_) | go_values | go_skip | go_guarded | go_step | go_upon)
    go_ret2
    exact ⟨by simp, by repeat (first | exact Drawn0.refl _ | apply Drawn0.step)⟩
  · have hz1 : (b == 0) = false := by simpa using hz
    go_enter Try.func69, Try.ntmps69
    repeat' (first | (with_reducible refine ex_then ?_) | (with_reducible refine ex_norm ?_) | (with_reducible refine ex_eq ?_) | ((with_reducible refine ex_ne ?_ ?_); exact rfl) | (with_reducible refine ex_thenR ?_) | (with_reducible refine ex_inN ?_) | (with_reducible refine ex_inR ?_) | go_values | go_skip | go_guarded | go_step | go_upon)
    go_ret2
    have q1 : a.tdiv b = a / b := Int.tdiv_eq_ediv_of_nonneg ha
    have q2 : a / b % 4294967296 = a / b := Int.emod_eq_of_lt (Int.ediv_nonneg ha hb) (Int.lt_of_le_of_lt (Int.ediv_le_self b ha) ha')
    have q3 : a.tmod b = a % b := Int.tmod_eq_emod_of_nonneg ha
    exact ⟨by simp [hz, q1, q2, q3], by repeat (first | exact Drawn0.refl _ | apply Drawn0.step)⟩

set_option maxHeartbeats 4000000 in
set_option maxRecDepth 100000 in
theorem do_47 (a b : Int) (w : World) (ha : 0 ≤ a) (ha' : a < 4294967296) (hb : 0 ≤ b) (hb' : b < 4294967296) :
    Calls Try.prog 69 #[.int .u8 47, .int .u32 a, .int .u32 b] w fun e w' => e = .returned (.tuple #[.int .u32 (if b = 0 then a else a % b), .int .i64 0]) ∧ Drawn0 w w' := by
  by_cases hz : b = 0
  · subst hz
    go_enter Try.func69, Try.ntmps69
    repeat' (first | (with_reducible refine ex_then ?_) | (with_reducible refine ex_norm ?_) | (with_reducible refine ex_eq ?_) | ((with_reducible refine ex_ne ?_ ?_); exact rfl) | (with_reducible refine ex_thenR ?_) | (with_reducible refine ex_inN ?_) | (with_reducible refine ex_inR ?_) | go_values | go_skip | go_guarded | go_step | go_upon)
    go_ret2
    exact ⟨by simp, by repeat (first | exact Drawn0.refl _ | apply Drawn0.step)⟩
  · have hz1 : (b == 0) = false := by simpa using hz
    go_enter Try.func69, Try.ntmps69
    repeat' (first | (with_reducible refine ex_then ?_) | (with_reducible refine ex_norm ?_) | (with_reducible refine ex_eq ?_) | ((with_reducible refine ex_ne ?_ ?_); exact rfl) | (with_reducible refine ex_thenR ?_) | (with_reducible refine ex_inN ?_) | (with_reducible refine ex_inR ?_) | go_values | go_skip | go_guarded | go_step | go_upon)
    go_ret2
    have q1 : a.tdiv b = a / b := Int.tdiv_eq_ediv_of_nonneg ha
    have q2 : a / b % 4294967296 = a / b := Int.emod_eq_of_lt (Int.ediv_nonneg ha hb) (Int.lt_of_le_of_lt (Int.ediv_le_self b ha) ha')
    have q3 : a.tmod b = a % b := Int.tmod_eq_emod_of_nonneg ha
    exact ⟨by simp [hz, q1, q2, q3], by repeat (first | exact Drawn0.refl _ | apply Drawn0.step)⟩

set_option maxHeartbeats 4000000 in
set_option maxRecDepth 100000 in
theorem do_no (o a b : Int) (w : World) (h31 : (o == 31) = false) (h30 : (o == 30) = false) (h21 : (o == 21) = false) (h39 : (o == 39) = false) (h26 : (o == 26) = false) (h38 : (o == 38) = false) (h25 : (o == 25) = false) (h35 : (o == 35) = false) (h24 : (o == 24) = false) (h33 : (o == 33) = false) (h22 : (o == 22) = false) (h34 : (o == 34) = false) (h23 : (o == 23) = false) (h32 : (o == 32) = false) (h27 : (o == 27) = false) (h36 : (o == 36) = false) (h28 : (o == 28) = false) (h37 : (o == 37) = false) (h29 : (o == 29) = false) (h40 : (o == 40) = false) (h41 : (o == 41) = false) (h42 : (o == 42) = false) (h43 : (o == 43) = false) (h44 : (o == 44) = false) (h46 : (o == 46) = false) (h45 : (o == 45) = false) (h47 : (o == 47) = false) :
    Calls Try.prog 69 #[.int .u8 o, .int .u32 a, .int .u32 b] w fun e w' => e = .returned (.tuple #[.int .u32 0, .int .i64 2]) ∧ Drawn0 w w' := by
  go_enter Try.func69, Try.ntmps69
  repeat' (first | (with_reducible refine ex_then ?_) | (with_reducible refine ex_norm ?_) | (with_reducible refine ex_eq ?_) | ((with_reducible refine ex_ne ?_ ?_); exact rfl) | (with_reducible refine ex_thenR ?_) | (with_reducible refine ex_inN ?_) | (with_reducible refine ex_inR ?_) | go_values | go_skip | go_guarded | go_step | go_upon)
  go_ret2
  exact ⟨by first | rfl | simp, by repeat (first | exact Drawn0.refl _ | apply Drawn0.step)⟩

theorem do_calls (o a b : Int) (w : World) (ha : 0 ≤ a) (ha' : a < 4294967296) (hb : 0 ≤ b) (hb' : b < 4294967296) :
    Calls Try.prog 69 #[.int .u8 o, .int .u32 a, .int .u32 b] w fun e w' => e = .returned (.tuple #[.int .u32 (aluDo o a b).1, .int .i64 (aluDo o a b).2]) ∧ Drawn0 w w' := by
  by_cases h31 : o = 31
  · subst h31; exact do_31 a b w ha ha' hb hb'
  by_cases h30 : o = 30
  · subst h30; exact do_30 a b w ha ha' hb hb'
  by_cases h21 : o = 21
  · subst h21; exact do_21 a b w ha ha' hb hb'
  by_cases h39 : o = 39
  · subst h39; exact do_39 a b w ha ha' hb hb'
  by_cases h26 : o = 26
  · subst h26; exact do_26 a b w ha ha' hb hb'
  by_cases h38 : o = 38
  · subst h38; exact do_38 a b w ha ha' hb hb'
  by_cases h25 : o = 25
  · subst h25; exact do_25 a b w ha ha' hb hb'
  by_cases h35 : o = 35
  · subst h35; exact do_35 a b w ha ha' hb hb'
  by_cases h24 : o = 24
  · subst h24; exact do_24 a b w ha ha' hb hb'
  by_cases h33 : o = 33
  · subst h33; exact do_33 a b w ha ha' hb hb'
  by_cases h22 : o = 22
  · subst h22; exact do_22 a b w ha ha' hb hb'
  by_cases h34 : o = 34
  · subst h34; exact do_34 a b w ha ha' hb hb'
  by_cases h23 : o = 23
  · subst h23; exact do_23 a b w ha ha' hb hb'
  by_cases h32 : o = 32
  · subst h32; exact do_32 a b w ha ha' hb hb'
  by_cases h27 : o = 27
  · subst h27; exact do_27 a b w ha ha' hb hb'
  by_cases h36 : o = 36
  · subst h36; exact do_36 a b w ha ha' hb hb'
  by_cases h28 : o = 28
  · subst h28; exact do_28 a b w ha ha' hb hb'
  by_cases h37 : o = 37
  · subst h37; exact do_37 a b w ha ha' hb hb'
  by_cases h29 : o = 29
  · subst h29; exact do_29 a b w ha ha' hb hb'
  by_cases h40 : o = 40
  · subst h40; exact do_40 a b w ha ha' hb hb'
  by_cases h41 : o = 41
  · subst h41; exact do_41 a b w ha ha' hb hb'
  by_cases h42 : o = 42
  · subst h42; exact do_42 a b w ha ha' hb hb'
  by_cases h43 : o = 43
  · subst h43; exact do_43 a b w ha ha' hb hb'
  by_cases h44 : o = 44
  · subst h44; exact do_44 a b w ha ha' hb hb'
  by_cases h46 : o = 46
  · subst h46; exact do_46 a b w ha ha' hb hb'
  by_cases h45 : o = 45
  · subst h45; exact do_45 a b w ha ha' hb hb'
  by_cases h47 : o = 47
  · subst h47; exact do_47 a b w ha ha' hb hb'
  have hd : aluDo o a b = (0, 2) := by unfold aluDo; rw [if_neg h31, if_neg h30, if_neg h21, if_neg h39, if_neg h26, if_neg h38, if_neg h25, if_neg h35, if_neg h24, if_neg h33, if_neg h22, if_neg h34, if_neg h23, if_neg h32, if_neg h27, if_neg h36, if_neg h28, if_neg h37, if_neg h29, if_neg h40, if_neg h41, if_neg h42, if_neg h43, if_neg h44, if_neg h46, if_neg h45, if_neg h47]
  rw [hd]
  exact do_no o a b w (by simpa using h31) (by simpa using h30) (by simpa using h21) (by simpa using h39) (by simpa using h26) (by simpa using h38) (by simpa using h25) (by simpa using h35) (by simpa using h24) (by simpa using h33) (by simpa using h22) (by simpa using h34) (by simpa using h23) (by simpa using h32) (by simpa using h27) (by simpa using h36) (by simpa using h28) (by simpa using h37) (by simpa using h29) (by simpa using h40) (by simpa using h41) (by simpa using h42) (by simpa using h43) (by simpa using h44) (by simpa using h46) (by simpa using h45) (by simpa using h47)
end Go.Proofs.Ytadbonmkockakaa.Alu
