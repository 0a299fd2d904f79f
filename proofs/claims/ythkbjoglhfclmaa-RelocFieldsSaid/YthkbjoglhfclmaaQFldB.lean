/- The join of reloc.asks; contracts of ref16.form. No condition. -/
import Derived.Test.YthkbjoglhfclmaaQFldA
namespace Go.Proofs.Ythkbjoglhfclmaa.Fld
open Go.RowKit Go.Proofs.YthkbjoglhfclmaaW.PrintWords Go.Proofs.YthkbjoglhfclmaaW.PrintLast Go.Proofs.Ythkbjoglhfclmaa.Alu Go.Proofs.Ythkbjoglhfclmaa.InsP Go.Proofs.Ythkbjoglhfclmaa.Ins
set_option linter.unusedVariables false
set_option linter.unusedSimpArgs false
set_option maxHeartbeats 4000000 in
set_option maxRecDepth 100000 in
theorem asks_none (k o : Int) (n5 : (o == 5) = false) (n6 : (o == 6) = false) (n7 : (o == 7) = false) (n8 : (o == 8) = false) (n9 : (o == 9) = false) (n10 : (o == 10) = false) (n3 : (o == 3) = false) (n1 : (o == 1) = false) (n2 : (o == 2) = false) (n17 : (o == 17) = false) (n18 : (o == 18) = false) (n19 : (o == 19) = false) (n20 : (o == 20) = false) (n4 : (o == 4) = false) (n11 : (o == 11) = false) (n12 : (o == 12) = false) (n13 : (o == 13) = false) (n14 : (o == 14) = false) (n15 : (o == 15) = false) (n16 : (o == 16) = false) (n21 : (o == 21) = false) (n22 : (o == 22) = false) (n23 : (o == 23) = false) (n24 : (o == 24) = false) (n25 : (o == 25) = false) (n26 : (o == 26) = false) (n48 : (o == 48) = false) (w : World) : Calls Try.prog 58 #[.int .u8 k, .int .u8 o] w fun e w' => e = .returned (.bool false) ∧ w' = w := by
  go_enter Try.func58, Try.ntmps58
  repeat' (first | (with_reducible refine ex_then ?_) | (with_reducible refine ex_norm ?_) | (with_reducible refine ex_eq ?_) | ((with_reducible refine ex_ne ?_ ?_); exact rfl) | (with_reducible refine ex_thenR ?_) | (with_reducible refine ex_inN ?_) | (with_reducible refine ex_inR ?_) | go_values | go_skip | go_guarded | go_step | go_upon)
  go_ret
  exact ⟨rfl, rfl⟩
theorem asks_calls (k o : Int) (w : World) : Calls Try.prog 58 #[.int .u8 k, .int .u8 o] w fun e w' => e = .returned (.bool (asksB k o)) ∧ w' = w := by
  by_cases h5 : o = 5
  · subst h5; exact asks_5 k w
  by_cases h6 : o = 6
  · subst h6; exact asks_6 k w
  by_cases h7 : o = 7
  · subst h7; exact asks_7 k w
  by_cases h8 : o = 8
  · subst h8; exact asks_8 k w
  by_cases h9 : o = 9
  · subst h9; exact asks_9 k w
  by_cases h10 : o = 10
  · subst h10; exact asks_10 k w
  by_cases h3 : o = 3
  · subst h3; exact asks_3 k w
  by_cases h1 : o = 1
  · subst h1; exact asks_1 k w
  by_cases h2 : o = 2
  · subst h2; exact asks_2 k w
  by_cases h17 : o = 17
  · subst h17; exact asks_17 k w
  by_cases h18 : o = 18
  · subst h18; exact asks_18 k w
  by_cases h19 : o = 19
  · subst h19; exact asks_19 k w
  by_cases h20 : o = 20
  · subst h20; exact asks_20 k w
  by_cases h4 : o = 4
  · subst h4; exact asks_4 k w
  by_cases h11 : o = 11
  · subst h11; exact asks_11 k w
  by_cases h12 : o = 12
  · subst h12; exact asks_12 k w
  by_cases h13 : o = 13
  · subst h13; exact asks_13 k w
  by_cases h14 : o = 14
  · subst h14; exact asks_14 k w
  by_cases h15 : o = 15
  · subst h15; exact asks_15 k w
  by_cases h16 : o = 16
  · subst h16; exact asks_16 k w
  by_cases h21 : o = 21
  · subst h21; exact asks_21 k w
  by_cases h22 : o = 22
  · subst h22; exact asks_22 k w
  by_cases h23 : o = 23
  · subst h23; exact asks_23 k w
  by_cases h24 : o = 24
  · subst h24; exact asks_24 k w
  by_cases h25 : o = 25
  · subst h25; exact asks_25 k w
  by_cases h26 : o = 26
  · subst h26; exact asks_26 k w
  by_cases h48 : o = 48
  · subst h48; exact asks_48 k w
  have h : asksB k o = false := by
    unfold asksB
    rw [if_neg (by omega), if_neg (by omega), if_neg (by omega), if_neg (by omega), if_neg (by omega)]
  rw [h]
  exact asks_none k o (by simpa using h5) (by simpa using h6) (by simpa using h7) (by simpa using h8) (by simpa using h9) (by simpa using h10) (by simpa using h3) (by simpa using h1) (by simpa using h2) (by simpa using h17) (by simpa using h18) (by simpa using h19) (by simpa using h20) (by simpa using h4) (by simpa using h11) (by simpa using h12) (by simpa using h13) (by simpa using h14) (by simpa using h15) (by simpa using h16) (by simpa using h21) (by simpa using h22) (by simpa using h23) (by simpa using h24) (by simpa using h25) (by simpa using h26) (by simpa using h48) w
set_option maxHeartbeats 4000000 in
set_option maxRecDepth 100000 in
theorem form_16 (o : Int) (w : World) : Calls Try.prog 59 #[.int .u8 16, .int .u8 o] w fun e w' => e = .returned (.bool (asksB 16 o)) ∧ w' = w := by
  have h : asksB 16 o = (decide (5 ≤ o) && decide (o ≤ 10)) := by
    rw [Bool.eq_iff_iff]
    unfold asksB
    simp only [Bool.or_eq_true, Bool.and_eq_true, decide_eq_true_eq, beq_iff_eq]
    (repeat' split) <;> simp <;> omega
  rw [h]
  clear h
  go_enter Try.func59, Try.ntmps59
  repeat' (first | (with_reducible refine ex_then ?_) | (with_reducible refine ex_norm ?_) | (with_reducible refine ex_eq ?_) | ((with_reducible refine ex_ne ?_ ?_); exact rfl) | (with_reducible refine ex_thenR ?_) | (with_reducible refine ex_inN ?_) | (with_reducible refine ex_inR ?_) | go_values | go_skip | go_guarded | go_step | go_upon)
  all_goals
    go_ret
    exact ⟨by first | rfl | (simp [*]; done) | (simp [*]; omega), rfl⟩
set_option maxHeartbeats 4000000 in
set_option maxRecDepth 100000 in
theorem form_17 (o : Int) (w : World) : Calls Try.prog 59 #[.int .u8 17, .int .u8 o] w fun e w' => e = .returned (.bool (asksB 17 o)) ∧ w' = w := by
  have h : asksB 17 o = (o == 3) := by
    rw [Bool.eq_iff_iff]
    unfold asksB
    simp only [Bool.or_eq_true, Bool.and_eq_true, decide_eq_true_eq, beq_iff_eq]
    (repeat' split) <;> simp <;> omega
  rw [h]
  clear h
  go_enter Try.func59, Try.ntmps59
  repeat' (first | (with_reducible refine ex_then ?_) | (with_reducible refine ex_norm ?_) | (with_reducible refine ex_eq ?_) | ((with_reducible refine ex_ne ?_ ?_); exact rfl) | (with_reducible refine ex_thenR ?_) | (with_reducible refine ex_inN ?_) | (with_reducible refine ex_inR ?_) | go_values | go_skip | go_guarded | go_step | go_upon)
  all_goals
    go_ret
    exact ⟨by first | rfl | (simp [*]; done) | (simp [*]; omega), rfl⟩
set_option maxHeartbeats 4000000 in
set_option maxRecDepth 100000 in
theorem form_23 (o : Int) (w : World) : Calls Try.prog 59 #[.int .u8 23, .int .u8 o] w fun e w' => e = .returned (.bool (asksB 23 o)) ∧ w' = w := by
  have h : asksB 23 o = (o == 1 || o == 2) := by
    rw [Bool.eq_iff_iff]
    unfold asksB
    simp only [Bool.or_eq_true, Bool.and_eq_true, decide_eq_true_eq, beq_iff_eq]
    (repeat' split) <;> simp <;> omega
  rw [h]
  clear h
  go_enter Try.func59, Try.ntmps59
  repeat' (first | (with_reducible refine ex_then ?_) | (with_reducible refine ex_norm ?_) | (with_reducible refine ex_eq ?_) | ((with_reducible refine ex_ne ?_ ?_); exact rfl) | (with_reducible refine ex_thenR ?_) | (with_reducible refine ex_inN ?_) | (with_reducible refine ex_inR ?_) | go_values | go_skip | go_guarded | go_step | go_upon)
  all_goals
    go_ret
    exact ⟨by first | rfl | (simp [*]; done) | (simp [*]; omega), rfl⟩
set_option maxHeartbeats 4000000 in
set_option maxRecDepth 100000 in
theorem form_26 (o : Int) (w : World) : Calls Try.prog 59 #[.int .u8 26, .int .u8 o] w fun e w' => e = .returned (.bool (asksB 26 o)) ∧ w' = w := by
  have h : asksB 26 o = (o == 1 || o == 2) := by
    rw [Bool.eq_iff_iff]
    unfold asksB
    simp only [Bool.or_eq_true, Bool.and_eq_true, decide_eq_true_eq, beq_iff_eq]
    (repeat' split) <;> simp <;> omega
  rw [h]
  clear h
  go_enter Try.func59, Try.ntmps59
  repeat' (first | (with_reducible refine ex_then ?_) | (with_reducible refine ex_norm ?_) | (with_reducible refine ex_eq ?_) | ((with_reducible refine ex_ne ?_ ?_); exact rfl) | (with_reducible refine ex_thenR ?_) | (with_reducible refine ex_inN ?_) | (with_reducible refine ex_inR ?_) | go_values | go_skip | go_guarded | go_step | go_upon)
  all_goals
    go_ret
    exact ⟨by first | rfl | (simp [*]; done) | (simp [*]; omega), rfl⟩
set_option maxHeartbeats 4000000 in
set_option maxRecDepth 100000 in
theorem form_24 (o : Int) (w : World) : Calls Try.prog 59 #[.int .u8 24, .int .u8 o] w fun e w' => e = .returned (.bool (asksB 24 o)) ∧ w' = w := by
  have h : asksB 24 o = (o == 4 || (decide (11 ≤ o) && decide (o ≤ 16)) || (decide (21 ≤ o) && decide (o ≤ 26)) || o == 48) := by
    rw [Bool.eq_iff_iff]
    unfold asksB
    simp only [Bool.or_eq_true, Bool.and_eq_true, decide_eq_true_eq, beq_iff_eq]
    (repeat' split) <;> simp <;> omega
  rw [h]
  clear h
  go_enter Try.func59, Try.ntmps59
  repeat' (first | (with_reducible refine ex_then ?_) | (with_reducible refine ex_norm ?_) | (with_reducible refine ex_eq ?_) | ((with_reducible refine ex_ne ?_ ?_); exact rfl) | (with_reducible refine ex_thenR ?_) | (with_reducible refine ex_inN ?_) | (with_reducible refine ex_inR ?_) | go_values | go_skip | go_guarded | go_step | go_upon)
  all_goals
    go_ret
    exact ⟨by first | rfl | (simp [*]; done) | (simp [*]; omega), rfl⟩
set_option maxHeartbeats 4000000 in
set_option maxRecDepth 100000 in
theorem form_27 (o : Int) (w : World) : Calls Try.prog 59 #[.int .u8 27, .int .u8 o] w fun e w' => e = .returned (.bool (asksB 27 o)) ∧ w' = w := by
  have h : asksB 27 o = (o == 4 || (decide (11 ≤ o) && decide (o ≤ 16)) || (decide (21 ≤ o) && decide (o ≤ 26)) || o == 48) := by
    rw [Bool.eq_iff_iff]
    unfold asksB
    simp only [Bool.or_eq_true, Bool.and_eq_true, decide_eq_true_eq, beq_iff_eq]
    (repeat' split) <;> simp <;> omega
  rw [h]
  clear h
  go_enter Try.func59, Try.ntmps59
  repeat' (first | (with_reducible refine ex_then ?_) | (with_reducible refine ex_norm ?_) | (with_reducible refine ex_eq ?_) | ((with_reducible refine ex_ne ?_ ?_); exact rfl) | (with_reducible refine ex_thenR ?_) | (with_reducible refine ex_inN ?_) | (with_reducible refine ex_inR ?_) | go_values | go_skip | go_guarded | go_step | go_upon)
  all_goals
    go_ret
    exact ⟨by first | rfl | (simp [*]; done) | (simp [*]; omega), rfl⟩
set_option maxHeartbeats 4000000 in
set_option maxRecDepth 100000 in
theorem form_193 (o : Int) (w : World) : Calls Try.prog 59 #[.int .u8 193, .int .u8 o] w fun e w' => e = .returned (.bool (asksB 193 o)) ∧ w' = w := by
  have h : asksB 193 o = (o == 4 || (decide (11 ≤ o) && decide (o ≤ 16)) || (decide (21 ≤ o) && decide (o ≤ 26)) || o == 48) := by
    rw [Bool.eq_iff_iff]
    unfold asksB
    simp only [Bool.or_eq_true, Bool.and_eq_true, decide_eq_true_eq, beq_iff_eq]
    (repeat' split) <;> simp <;> omega
  rw [h]
  clear h
  go_enter Try.func59, Try.ntmps59
  repeat' (first | (with_reducible refine ex_then ?_) | (with_reducible refine ex_norm ?_) | (with_reducible refine ex_eq ?_) | ((with_reducible refine ex_ne ?_ ?_); exact rfl) | (with_reducible refine ex_thenR ?_) | (with_reducible refine ex_inN ?_) | (with_reducible refine ex_inR ?_) | go_values | go_skip | go_guarded | go_step | go_upon)
  all_goals
    go_ret
    exact ⟨by first | rfl | (simp [*]; done) | (simp [*]; omega), rfl⟩
set_option maxHeartbeats 4000000 in
set_option maxRecDepth 100000 in
theorem form_25 (o : Int) (w : World) : Calls Try.prog 59 #[.int .u8 25, .int .u8 o] w fun e w' => e = .returned (.bool (asksB 25 o)) ∧ w' = w := by
  have h : asksB 25 o = (decide (17 ≤ o) && decide (o ≤ 20)) := by
    rw [Bool.eq_iff_iff]
    unfold asksB
    simp only [Bool.or_eq_true, Bool.and_eq_true, decide_eq_true_eq, beq_iff_eq]
    (repeat' split) <;> simp <;> omega
  rw [h]
  clear h
  go_enter Try.func59, Try.ntmps59
  repeat' (first | (with_reducible refine ex_then ?_) | (with_reducible refine ex_norm ?_) | (with_reducible refine ex_eq ?_) | ((with_reducible refine ex_ne ?_ ?_); exact rfl) | (with_reducible refine ex_thenR ?_) | (with_reducible refine ex_inN ?_) | (with_reducible refine ex_inR ?_) | go_values | go_skip | go_guarded | go_step | go_upon)
  all_goals
    go_ret
    exact ⟨by first | rfl | (simp [*]; done) | (simp [*]; omega), rfl⟩
set_option maxHeartbeats 4000000 in
set_option maxRecDepth 100000 in
theorem form_28 (o : Int) (w : World) : Calls Try.prog 59 #[.int .u8 28, .int .u8 o] w fun e w' => e = .returned (.bool (asksB 28 o)) ∧ w' = w := by
  have h : asksB 28 o = (decide (17 ≤ o) && decide (o ≤ 20)) := by
    rw [Bool.eq_iff_iff]
    unfold asksB
    simp only [Bool.or_eq_true, Bool.and_eq_true, decide_eq_true_eq, beq_iff_eq]
    (repeat' split) <;> simp <;> omega
  rw [h]
  clear h
  go_enter Try.func59, Try.ntmps59
  repeat' (first | (with_reducible refine ex_then ?_) | (with_reducible refine ex_norm ?_) | (with_reducible refine ex_eq ?_) | ((with_reducible refine ex_ne ?_ ?_); exact rfl) | (with_reducible refine ex_thenR ?_) | (with_reducible refine ex_inN ?_) | (with_reducible refine ex_inR ?_) | go_values | go_skip | go_guarded | go_step | go_upon)
  all_goals
    go_ret
    exact ⟨by first | rfl | (simp [*]; done) | (simp [*]; omega), rfl⟩
set_option maxHeartbeats 4000000 in
set_option maxRecDepth 100000 in
theorem form_194 (o : Int) (w : World) : Calls Try.prog 59 #[.int .u8 194, .int .u8 o] w fun e w' => e = .returned (.bool (asksB 194 o)) ∧ w' = w := by
  have h : asksB 194 o = (decide (17 ≤ o) && decide (o ≤ 20)) := by
    rw [Bool.eq_iff_iff]
    unfold asksB
    simp only [Bool.or_eq_true, Bool.and_eq_true, decide_eq_true_eq, beq_iff_eq]
    (repeat' split) <;> simp <;> omega
  rw [h]
  clear h
  go_enter Try.func59, Try.ntmps59
  repeat' (first | (with_reducible refine ex_then ?_) | (with_reducible refine ex_norm ?_) | (with_reducible refine ex_eq ?_) | ((with_reducible refine ex_ne ?_ ?_); exact rfl) | (with_reducible refine ex_thenR ?_) | (with_reducible refine ex_inN ?_) | (with_reducible refine ex_inR ?_) | go_values | go_skip | go_guarded | go_step | go_upon)
  all_goals
    go_ret
    exact ⟨by first | rfl | (simp [*]; done) | (simp [*]; omega), rfl⟩
set_option maxHeartbeats 4000000 in
set_option maxRecDepth 100000 in
theorem form_none (k o : Int) (n16 : (k == 16) = false) (n17 : (k == 17) = false) (n23 : (k == 23) = false) (n26 : (k == 26) = false) (n24 : (k == 24) = false) (n27 : (k == 27) = false) (n193 : (k == 193) = false) (n25 : (k == 25) = false) (n28 : (k == 28) = false) (n194 : (k == 194) = false) (w : World) : Calls Try.prog 59 #[.int .u8 k, .int .u8 o] w fun e w' => e = .returned (.bool false) ∧ w' = w := by
  go_enter Try.func59, Try.ntmps59
  repeat' (first | (with_reducible refine ex_then ?_) | (with_reducible refine ex_norm ?_) | (with_reducible refine ex_eq ?_) | ((with_reducible refine ex_ne ?_ ?_); exact rfl) | (with_reducible refine ex_thenR ?_) | (with_reducible refine ex_inN ?_) | (with_reducible refine ex_inR ?_) | go_values | go_skip | go_guarded | go_step | go_upon)
  go_ret
  exact ⟨rfl, rfl⟩
theorem form_calls (k o : Int) (w : World) : Calls Try.prog 59 #[.int .u8 k, .int .u8 o] w fun e w' => e = .returned (.bool (asksB k o)) ∧ w' = w := by
  by_cases h16 : k = 16
  · subst h16; exact form_16 o w
  by_cases h17 : k = 17
  · subst h17; exact form_17 o w
  by_cases h23 : k = 23
  · subst h23; exact form_23 o w
  by_cases h26 : k = 26
  · subst h26; exact form_26 o w
  by_cases h24 : k = 24
  · subst h24; exact form_24 o w
  by_cases h27 : k = 27
  · subst h27; exact form_27 o w
  by_cases h193 : k = 193
  · subst h193; exact form_193 o w
  by_cases h25 : k = 25
  · subst h25; exact form_25 o w
  by_cases h28 : k = 28
  · subst h28; exact form_28 o w
  by_cases h194 : k = 194
  · subst h194; exact form_194 o w
  have h : asksB k o = false := by
    unfold asksB
    have n16 : (k == 16) = false := by simpa using h16
    have n17 : (k == 17) = false := by simpa using h17
    have n23 : (k == 23) = false := by simpa using h23
    have n26 : (k == 26) = false := by simpa using h26
    have n24 : (k == 24) = false := by simpa using h24
    have n27 : (k == 27) = false := by simpa using h27
    have n193 : (k == 193) = false := by simpa using h193
    have n25 : (k == 25) = false := by simpa using h25
    have n28 : (k == 28) = false := by simpa using h28
    have n194 : (k == 194) = false := by simpa using h194
    rw [n16, n17, n23, n26, n24, n27, n193, n25, n28, n194]
    (repeat' split) <;> rfl
  rw [h]
  exact form_none k o (by simpa using h16) (by simpa using h17) (by simpa using h23) (by simpa using h26) (by simpa using h24) (by simpa using h27) (by simpa using h193) (by simpa using h25) (by simpa using h28) (by simpa using h194) w
end Go.Proofs.Ythkbjoglhfclmaa.Fld
