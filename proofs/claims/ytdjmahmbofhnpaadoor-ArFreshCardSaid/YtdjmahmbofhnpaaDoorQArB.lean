/- What the printed small functions of archives answer: names, a 0 in a text, blanks, a numeral, four bytes. -/
import Derived.Test.YtdjmahmbofhnpaaDoorQArA
import Derived.Test.YtdjmahmbofhnpaaDoorQArx7
import Derived.Test.YtdjmahmbofhnpaaDoorQArx2
import Derived.Test.YtdjmahmbofhnpaaDoorQArx12
namespace Go.Proofs.YtdjmahmbofhnpaaDoor.Ar
open Go.RowKit Go.Proofs.YtdjmahmbofhnpaaDoorW.PrintWords Go.Proofs.YtdjmahmbofhnpaaDoorW.PrintLast Go.Proofs.YtdjmahmbofhnpaaDoor.QAr
set_option linter.unusedVariables false
set_option linter.unusedSimpArgs false
theorem tb_drop (s : ByteArray) (i : Nat) (h : i < s.size) : (tb s).drop i = bt s (i : Int) :: (tb s).drop (i + 1) := by
  have hl : i < (tb s).length := by rw [tb_len]; exact h
  rw [List.drop_eq_getElem_cons hl]
  congr 1
  have := tb_at s i h
  rw [List.getElem?_eq_getElem hl] at this
  exact Option.some.inj this
theorem wrap_next {i n : Nat} (h : i < n) (hn : n ≤ 9223372036854775807) : wrap64 ((i : Int) + 1) = ((i + 1 : Nat) : Int) := by unfold wrap64; omega
theorem tail_name (s : ByteArray) : (if (s.size : Int) ≥ 1 then some (decide ((s.size : Int) ≤ 15)) else some false) = some (decide (1 ≤ s.size) && decide (s.size ≤ 15)) := by
  by_cases h : 1 ≤ s.size
  · rw [if_pos (by omega), decide_eq_true h, Bool.true_and]
    congr 1
    by_cases h2 : s.size ≤ 15
    · rw [decide_eq_true h2, decide_eq_true (by omega)]
    · rw [decide_eq_false h2, decide_eq_false (by omega)]
  · rw [if_neg (by omega), decide_eq_false h, Bool.false_and]
theorem okB_cases (b : Int) : (b < 33 ∧ okB b = false) ∨ (¬ b < 33 ∧ b > 126 ∧ okB b = false) ∨ (¬ b < 33 ∧ ¬ b > 126 ∧ b = 47 ∧ okB b = false) ∨ (¬ b < 33 ∧ ¬ b > 126 ∧ ¬ b = 47 ∧ okB b = true) := by
  unfold okB
  by_cases h1 : b < 33
  · left; refine ⟨h1, ?_⟩; rw [decide_eq_false (by omega)]; rfl
  · by_cases h2 : b > 126
    · right; left; refine ⟨h1, h2, ?_⟩; rw [decide_eq_false (p := b ≤ 126) (by omega)]; simp
    · by_cases h3 : b = 47
      · right; right; left; refine ⟨h1, h2, h3, ?_⟩; rw [decide_eq_false (p := b ≠ 47) (by omega)]; simp
      · right; right; right; refine ⟨h1, h2, h3, ?_⟩; rw [decide_eq_true (by omega), decide_eq_true (by omega), decide_eq_true (by omega)]; rfl
theorem arName_f (s : ByteArray) (hs : s.size ≤ 9223372036854775807) : ∃ K, ar_name.f K s = some (nameOk s) := by
  have key : ∀ (d i : Nat), i + d = s.size → ∃ K, ar_name.l0 K s (s.size : Int) (i : Int) = some (((tb s).drop i).all okB && decide (1 ≤ s.size) && decide (s.size ≤ 15)) := by
    intro d
    induction d with
    | zero =>
      intro i hi
      refine ⟨1, ?_⟩
      simp only [ar_name.l0]
      rw [if_neg (by omega), tail_name, List.drop_of_length_le (by rw [tb_len]; omega)]
      rfl
    | succ d ih =>
      intro i hi
      have hlt : i < s.size := by omega
      obtain ⟨K, hK⟩ := ih (i + 1) (by omega)
      refine ⟨K + 1, ?_⟩
      simp only [ar_name.l0]
      rw [if_pos (by omega), if_pos (by omega), if_pos (by omega), wrap_next hlt hs, hK, tb_drop s i hlt, List.all_cons]
      rcases okB_cases (bt s (i : Int)) with ⟨h1, h⟩ | ⟨h1, h2, h⟩ | ⟨h1, h2, h3, h⟩ | ⟨h1, h2, h3, h⟩
      · rw [if_pos h1, h]; rfl
      · rw [if_neg h1, if_pos h2, h]; rfl
      · rw [if_neg h1, if_neg h2, if_pos h3, h]; rfl
      · rw [if_neg h1, if_neg h2, if_neg h3, h, Bool.true_and]
  obtain ⟨K, hK⟩ := key s.size 0 (by omega)
  exact ⟨K, by unfold ar_name.f; exact hK⟩
theorem refName_f (s : ByteArray) (hs : s.size ≤ 9223372036854775807) : ∃ K, bulwarkref10_name.f K s = some (nameOk s) := by
  have key : ∀ (d i : Nat), i + d = s.size → ∃ K, bulwarkref10_name.l0 K s (i : Int) = some (((tb s).drop i).all okB && decide (1 ≤ s.size) && decide (s.size ≤ 15)) := by
    intro d
    induction d with
    | zero =>
      intro i hi
      refine ⟨1, ?_⟩
      simp only [bulwarkref10_name.l0]
      rw [if_neg (by omega), tail_name, List.drop_of_length_le (by rw [tb_len]; omega)]
      rfl
    | succ d ih =>
      intro i hi
      have hlt : i < s.size := by omega
      obtain ⟨K, hK⟩ := ih (i + 1) (by omega)
      refine ⟨K + 1, ?_⟩
      simp only [bulwarkref10_name.l0]
      rw [if_pos (by omega), if_pos (by omega), wrap_next hlt hs, hK, tb_drop s i hlt, List.all_cons]
      rcases okB_cases (bt s (i : Int)) with ⟨h1, h⟩ | ⟨h1, h2, h⟩ | ⟨h1, h2, h3, h⟩ | ⟨h1, h2, h3, h⟩
      · rw [if_pos h1, h]; rfl
      · rw [if_neg h1, if_pos h2, h]; rfl
      · rw [if_neg h1, if_neg h2, if_pos h3, h]; rfl
      · rw [if_neg h1, if_neg h2, if_neg h3, h, Bool.true_and]
  obtain ⟨K, hK⟩ := key s.size 0 (by omega)
  exact ⟨K, by unfold bulwarkref10_name.f; exact hK⟩
theorem zero_f (s : ByteArray) (hs : s.size ≤ 9223372036854775807) : ∃ K, bulwarkref10_zero.f K s = some (zeroIn s) := by
  have key : ∀ (d i : Nat), i + d = s.size → ∃ K, bulwarkref10_zero.l0 K s (i : Int) = some (((tb s).drop i).any fun b => b == 0) := by
    intro d
    induction d with
    | zero =>
      intro i hi
      refine ⟨1, ?_⟩
      simp only [bulwarkref10_zero.l0]
      rw [if_neg (by omega), List.drop_of_length_le (by rw [tb_len]; omega)]
      rfl
    | succ d ih =>
      intro i hi
      have hlt : i < s.size := by omega
      obtain ⟨K, hK⟩ := ih (i + 1) (by omega)
      refine ⟨K + 1, ?_⟩
      simp only [bulwarkref10_zero.l0]
      rw [if_pos (by omega), if_pos (by omega), wrap_next hlt hs, hK, tb_drop s i hlt, List.any_cons]
      by_cases h : bt s (i : Int) = 0
      · rw [if_pos h, h]; rfl
      · rw [if_neg h, show (bt s (i : Int) == 0) = false by simpa using h, Bool.false_or]
  obtain ⟨K, hK⟩ := key s.size 0 (by omega)
  exact ⟨K, by unfold bulwarkref10_zero.f; exact hK⟩
theorem index_zero : ∀ l : List UInt8, decide (0 ≤ Lib.indexByte l 0) = (l.map fun b => (b.toNat : Int)).any fun b => b == 0 := by
  intro l
  induction l with
  | nil => rfl
  | cons b r ih =>
    rw [List.map_cons, List.any_cons, ← ih, show Lib.indexByte (b :: r) 0 = if b == 0 then 0 else if Lib.indexByte r 0 == -1 then -1 else Lib.indexByte r 0 + 1 from rfl]
    by_cases h : b = 0
    · subst h; simp
    · have h2 : ((b.toNat : Int) == 0) = false := by
        have : b.toNat ≠ 0 := fun e => h (UInt8.toNat_inj.1 (by simpa using e))
        simp; omega
      rw [h2, Bool.false_or]
      have h3 : (b == 0) = false := by simpa using h
      have hg := Lib.indexByte_ge r 0
      rw [h3]
      by_cases h4 : Lib.indexByte r 0 = -1
      · rw [h4]; rfl
      · rw [show (Lib.indexByte r 0 == -1) = false by simpa using h4]
        simp only [Bool.false_eq_true, if_false]
        rw [decide_eq_true (show (0 : Int) ≤ Lib.indexByte r 0 + 1 by omega), decide_eq_true (show (0 : Int) ≤ Lib.indexByte r 0 by omega)]
theorem padS_step (s : ByteArray) (n : Nat) (h : s.size < n) : padS s n = padS (s ++ (⟨#[32]⟩ : ByteArray)) n := by
  unfold padS
  have e : n - s.size = (n - (s ++ (⟨#[32]⟩ : ByteArray)).size) + 1 := by rw [ByteArray.size_append]; show _ = n - (s.size + 1) + 1; omega
  rw [e, ByteArray.append_assoc]
  congr 1
theorem padS_done (s : ByteArray) (n : Nat) (h : ¬ s.size < n) : padS s n = s := by
  unfold padS
  rw [show n - s.size = 0 from by omega]
  apply ByteArray.ext
  rw [ByteArray.data_append]
  simp
theorem blanks_f (n : Nat) (hn : n ≤ 9223372036854775807) : ∀ (d : Nat) (s : ByteArray), n - s.size = d → ∃ K, bulwarkref10_blanks.f K s (n : Int) = some (padS s n) := by
  intro d
  induction d with
  | zero =>
    intro s hd
    refine ⟨1, ?_⟩
    unfold bulwarkref10_blanks.f
    simp only [bulwarkref10_blanks.l0]
    rw [if_neg (by omega), padS_done s n (by omega)]
  | succ d ih =>
    intro s hd
    obtain ⟨K, hK⟩ := ih (s ++ (⟨#[32]⟩ : ByteArray)) (by rw [ByteArray.size_append]; show n - (s.size + 1) = d; omega)
    refine ⟨K + 1, ?_⟩
    unfold bulwarkref10_blanks.f at hK ⊢
    simp only [bulwarkref10_blanks.l0]
    rw [if_pos (by omega), if_pos (by omega), hK, padS_step s n (by omega)]
theorem contains_zero (s : ByteArray) : decide (0 ≤ Lib.indexByte s.data.toList 0) = zeroIn s := index_zero _
theorem decS_step (n : Nat) (h : ¬ n < 10) : decS n = decS (n / 10) ++ (⟨#[UInt8.ofNat (48 + n % 10)]⟩ : ByteArray) := by
  unfold decS
  rw [Lib.decDigits, dif_neg h]
  apply ByteArray.ext
  rw [ByteArray.data_append]
  simp
theorem decS_one (n : Nat) (h : n < 10) : decS n = (⟨#[UInt8.ofNat (48 + n % 10)]⟩ : ByteArray) := by
  unfold decS
  rw [Lib.decDigits_one h, Nat.mod_eq_of_lt h]
theorem tens_y (n : Nat) : strOfNums ([(wrap64 (48 + (Int.tmod (n : Int) 10))) % 256] : List Int) = (⟨#[UInt8.ofNat (48 + n % 10)]⟩ : ByteArray) := by
  unfold strOfNums
  have e : (wrap64 (48 + (Int.tmod (n : Int) 10))) % 256 = ((48 + n % 10 : Nat) : Int) := by
    have h1 : Int.tmod (n : Int) 10 = ((n % 10 : Nat) : Int) := by rw [Int.tmod_eq_emod_of_nonneg (by omega)]; omega
    rw [h1]; unfold wrap64; omega
  rw [e]
  rfl
theorem tens_f : ∀ (m n : Nat), n ≤ m → ∀ (t : ByteArray), t.size + n ≤ 9000000000000000000 → ∃ K, bulwarkref10_tens.l0 K (n : Int) t = some (decS n ++ t) := by
  intro m
  induction m with
  | zero =>
    intro n hn t ht
    obtain rfl : n = 0 := by omega
    refine ⟨1, ?_⟩
    simp only [bulwarkref10_tens.l0, Option.bind_some]
    rw [tens_y, if_pos (by show 1 + t.size ≤ _; omega), if_pos (by rw [show ((0 : Nat) : Int) = 0 from rfl, Int.zero_tdiv]; unfold wrap64; omega), decS_one 0 (by decide)]
  | succ m ih =>
    intro n hn t ht
    have e10 : wrap64 (Int.tdiv (n : Int) 10) = ((n / 10 : Nat) : Int) := by
      have h1 : Int.tdiv (n : Int) 10 = ((n / 10 : Nat) : Int) := by rw [Int.tdiv_eq_ediv_of_nonneg (by omega)]; omega
      rw [h1]; unfold wrap64; omega
    by_cases h : n < 10
    · refine ⟨1, ?_⟩
      simp only [bulwarkref10_tens.l0, Option.bind_some]
      rw [tens_y, if_pos (by show 1 + t.size ≤ _; omega), e10, if_pos (by omega), decS_one n h]
    · obtain ⟨K, hK⟩ := ih (n / 10) (by omega) ((⟨#[UInt8.ofNat (48 + n % 10)]⟩ : ByteArray) ++ t) (by rw [ByteArray.size_append]; show 1 + t.size + n / 10 ≤ _; omega)
      refine ⟨K + 1, ?_⟩
      simp only [bulwarkref10_tens.l0, Option.bind_some]
      rw [tens_y, if_pos (by show 1 + t.size ≤ _; omega), e10, if_neg (by omega), hK, decS_step n h, ByteArray.append_assoc]
end Go.Proofs.YtdjmahmbofhnpaaDoor.Ar
