/- The size of a member in plain words: what ar's way (Atoi, and Itoa back) and the reference's way (digits without a needless nought) say of ten bytes is the same. -/
import Derived.Test.YtdjmahmbofhnpaaDoorQArRF
import Derived.Test.YtdjmahmbofhnpaaDoorQArx3
import Derived.Lib.AtoiTie
import Derived.Test.YtdjmahmbofhnpaaDoorQArx4
import Derived.Test.YtdjmahmbofhnpaaDoorQArIKF
namespace Go.Proofs.YtdjmahmbofhnpaaDoor.Ar
open Go.RowKit Go.Proofs.YtdjmahmbofhnpaaDoorW.PrintWords Go.Proofs.YtdjmahmbofhnpaaDoorW.PrintLast Go.Proofs.YtdjmahmbofhnpaaDoor.QAr
set_option linter.unusedVariables false
set_option linter.unusedSimpArgs false
open Lib (decFrom decDigits digitVal decNat)
theorem decFrom_snoc (l : List UInt8) (c : UInt8) : ∀ acc, decFrom acc (l ++ [c]) = (decFrom acc l).bind fun n => (digitVal c).map fun d => n * 10 + d := by
  induction l with
  | nil =>
    intro acc
    show (match digitVal c with | some d => decFrom (acc * 10 + d) [] | none => none) = _
    cases digitVal c <;> rfl
  | cons b r ih =>
    intro acc
    show (match digitVal b with | some d => decFrom (acc * 10 + d) (r ++ [c]) | none => none) = (match digitVal b with | some d => decFrom (acc * 10 + d) r | none => none).bind _
    cases digitVal b with
    | none => rfl
    | some d => exact ih _
theorem digit_mk {d : Nat} (h : d < 10) : (UInt8.ofNat (48 + d)).toNat = 48 + d := by
  rw [UInt8.toNat_ofNat']
  omega
theorem digitVal_mk {d : Nat} (h : d < 10) : digitVal (UInt8.ofNat (48 + d)) = some d := by
  unfold digitVal
  rw [digit_mk h, if_pos (by omega)]
  congr 1
  omega
theorem decFrom_dec : ∀ n : Nat, decFrom 0 (decDigits n) = some n := by
  intro n
  induction n using Nat.strongRecOn with
  | _ n ih =>
    rw [Lib.decDigits]
    by_cases h : n < 10
    · rw [dif_pos h]
      show (match digitVal (UInt8.ofNat (48 + n)) with | some d => decFrom (0 * 10 + d) [] | none => none) = _
      rw [digitVal_mk h]
      show some (0 * 10 + n) = _
      congr 1; omega
    · rw [dif_neg h, decFrom_snoc, ih (n / 10) (by omega), digitVal_mk (by omega)]
      show some (n / 10 * 10 + n % 10) = _
      congr 1; omega
theorem decFrom_ge (l : List UInt8) : ∀ (acc n : Nat), decFrom acc l = some n → acc ≤ n := by
  induction l with
  | nil => intro acc n h; cases h; exact Nat.le_refl _
  | cons b r ih =>
    intro acc n h
    change (match digitVal b with | some d => decFrom (acc * 10 + d) r | none => none) = some n at h
    cases hd : digitVal b with
    | none => rw [hd] at h; cases h
    | some d => rw [hd] at h; have := ih _ _ h; omega
/-- A numeral without a needless nought is the number's own. -/
theorem dec_canon : ∀ (l : List UInt8) (n : Nat), l ≠ [] → decFrom 0 l = some n → (l.length = 1 ∨ l.head? ≠ some 48) → decDigits n = l := by
  have key : ∀ (k : Nat) (l : List UInt8) (n : Nat), l.length = k → l ≠ [] → decFrom 0 l = some n → (l.length = 1 ∨ l.head? ≠ some 48) → decDigits n = l ∧ (l.head? ≠ some 48 → 1 ≤ n) := by
    intro k
    induction k with
    | zero => intro l n hl hne; exact absurd (List.eq_nil_of_length_eq_zero hl) hne
    | succ k ih =>
      intro l n hl hne hd hc
      obtain ⟨l', c, rfl⟩ : ∃ l' c, l = l' ++ [c] := ⟨l.dropLast, l.getLast hne, (List.dropLast_concat_getLast hne).symm⟩
      rw [decFrom_snoc] at hd
      have hk : l'.length = k := by simpa using hl
      cases hc' : digitVal c with
      | none => rw [hc'] at hd; cases hx : decFrom 0 l' <;> rw [hx] at hd <;> cases hd
      | some d =>
        obtain ⟨g1, g2, g3⟩ := Lib.digitVal_eq hc'
        have hcc : c = UInt8.ofNat (48 + d) := by
          apply UInt8.toNat_inj.1
          rw [digit_mk (by omega)]
          omega
        rw [hc'] at hd
        by_cases hl' : l' = []
        · subst hl'
          change some (0 * 10 + d) = some n at hd
          obtain rfl : d = n := by injection hd; omega
          rw [Lib.decDigits, dif_pos (by omega), hcc]
          refine ⟨rfl, fun hh => ?_⟩
          rcases Nat.eq_zero_or_pos d with h0 | h0
          · subst h0; exact absurd rfl hh
          · exact h0
        · cases hx : decFrom 0 l' with
          | none => rw [hx] at hd; cases hd
          | some m =>
            rw [hx] at hd
            change some (m * 10 + d) = some n at hd
            obtain rfl : m * 10 + d = n := by injection hd
            have hh : l'.head? ≠ some 48 := by
              rcases hc with h1 | h1
              · have : 0 < l'.length := List.length_pos_iff.2 hl'
                rw [List.length_append] at h1; have : [c].length = 1 := rfl; omega
              · cases l' with
                | nil => exact absurd rfl hl'
                | cons a r => exact h1
            obtain ⟨i1, i2⟩ := ih l' m hk hl' hx (.inr hh)
            have hm := i2 hh
            rw [Lib.decDigits, dif_neg (by omega), show (m * 10 + d) / 10 = m by omega, show (m * 10 + d) % 10 = d by omega, i1, hcc]
            exact ⟨rfl, fun _ => by omega⟩
  intro l n h1 h2 h3
  exact (key l.length l n rfl h1 h2 h3).1
theorem dec_head (n : Nat) : (decDigits n).length = 1 ∨ (decDigits n).head? ≠ some 48 := by
  have key : ∀ n : Nat, decDigits n ≠ [] ∧ (1 ≤ n → (decDigits n).head? ≠ some 48) ∧ (n < 10 → (decDigits n).length = 1) := by
    intro n
    induction n using Nat.strongRecOn with
    | _ n ih =>
      rw [Lib.decDigits]
      by_cases h : n < 10
      · rw [dif_pos h]
        refine ⟨by simp, fun h1 => ?_, fun _ => rfl⟩
        intro e
        have e2 : UInt8.ofNat (48 + n) = 48 := Option.some.inj e
        have e3 := digit_mk h
        rw [e2] at e3
        have : (48 : UInt8).toNat = 48 := rfl
        omega
      · rw [dif_neg h]
        obtain ⟨i1, i2, _⟩ := ih (n / 10) (by omega)
        refine ⟨by simp, fun h1 => ?_, fun h => absurd h (by omega)⟩
        have i3 := i2 (by omega)
        cases hd : decDigits (n / 10) with
        | nil => exact absurd hd i1
        | cons a r => rw [hd] at i3; exact i3
  by_cases h : n < 10
  · exact .inl ((key n).2.2 h)
  · exact .inr ((key n).2.1 (by omega))
theorem dec_ne (n : Nat) : decDigits n ≠ [] := by
  rw [Lib.decDigits]
  split <;> simp
theorem dec_digit (n : Nat) : ∀ b ∈ decDigits n, 48 ≤ b.toNat ∧ b.toNat ≤ 57 := by
  induction n using Nat.strongRecOn with
  | _ n ih =>
    rw [Lib.decDigits]
    by_cases h : n < 10
    · rw [dif_pos h]
      intro b hb
      rw [List.mem_singleton.1 hb, digit_mk h]
      omega
    · rw [dif_neg h]
      intro b hb
      rcases List.mem_append.1 hb with hb | hb
      · exact ih _ (by omega) b hb
      · rw [List.mem_singleton.1 hb, digit_mk (by omega)]
        omega
/-- The number of a text of digits without a needless nought. -/
def sizeR (s : List UInt8) : Option Nat := if s = [] then none else if 1 < s.length ∧ s.head? = some 48 then none else decFrom 0 s
theorem sizeR_iff (s : List UInt8) (n : Nat) : sizeR s = some n ↔ s = decDigits n := by
  unfold sizeR
  constructor
  · intro h
    split at h
    · cases h
    · rename_i h1
      split at h
      · cases h
      · rename_i h2
        refine (dec_canon s n h1 h ?_).symm
        by_cases h3 : s.length = 1
        · exact .inl h3
        · have : 0 < s.length := List.length_pos_iff.2 h1
          exact .inr (fun e => h2 ⟨by omega, e⟩)
  · rintro rfl
    rw [if_neg (dec_ne n), if_neg (fun h => ?_), decFrom_dec]
    rcases dec_head n with h1 | h1
    · omega
    · exact h1 h.2
theorem trimRightB_snoc (l : List UInt8) (c : UInt8) : Lib.trimRightB (l ++ [c]) 32 = if c = 32 then Lib.trimRightB l 32 else l ++ [c] := by
  unfold Lib.trimRightB
  rw [List.reverse_append]
  show (List.dropWhile (· == (32 : UInt8)) (c :: l.reverse)).reverse = _
  rw [List.dropWhile_cons]
  by_cases h : c = 32
  · rw [if_pos (by simpa using h), if_pos h]
  · rw [if_neg (by simpa using h), if_neg h]; simp
/-- A text is what is left without its blanks, and blanks. -/
theorem trim_pad (l : List UInt8) : l = Lib.trimRightB l 32 ++ List.replicate (l.length - (Lib.trimRightB l 32).length) 32 := by
  have key : ∀ (k : Nat) (l : List UInt8), l.length = k → l = Lib.trimRightB l 32 ++ List.replicate (l.length - (Lib.trimRightB l 32).length) 32 ∧ (Lib.trimRightB l 32).length ≤ l.length := by
    intro k
    induction k with
    | zero => intro l hl; obtain rfl := List.eq_nil_of_length_eq_zero hl; exact ⟨rfl, Nat.le_refl _⟩
    | succ k ih =>
      intro l hl
      have hne : l ≠ [] := by intro e; rw [e] at hl; cases hl
      obtain ⟨l', c, rfl⟩ : ∃ l' c, l = l' ++ [c] := ⟨l.dropLast, l.getLast hne, (List.dropLast_concat_getLast hne).symm⟩
      rw [trimRightB_snoc]
      by_cases h : c = 32
      · rw [if_pos h]
        obtain ⟨i1, i2⟩ := ih l' (by simpa using hl)
        refine ⟨?_, by rw [List.length_append]; omega⟩
        rw [List.length_append, show [c].length = 1 from rfl, show l'.length + 1 - (Lib.trimRightB l' 32).length = (l'.length - (Lib.trimRightB l' 32).length) + 1 by omega, List.replicate_succ', ← List.append_assoc, ← i1, h]
      · rw [if_neg h]; simp
  exact (key l.length l rfl).1
theorem trim_of_pad (s : List UInt8) (k : Nat) (h : ∀ b ∈ s, b ≠ 32) : Lib.trimRightB (s ++ List.replicate k 32) 32 = s := by
  induction k with
  | zero =>
    rw [List.replicate_zero, List.append_nil]
    rcases s.eq_nil_or_concat with rfl | ⟨s', c, rfl⟩
    · rfl
    · rw [List.concat_eq_append, trimRightB_snoc, if_neg (h c (by simp))]
  | succ k ih => rw [List.replicate_succ', ← List.append_assoc, trimRightB_snoc, if_pos rfl, ih]
theorem ba_ext {s t : ByteArray} (h : s.data.toList = t.data.toList) : s = t := by rw [← Lib.mk_data s, ← Lib.mk_data t, h]
theorem padS_list (s : ByteArray) (n : Nat) : (padS s n).data.toList = s.data.toList ++ List.replicate (n - s.size) 32 := by
  unfold padS; rw [ByteArray.data_append]; simp
theorem trimS_list (s : ByteArray) : (trimS s).data.toList = Lib.trimRightB s.data.toList 32 := by unfold trimS; simp
theorem decS_list (n : Nat) : (decS n).data.toList = decDigits n := by unfold decS; simp
theorem size_list (s : ByteArray) : s.data.toList.length = s.size := by rw [Array.length_toList]; rfl
/-- THE SAME SIZE. -/
theorem sizeS_eq (t : ByteArray) (ht : t.size = 10) : sizeS t = sizeR (trimS t).data.toList := by
  have hl : (trimS t).data.toList.length ≤ 10 := by rw [size_list]; exact ht ▸ trimS_size t
  have ha : Lib.atoiAll (trimS t).data.toList = Lib.NumEnd.ofOption (Lib.atoi (trimS t).data.toList) := Lib.atoiAll_short _ (by omega)
  have hpad : padS (trimS t) 10 = t := by
    apply ba_ext
    rw [padS_list, trimS_list]
    have h := trim_pad t.data.toList
    rw [size_list, ht] at h
    have e : (trimS t).size = (Lib.trimRightB t.data.toList 32).length := by rw [← trimS_list, size_list]
    rw [e]
    exact h.symm
  have fwd : ∀ n, sizeR (trimS t).data.toList = some n → sizeS t = some n := by
    intro n h
    have h1 := (sizeR_iff _ _).1 h
    have e : trimS t = decS n := ba_ext (by rw [h1, decS_list])
    have hd := decFrom_dec n
    have hat : Lib.atoi (decDigits n) = some (n : Int) := by
      cases hdd : decDigits n with
      | nil => exact absurd hdd (dec_ne n)
      | cons b r =>
        have hb := dec_digit n b (by rw [hdd]; exact List.mem_cons_self)
        have hn : decNat (b :: r) = some n := by
          rw [hdd] at hd
          unfold decNat
          exact hd
        show (if b == 45 then _ else if b == 43 then _ else _) = _
        rw [if_neg (by intro e; have : b = 45 := (by simpa using e); subst this; exact absurd hb.1 (by decide)), if_neg (by intro e; have : b = 43 := (by simpa using e); subst this; exact absurd hb.1 (by decide)), hn]
        rfl
    unfold sizeS
    rw [ha, h1, hat]
    show (if (n : Int) < 0 then none else if t = padS (decS (n : Int).toNat) 10 then some (n : Int).toNat else none) = _
    rw [if_neg (by omega), Int.toNat_natCast, ← e, hpad, if_pos rfl]
  have bwd : ∀ n, sizeS t = some n → sizeR (trimS t).data.toList = some n := by
    intro n h
    unfold sizeS at h
    split at h
    · rename_i v hv
      split at h
      · cases h
      · split at h
        · rename_i h1 h2
          obtain rfl : v.toNat = n := by injection h
          rw [sizeR_iff]
          have h3 : t.data.toList = decDigits v.toNat ++ List.replicate (10 - (decS v.toNat).size) 32 := by
            have h4 : t.data.toList = (padS (decS v.toNat) 10).data.toList := congrArg (fun x : ByteArray => x.data.toList) h2
            rw [padS_list, decS_list] at h4
            exact h4
          rw [trimS_list, h3]
          exact trim_of_pad _ _ (fun b hb e => by have := dec_digit _ b hb; subst e; exact absurd this.1 (by decide))
        · cases h
    · cases h
  cases h : sizeR (trimS t).data.toList with
  | some n => exact fwd n h
  | none =>
    cases h2 : sizeS t with
    | none => rfl
    | some n => rw [bwd n h2] at h; cases h
end Go.Proofs.YtdjmahmbofhnpaaDoor.Ar

/- What the reference takes an archive apart into is partsS. -/
namespace Go.Proofs.YtdjmahmbofhnpaaDoor.Ar
open Go.RowKit Go.Proofs.YtdjmahmbofhnpaaDoorW.PrintWords Go.Proofs.YtdjmahmbofhnpaaDoorW.PrintLast Go.Proofs.YtdjmahmbofhnpaaDoor.QAr
set_option linter.unusedVariables false
set_option linter.unusedSimpArgs false
open Lib (decFrom decDigits digitVal)
theorem lift {α : Type} {F : Nat → Option α} (h : ∀ k, LeO (F k) (F (k + 1))) {K : Nat} {r : α} (hk : F K = some r) : ∀ d, F (K + d) = some r := by
  intro d
  induction d with
  | zero => exact hk
  | succ d ih => exact h _ _ ih
theorem son_list (xs : List Int) : (strOfNums xs).data.toList = xs.map fun n => UInt8.ofNat n.toNat := by unfold strOfNums; simp
theorem byte_toNat {x : Int} (h0 : 0 ≤ x) (h1 : x < 256) : ((UInt8.ofNat x.toNat).toNat : Int) = x := by rw [UInt8.toNat_ofNat']; omega
theorem take_snoc (l : List Int) (n : Nat) (h : n < l.length) : l.take (n + 1) = l.take n ++ [l.getD n 0] := by
  rw [List.take_succ_eq_append_getElem h, List.getD_eq_getElem?_getD, List.getElem?_eq_getElem h]; rfl
theorem trimmed_f (l : List Int) (hb : Bytes8 l) (hl : l.length ≤ 1000000) : ∃ K, bulwarkref10_trimmed.f K l = some (trimS (strOfNums l)) := by
  have key : ∀ n : Nat, n ≤ l.length → ∃ K, bulwarkref10_trimmed.l0 K l (n : Int) = some (trimS (strOfNums (l.take n))) := by
    intro n
    induction n with
    | zero =>
      intro _
      refine ⟨1, ?_⟩
      simp only [bulwarkref10_trimmed.l0]
      rw [if_neg (by omega), if_pos (by omega), if_pos (by omega)]
      rfl
    | succ n ih =>
      intro hn
      have hw : wrap64 (((n + 1 : Nat) : Int) - 1) = (n : Int) := by rw [w64 (by omega) (by omega)]; omega
      have hg := hb.get n
      have hts : (strOfNums (l.take (n + 1))).data.toList = (strOfNums (l.take n)).data.toList ++ [UInt8.ofNat (l.getD n 0).toNat] := by rw [take_snoc l n (by omega), son_list, son_list, List.map_append]; rfl
      by_cases h32 : l.getD n 0 = 32
      · obtain ⟨K, hK⟩ := ih (by omega)
        refine ⟨K + 1, ?_⟩
        simp only [bulwarkref10_trimmed.l0]
        rw [hw, if_pos (by omega), if_pos (by omega), if_pos (by omega), if_pos (by unfold rd; rw [Int.toNat_natCast]; exact h32), hK]
        congr 1
        apply ba_ext
        rw [trimS_list, trimS_list, hts, trimRightB_snoc, h32]; exact (if_pos (by decide)).symm
      · refine ⟨1, ?_⟩
        simp only [bulwarkref10_trimmed.l0]
        rw [hw, if_pos (by omega), if_pos (by omega), if_pos (by omega), if_neg (by unfold rd; rw [Int.toNat_natCast]; exact h32), if_pos (by omega), if_pos (by omega), Int.toNat_natCast]
        congr 1
        apply ba_ext
        rw [trimS_list, hts, trimRightB_snoc, if_neg]
        intro e
        have := byte_toNat hg.1 hg.2
        rw [e] at this
        exact h32 this.symm
  obtain ⟨K, hK⟩ := key l.length (Nat.le_refl _)
  rw [List.take_length] at hK
  exact ⟨K, hK⟩
def sizeA (o : Option Nat) : Int × Bool := match o with | some n => ((n : Int), true) | none => (0, false)
theorem bt_list (s : ByteArray) (i : Nat) (h : i < s.size) : ∃ b r, s.data.toList.drop i = b :: r ∧ s.data.toList.drop (i + 1) = r ∧ bt s (i : Int) = (b.toNat : Int) := by
  have hl : i < s.data.toList.length := by rw [size_list]; exact h
  refine ⟨_, _, List.drop_eq_getElem_cons hl, rfl, ?_⟩
  unfold bt
  rw [Int.toNat_natCast, dif_pos h]
  rfl
theorem size_l0 (s : ByteArray) (hs : s.size ≤ 10) : ∀ (d i acc : Nat), i + d = s.size → acc < 10 ^ i → ∃ K, bulwarkref10_size.l0 K s (acc : Int) (i : Int) = some (sizeA (decFrom acc (s.data.toList.drop i))) := by
  intro d
  induction d with
  | zero =>
    intro i acc hi ha
    refine ⟨1, ?_⟩
    simp only [bulwarkref10_size.l0]
    rw [if_neg (by omega), List.drop_of_length_le (by rw [size_list]; omega)]
    rfl
  | succ d ih =>
    intro i acc hi ha
    obtain ⟨b, r, h1, h2, h3⟩ := bt_list s i (by omega)
    rw [h1]
    have hb : b.toNat < 256 := b.toNat_lt
    have hp : acc < 10 ^ 10 := Nat.lt_of_lt_of_le ha (Nat.pow_le_pow_right (by decide) (by omega))
    have hp2 : (10 : Nat) ^ 10 = 10000000000 := by decide
    by_cases g1 : b.toNat < 48
    · refine ⟨1, ?_⟩
      simp only [bulwarkref10_size.l0]
      rw [h3, if_pos (by omega), if_pos (by omega), if_pos (by omega)]
      show _ = some (sizeA (match digitVal b with | some d => decFrom (acc * 10 + d) r | none => none))
      rw [show digitVal b = none by unfold digitVal; rw [if_neg (by omega)]]
      rfl
    · by_cases g2 : 57 < b.toNat
      · refine ⟨1, ?_⟩
        simp only [bulwarkref10_size.l0]
        rw [h3, if_pos (by omega), if_pos (by omega), if_neg (by omega), if_pos (by omega)]
        show _ = some (sizeA (match digitVal b with | some d => decFrom (acc * 10 + d) r | none => none))
        rw [show digitVal b = none by unfold digitVal; rw [if_neg (by omega)]]
        rfl
      · obtain ⟨K, hK⟩ := ih (i + 1) (acc * 10 + (b.toNat - 48)) (by omega) (by rw [Nat.pow_succ]; omega)
        refine ⟨K + 1, ?_⟩
        simp only [bulwarkref10_size.l0]
        have e1 : wrap64 (wrap64 (10 * (acc : Int)) + ((b.toNat : Int) - 48) % 256) = ((acc * 10 + (b.toNat - 48) : Nat) : Int) := by rw [w64 (z := 10 * (acc : Int)) (by omega) (by omega), w64 (by omega) (by omega)]; omega
        rw [h3, if_pos (by omega), if_pos (by omega), if_neg (by omega), if_neg (by omega), e1, show wrap64 ((i : Int) + 1) = ((i + 1 : Nat) : Int) from w64n (j := 1) rfl (by omega), hK, h2]
        show _ = some (sizeA (match digitVal b with | some d => decFrom (acc * 10 + d) r | none => none))
        rw [show digitVal b = some (b.toNat - 48) by unfold digitVal; rw [if_pos (by omega)]]
theorem size_f (l : List Int) (hb : Bytes8 l) (hl : l.length = 10) : ∃ K, bulwarkref10_size.f K l = some (sizeA (sizeS (strOfNums l))) := by
  obtain ⟨K1, h1⟩ := trimmed_f l hb (by omega)
  have hz : (strOfNums l).size = 10 := by rw [size_ofNums]; exact hl
  rw [sizeS_eq _ hz]
  obtain ⟨s, hs⟩ : ∃ s, trimS (strOfNums l) = s := ⟨_, rfl⟩
  have hsz : s.size ≤ 10 := by rw [← hs]; exact hz ▸ trimS_size _
  rw [hs] at h1 ⊢
  obtain ⟨K2, h2⟩ := size_l0 s hsz s.size 0 0 (by omega) (by decide)
  rw [List.drop_zero] at h2
  have h3 := lift (F := fun k => bulwarkref10_trimmed.f k l) (fun k => bulwarkref10_trimmed.mono l k) h1 (K2 + 1)
  have h4 := lift (F := fun k => bulwarkref10_size.l0 k s 0 0) (fun k => (bulwarkref10_size.mono_l k).2 s 0 0) h2 K1
  refine ⟨K1 + (K2 + 1), ?_⟩
  unfold bulwarkref10_size.f
  rw [h3, Option.bind_some]
  have hj : ∀ x : Bool, bulwarkref10_size.j0 (K1 + (K2 + 1)) s x = if x = true then some (0, false) else bulwarkref10_size.l0 (K1 + K2) s 0 0 := fun x => rfl
  rw [hj, hj, hj, show K1 + K2 = K2 + K1 by omega, h4]
  unfold sizeR
  by_cases he : s.data.toList = []
  · rw [if_pos (by rw [Lib.toList_data]; exact he), if_pos rfl, if_pos he]; rfl
  · rw [if_neg (by rw [Lib.toList_data]; exact he), if_neg he]
    have hpos : 0 < s.size := by rw [← size_list]; exact List.length_pos_iff.2 he
    by_cases h1s : 1 < s.size
    · rw [if_pos (by omega), if_pos (by omega)]
      obtain ⟨b, r, g1, g2, g3⟩ := bt_list s 0 hpos
      rw [List.drop_zero] at g1
      rw [show ((0 : Int)) = ((0 : Nat) : Int) from rfl, g3]
      by_cases h48 : b = 48
      · rw [if_pos (by subst h48; rfl), if_pos ⟨by rw [size_list]; exact h1s, by rw [g1, h48]; rfl⟩]; rfl
      · rw [if_neg (fun e => h48 (by have e2 : (b.toNat : Int) = 48 := (by simpa using e); exact UInt8.toNat_inj.1 (by show b.toNat = 48; omega))), if_neg (fun e => h48 (by have := e.2; rw [g1] at this; exact Option.some.inj this))]
    · rw [if_neg (by omega), if_neg (by simp), if_neg (fun e => h1s (by rw [← size_list]; exact e.1))]
theorem magic_f : bulwarkref10_magic.f = some (⟨#[33, 60, 97, 114, 99, 104, 62, 10]⟩ : ByteArray) := by rfl
theorem cut_head (b : List Int) (a i j : Nat) (h1 : i ≤ j) (h2 : j ≤ 60) (h3 : a + 60 ≤ b.length) : strOfNums ((b.take (a + j)).drop (a + i)) = (headAt b a).extract i j := by
  apply ba_ext
  unfold headAt
  rw [ByteArray.data_extract, Array.toList_extract, son_list, son_list]
  simp only [List.extract_eq_take_drop, List.drop_take, List.map_take, List.map_drop, List.drop_drop, List.take_take]
  congr 1
  · omega
theorem at_tail (b : List Int) (hb : Bytes8 b) (a : Nat) (h3 : a + 60 ≤ b.length) : (headAt b a).extract 58 60 = (⟨#[96, 10]⟩ : ByteArray) ↔ b.getD (a + 58) 0 = 96 ∧ b.getD (a + 59) 0 = 10 := by
  rw [← cut_head b a 58 60 (by omega) (by omega) h3]
  have e : (b.take (a + 60)).drop (a + 58) = [b.getD (a + 58) 0, b.getD (a + 59) 0] := by
    rw [show a + 60 = (a + 58) + 1 + 1 from rfl, take_snoc b (a + 58 + 1) (by omega), take_snoc b (a + 58) (by omega), List.append_assoc, List.drop_append_of_le_length (by rw [List.length_take]; omega), List.drop_of_length_le (by rw [List.length_take]; omega)]
    rfl
  rw [e]
  have g1 := hb.get (a + 58)
  have g2 := hb.get (a + 59)
  constructor
  · intro h
    have h4 : (strOfNums [b.getD (a + 58) 0, b.getD (a + 59) 0]).data.toList = [96, 10] := by rw [h]
    rw [son_list] at h4
    simp only [List.map_cons, List.map_nil, List.cons.injEq, and_true] at h4
    have h5 := byte_toNat g1.1 g1.2
    have h6 := byte_toNat g2.1 g2.2
    rw [h4.1] at h5
    rw [h4.2] at h6
    exact ⟨h5.symm, h6.symm⟩
  · rintro ⟨h, h'⟩
    rw [h, h']
    rfl
theorem wk {A k : Nat} (h : A + k ≤ 1000000) (z : Int) (hz : z = (k : Int)) : wrap64 ((A : Int) + z) = ((A + k : Nat) : Int) := by subst hz; exact w64n rfl (by omega)
theorem wsub {n A : Nat} (h : A ≤ n) (hn : n ≤ 1000000) : wrap64 ((n : Int) - (A : Int)) = ((n - A : Nat) : Int) := by rw [w64 (by omega) (by omega)]; omega
theorem wsub60 {n : Nat} (h : 60 ≤ n) (hn : n ≤ 1000000) : wrap64 ((n : Int) - 60) = ((n - 60 : Nat) : Int) := by rw [w64 (by omega) (by omega)]; omega
set_option maxHeartbeats 4000000 in
theorem parts_l0 (b : List Int) (hb : Bytes8 b) (hl : b.length ≤ 65536) : ∀ (f a : Nat) (acc : List S64), b.length - a ≤ f → a ≤ b.length → acc.length ≤ a → ∃ K, bulwarkref10_parts.l0 K b acc (a : Int) = some (partsL f b a acc) := by
  intro f
  induction f with
  | zero =>
    intro a acc h1 h2 h3
    refine ⟨1, ?_⟩
    simp only [bulwarkref10_parts.l0]
    rw [if_neg (by omega)]
    rfl
  | succ f ih =>
    intro a acc h1 h2 h3
    by_cases ha : b.length ≤ a
    · refine ⟨1, ?_⟩
      simp only [bulwarkref10_parts.l0, partsL]
      rw [if_neg (by omega), if_pos ha]
    · have j1 : ∀ A : Nat, A ≤ b.length → a ≤ A → ∃ K, bulwarkref10_parts.j1 K b acc (A : Int) = some (match stepS b A with | .error e => ([], e) | .ok (p, a') => partsL f b a' (acc ++ [p])) := by
        intro A hA haA
        have EL := Aside0.mk (wsub hA (Nat.le_trans hl (by decide)))
        by_cases h60 : b.length < A + 60
        · refine ⟨1, ?_⟩
          simp only [bulwarkref10_parts.j1]
          rw [EL.out, if_pos (by omega), show stepS b A = .error 4 by unfold stepS; rw [if_pos h60]]
        · have E48.out : wrap64 ((A : Int) + 48) = ((A + 48 : Nat) : Int) := w64n (j := 48) rfl (by omega)
          have E58 := Aside0.mk (wk (A := A) (k := 58) (by omega) 58 rfl)
          have E59 := Aside0.mk (wk (A := A) (k := 59) (by omega) 59 rfl)
          have E60 := Aside0.mk (wk (A := A) (k := 60) (by omega) 60 rfl)
          have E16 := Aside0.mk (wk (A := A) (k := 16) (by omega) 16 rfl)
          obtain ⟨fl, hfl⟩ : ∃ x, (b.take (A + 58)).drop (A + 48) = x := ⟨_, rfl⟩
          have hfb : Bytes8 fl := by rw [← hfl]; exact fun x hx => hb x (List.mem_of_mem_take (List.mem_of_mem_drop hx))
          have hfz : fl.length = 10 := by rw [← hfl, List.length_drop, List.length_take]; omega
          have hfs : strOfNums fl = (headAt b A).extract 48 58 := by rw [← hfl]; exact cut_head b A 48 58 (by omega) (by omega) (by omega)
          obtain ⟨K1, hK1⟩ := size_f fl hfb hfz
          have hat := at_tail b hb A (by omega)
          have j1_succ : ∀ K, bulwarkref10_parts.j1 (K + 1) b acc (A : Int) = (bulwarkref10_size.f K fl).bind fun bt112 => if bt112.2 = true then (if b.getD (A + 58) 0 = 96 then bulwarkref10_parts.j2 K b acc (A : Int) bt112.1 (b.getD (A + 59) 0 != 10) else bulwarkref10_parts.j2 K b acc (A : Int) bt112.1 true) else bulwarkref10_parts.j2 K b acc (A : Int) bt112.1 true := by
            intro K
            simp only [bulwarkref10_parts.j1]
            rw [EL.out, E48.out, E58.out, E59.out, if_neg (by omega), if_pos (by omega), if_pos (by omega), if_pos (by omega)]
            simp only [Int.toNat_natCast, rd]
            rw [hfl]
            congr 1
            funext bt112
            rw [if_pos (show (0 : Int) ≤ ((A + 58 : Nat) : Int) by omega), if_pos (show ((A + 58 : Nat) : Int) < (b.length : Int) by omega), if_pos (show (0 : Int) ≤ ((A + 59 : Nat) : Int) by omega), if_pos (show ((A + 59 : Nat) : Int) < (b.length : Int) by omega)]
            rfl
          have bad : ∀ K n, bulwarkref10_parts.j2 (K + 1) b acc (A : Int) n true = some ([], 5) := by
            intro K n
            simp only [bulwarkref10_parts.j2, if_true]
          have lf := lift (F := fun k => bulwarkref10_size.f k fl) (fun k => bulwarkref10_size.mono fl k) hK1
          rw [hfs] at lf
          cases hs : sizeS ((headAt b A).extract 48 58) with
          | none =>
            refine ⟨K1 + 1 + 1, ?_⟩
            rw [hs] at lf
            rw [j1_succ, show bulwarkref10_size.f (K1 + 1) fl = _ from lf 1, Option.bind_some, show stepS b A = .error 5 by unfold stepS; rw [if_neg h60, hs]]
            show (if false = true then _ else bulwarkref10_parts.j2 (K1 + 1) b acc (A : Int) 0 true) = _
            rw [if_neg (by simp), bad]
          | some n =>
            rw [hs] at lf
            by_cases ht : (headAt b A).extract 58 60 = (⟨#[96, 10]⟩ : ByteArray)
            · obtain ⟨t1, t2⟩ := hat.1 ht
              have good : ∀ K, bulwarkref10_size.f K fl = some ((n : Int), true) → bulwarkref10_parts.j1 (K + 1) b acc (A : Int) = bulwarkref10_parts.j2 K b acc (A : Int) (n : Int) false := by
                intro K hK
                rw [j1_succ, hK, Option.bind_some]
                show (if true = true then _ else _) = _
                rw [if_pos rfl, if_pos t1, t2]
                rfl
              have E60b := Aside0.mk (wsub60 (n := b.length - A) (by omega) (by omega))
              by_cases hbig : b.length < A + 60 + n
              · refine ⟨K1 + 1 + 1, ?_⟩
                rw [good _ (lf 1), show stepS b A = .error 4 by unfold stepS; rw [if_neg h60, hs]; simp only []; rw [if_pos ht, if_pos hbig]]
                simp only [bulwarkref10_parts.j2]
                rw [if_neg (by simp), EL.out, E60b.out, if_pos (by omega)]
              · obtain ⟨a', ha'⟩ : ∃ x, A + 60 + n = x := ⟨_, rfl⟩
                obtain ⟨nm, hnm⟩ : ∃ x, (b.take (A + 16)).drop A = x := ⟨_, rfl⟩
                have hnb : Bytes8 nm := by rw [← hnm]; exact fun x hx => hb x (List.mem_of_mem_take (List.mem_of_mem_drop hx))
                have hnz : nm.length ≤ 1000000 := by rw [← hnm, List.length_drop, List.length_take]; omega
                have hns : strOfNums nm = (headAt b A).extract 0 16 := by rw [← hnm]; exact cut_head b A 0 16 (by omega) (by omega) (by omega)
                obtain ⟨K2, hK2⟩ := trimmed_f nm hnb hnz
                rw [hns] at hK2
                have hxe : (b.take a').drop (A + 60) = (b.drop (A + 60)).take n := by rw [List.drop_take]; congr 1; omega
                obtain ⟨K3, hK3⟩ := ih a' (acc ++ [⟨trimS ((headAt b A).extract 0 16), (A : Int), (b.drop (A + 60)).take n⟩]) (by omega) (by omega) (by rw [List.length_append]; show acc.length + 1 ≤ _; omega)
                have f1 := lf (K2 + K3 + 1)
                have f2 := lift (F := fun k => bulwarkref10_trimmed.f k nm) (fun k => bulwarkref10_trimmed.mono nm k) hK2 (K1 + K3)
                have f3 := lift (F := fun k => bulwarkref10_parts.l0 k b (acc ++ [⟨trimS ((headAt b A).extract 0 16), (A : Int), (b.drop (A + 60)).take n⟩]) (a' : Int)) (fun k => (bulwarkref10_parts.mono_l k).1 b _ _) hK3 (K1 + K2)
                have f2b : bulwarkref10_trimmed.f (K1 + K2 + K3) nm = some (trimS ((headAt b A).extract 0 16)) := by rw [show K1 + K2 + K3 = K2 + (K1 + K3) by omega]; exact f2
                refine ⟨K1 + K2 + K3 + 1 + 1, ?_⟩
                rw [good _ (by rw [show K1 + K2 + K3 + 1 = K1 + (K2 + K3 + 1) by omega]; exact f1), show stepS b A = .ok (⟨trimS ((headAt b A).extract 0 16), (A : Int), (b.drop (A + 60)).take n⟩, a') by unfold stepS; rw [if_neg h60, hs]; simp only []; rw [if_pos ht, if_neg hbig, ha']]
                have E6n : Aside0 (wrap64 (((A + 60 : Nat) : Int) + (n : Int)) = (a' : Int)) := ⟨by rw [w64 (by omega) (by omega)]; omega⟩
                simp only [bulwarkref10_parts.j2]
                rw [if_neg (by simp), EL.out, E60b.out, if_neg (by omega), E60.out, E6n.out, if_pos (by omega), if_pos (by omega), if_pos (by omega)]
                simp only [Int.toNat_natCast]
                rw [hxe, if_pos (by rw [List.length_take, List.length_drop]; show 0 + _ < _; omega), if_pos (by omega), E16.out, if_pos (by omega), if_pos (by omega)]
                simp only [Int.toNat_natCast]
                rw [hnm, f2b, Option.bind_some, if_pos (by omega)]
                rw [show K1 + K2 + K3 = K3 + (K1 + K2) by omega]
                exact f3
            · have hne : ¬ (b.getD (A + 58) 0 = 96 ∧ b.getD (A + 59) 0 = 10) := fun h => ht (hat.2 h)
              refine ⟨K1 + 1 + 1, ?_⟩
              rw [j1_succ, show bulwarkref10_size.f (K1 + 1) fl = _ from lf 1, Option.bind_some, show stepS b A = .error 5 by unfold stepS; rw [if_neg h60, hs]; simp only []; rw [if_neg ht]]
              show (if true = true then _ else _) = _
              rw [if_pos rfl]
              by_cases t1 : b.getD (A + 58) 0 = 96
              · rw [if_pos t1, show (b.getD (A + 59) 0 != 10) = true by simp only [bne_iff_ne, ne_eq]; exact fun h => hne ⟨t1, h⟩, bad]
              · rw [if_neg t1, bad]
      by_cases hodd : a % 2 = 1
      · have hm : Int.tmod (a : Int) 2 = 1 := by rw [Int.tmod_eq_emod_of_nonneg (by omega)]; omega
        have E1 := Aside0.mk (wk (A := a) (k := 1) (by omega) 1 rfl)
        have he : even a = a + 1 := by unfold even; omega
        by_cases h10 : b.getD a 0 = 10
        · by_cases hend : a + 1 = b.length
          · refine ⟨1, ?_⟩
            simp only [bulwarkref10_parts.l0, partsL]
            rw [if_pos (by omega), if_pos hm, if_pos (by omega), if_pos (by unfold rd; rw [Int.toNat_natCast]; exact h10), E1.out, if_pos (by omega), if_neg ha, if_pos ⟨hodd, .inr hend⟩]
          · obtain ⟨K, hK⟩ := j1 (a + 1) (by omega) (by omega)
            refine ⟨K + 1, ?_⟩
            simp only [bulwarkref10_parts.l0, partsL]
            rw [if_pos (by omega), if_pos hm, if_pos (by omega), if_pos (by unfold rd; rw [Int.toNat_natCast]; exact h10), E1.out, if_neg (by omega), hK, if_neg ha, if_neg (by rintro ⟨_, h | h⟩; exact h h10; exact hend h), he]
            cases stepS b (a + 1) <;> rfl
        · refine ⟨1, ?_⟩
          simp only [bulwarkref10_parts.l0, partsL]
          rw [if_pos (by omega), if_pos hm, if_pos (by omega), if_neg (by unfold rd; rw [Int.toNat_natCast]; exact h10), if_neg ha, if_pos ⟨hodd, .inl h10⟩]
      · have hm : ¬ Int.tmod (a : Int) 2 = 1 := by rw [Int.tmod_eq_emod_of_nonneg (by omega)]; omega
        obtain ⟨K, hK⟩ := j1 a (by omega) (Nat.le_refl _)
        refine ⟨K + 1, ?_⟩
        simp only [bulwarkref10_parts.l0, partsL]
        rw [if_pos (by omega), if_neg hm, hK, if_neg ha, if_neg (fun h => hodd h.1), show even a = a by unfold even; omega]
        cases stepS b a <;> rfl
theorem parts_f (b : List Int) (hb : Bytes8 b) (hl : b.length ≤ 65536) : ∃ K, bulwarkref10_parts.f K b = some ((partsS b).1, (partsS b).2) := by
  unfold bulwarkref10_parts.f partsS
  by_cases h8 : b.length < 8
  · exact ⟨0, by rw [if_pos (by omega), if_pos h8]⟩
  · rw [if_neg h8]
    by_cases hm : strOfNums (b.take 8) = (⟨#[33, 60, 97, 114, 99, 104, 62, 10]⟩ : ByteArray)
    · obtain ⟨K, hK⟩ := parts_l0 b hb hl b.length 8 [] (by omega) (by omega) (Nat.zero_le _)
      refine ⟨K, ?_⟩
      rw [if_neg (by omega), if_pos (by omega), magic_f, Option.bind_some, if_pos (by rw [hm]), if_pos hm]
      exact hK
    · refine ⟨0, ?_⟩
      rw [if_neg (by omega), if_pos (by omega), magic_f, Option.bind_some, if_neg (toList_ne2 hm), if_neg hm]
end Go.Proofs.YtdjmahmbofhnpaaDoor.Ar
