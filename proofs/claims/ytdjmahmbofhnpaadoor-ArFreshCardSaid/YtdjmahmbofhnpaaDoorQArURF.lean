/- What is put is read: readS of putS. In plain words, no program. -/
import Derived.Test.YtdjmahmbofhnpaaDoorQArYF
import Derived.Test.YtdjmahmbofhnpaaDoorQArx9
import Derived.Test.YtdjmahmbofhnpaaDoorQArx11
import Derived.Test.YtdjmahmbofhnpaaDoorQArx12
namespace Go.Proofs.YtdjmahmbofhnpaaDoor.Ar
open Go.RowKit Go.Proofs.YtdjmahmbofhnpaaDoorW.PrintWords Go.Proofs.YtdjmahmbofhnpaaDoorW.PrintLast Go.Proofs.YtdjmahmbofhnpaaDoor.QAr
set_option linter.unusedVariables false
set_option linter.unusedSimpArgs false
open Lib (decDigits)
theorem son_tb (s : ByteArray) : strOfNums (tb s) = s := by
  apply ba_ext
  rw [son_list]
  unfold tb
  rw [List.map_map]
  conv => rhs; rw [← List.map_id s.data.toList]
  refine List.map_congr_left (fun b _ => ?_)
  show UInt8.ofNat (b.toNat : Int).toNat = b
  rw [Int.toNat_natCast]
  exact UInt8.ofNat_toNat
theorem dec_len {n : Nat} (h : n < 10000000000) : (decDigits n).length ≤ 10 := by
  have key : ∀ (k n : Nat), n < 10 ^ (k + 1) → (decDigits n).length ≤ k + 1 := by
    intro k
    induction k with
    | zero => intro n hn; rw [Lib.decDigits, dif_pos (by simpa using hn)]; exact Nat.le_refl _
    | succ k ih =>
      intro n hn
      rw [Lib.decDigits]
      split
      · show 1 ≤ _; omega
      · rw [List.length_append]
        have := ih (n / 10) (by rw [Nat.pow_succ] at hn; omega)
        show _ + 1 ≤ _
        omega
  exact key 9 n h
theorem decS_len {n : Nat} (h : n < 10000000000) : (decS n).size ≤ 10 := by rw [← size_list, decS_list]; exact dec_len h
theorem padS_sz (s : ByteArray) (n : Nat) (h : s.size ≤ n) : (padS s n).size = n := by rw [padS_size]; omega
/-- A name that a head may bear: its last byte is no blank. -/
def Tight (s : ByteArray) : Prop := s.size ≤ 16 ∧ Lib.trimRightB s.data.toList 32 = s.data.toList
theorem headS_parts (s : ByteArray) (n : Nat) (hs : s.size ≤ 16) (hn : n < 10000000000) : (headS s n).size = 60 ∧ (headS s n).extract 0 16 = padS s 16 ∧ (headS s n).extract 48 58 = padS (decS n) 10 ∧ (headS s n).extract 58 60 = (⟨#[96, 10]⟩ : ByteArray) := by
  have z : z1.size = 1 := rfl
  have t : (⟨#[96, 10]⟩ : ByteArray).size = 2 := rfl
  have h1 := padS_sz s 16 hs
  have h2 := padS_sz z1 12 (by rw [z]; decide)
  have h3 := padS_sz z1 6 (by rw [z]; decide)
  have h4 := padS_sz z1 8 (by rw [z]; decide)
  have h5 := padS_sz (decS n) 10 (decS_len hn)
  unfold headS
  generalize padS s 16 = a at h1 ⊢
  generalize padS z1 12 = b at h2 ⊢
  generalize padS z1 6 = c at h3 ⊢
  generalize padS z1 8 = d at h4 ⊢
  generalize padS (decS n) 10 = e at h5 ⊢
  generalize hq : (⟨#[96, 10]⟩ : ByteArray) = q at t ⊢
  have l1 : a.data.toList.length = 16 := by rw [size_list]; exact h1
  have l2 : b.data.toList.length = 12 := by rw [size_list]; exact h2
  have l3 : c.data.toList.length = 6 := by rw [size_list]; exact h3
  have l4 : d.data.toList.length = 8 := by rw [size_list]; exact h4
  have l5 : e.data.toList.length = 10 := by rw [size_list]; exact h5
  have l6 : q.data.toList.length = 2 := by rw [size_list]; exact t
  refine ⟨by simp only [ByteArray.size_append]; omega, ?_, ?_, ?_⟩
  · apply ba_ext
    simp only [ByteArray.data_extract, Array.toList_extract, List.extract_eq_take_drop, ByteArray.data_append, Array.toList_append, List.drop_zero, List.append_assoc]
    exact List.take_left' l1
  · apply ba_ext
    simp only [ByteArray.data_extract, Array.toList_extract, List.extract_eq_take_drop, ByteArray.data_append, Array.toList_append]
    rw [show a.data.toList ++ b.data.toList ++ c.data.toList ++ c.data.toList ++ d.data.toList ++ e.data.toList ++ q.data.toList = (a.data.toList ++ b.data.toList ++ c.data.toList ++ c.data.toList ++ d.data.toList) ++ (e.data.toList ++ q.data.toList) by simp only [List.append_assoc]]
    rw [List.drop_left' (by simp only [List.length_append]; omega)]
    exact List.take_left' l5
  · apply ba_ext
    simp only [ByteArray.data_extract, Array.toList_extract, List.extract_eq_take_drop, ByteArray.data_append, Array.toList_append]
    rw [List.drop_left' (by simp only [List.length_append]; omega)]
    exact List.take_of_length_le (by omega)
/-- The step over a member that stands at an even place. -/
theorem stepS_of (P : List Int) (s : ByteArray) (data R : List Int) (hs : Tight s) (hd : data.length < 10000000000) :
    stepS (P ++ (tb (headS s data.length) ++ (data ++ R))) P.length = .ok (⟨s, (P.length : Int), data⟩, P.length + 60 + data.length) := by
  obtain ⟨h60, e1, e2, e3⟩ := headS_parts s data.length hs.1 hd
  have hl : (tb (headS s data.length)).length = 60 := by rw [tb_len]; exact h60
  have hh : headAt (P ++ (tb (headS s data.length) ++ (data ++ R))) P.length = headS s data.length := by
    unfold headAt
    rw [List.drop_left, List.take_left' hl, son_tb]
  have hsz : sizeS (padS (decS data.length) 10) = some data.length := by
    have h10 := padS_sz (decS data.length) 10 (decS_len hd)
    rw [sizeS_eq _ h10, sizeR_iff, trimS_list, padS_list, decS_list]
    exact trim_of_pad _ _ (fun b hb e => by have := dec_digit _ b hb; subst e; exact absurd this.1 (by decide))
  have htr : trimS (padS s 16) = s := by
    apply ba_ext
    rw [trimS_list, padS_list]
    have key : ∀ k, Lib.trimRightB (s.data.toList ++ List.replicate k 32) 32 = s.data.toList := by
      intro k
      induction k with
      | zero => rw [List.replicate_zero, List.append_nil]; exact hs.2
      | succ k ih => rw [List.replicate_succ', ← List.append_assoc, trimRightB_snoc, if_pos rfl, ih]
    exact key _
  unfold stepS
  rw [hh, e1, e2, e3, hsz, htr]
  simp only [if_true]
  rw [if_neg (by simp only [List.length_append]; omega), if_neg (by simp only [List.length_append]; omega)]
  have hdd : ((P ++ (tb (headS s data.length) ++ (data ++ R))).drop (P.length + 60)).take data.length = data := by
    rw [← List.drop_drop, List.drop_left, List.drop_left' hl, List.take_left]
  rw [hdd]
theorem fold_pre (l : List S39) : ∀ O : List Int, ∃ t, l.foldl addM O = O ++ t := by
  induction l with
  | nil => intro O; exact ⟨[], by simp⟩
  | cons m r ih =>
    intro O
    obtain ⟨t, ht⟩ := ih (addM O m)
    rw [List.foldl_cons, ht]
    unfold addM
    split
    · exact ⟨_, by rw [List.append_assoc, List.append_assoc, List.append_assoc]⟩
    · exact ⟨_, by rw [List.append_assoc, List.append_assoc]⟩
def partsOf : Nat → List S39 → List S64
  | _, [] => []
  | o, m :: r => ⟨m.f0 ++ slashS, ((even o : Nat) : Int), m.f1⟩ :: partsOf (even o + (60 + m.f1.length)) r
theorem tight_slash (s : ByteArray) (h : s.size ≤ 15) : Tight (s ++ slashS) := by
  have z : slashS.size = 1 := rfl
  refine ⟨by rw [ByteArray.size_append, z]; omega, ?_⟩
  rw [ByteArray.data_append, Array.toList_append]
  show Lib.trimRightB (s.data.toList ++ [47]) 32 = _
  rw [trimRightB_snoc, if_neg (by decide)]
  rfl
theorem addM_eq (O : List Int) (m : S39) : addM O m = (if O.length % 2 = 1 then O ++ [10] else O) ++ (tb (headS (m.f0 ++ slashS) m.f1.length) ++ m.f1) := by
  unfold addM slashS
  rw [List.append_assoc]
theorem parts_fold : ∀ (l : List S39) (O : List Int) (acc : List S64) (f : Nat), (∀ m ∈ l, m.f0.size ≤ 15) → (l.foldl addM O).length < 10000000000 → (l.foldl addM O).length - O.length ≤ f →
    partsL f (l.foldl addM O) O.length acc = (acc ++ partsOf O.length l, 0) := by
  intro l
  induction l with
  | nil =>
    intro O acc f _ _ _
    show partsL f O O.length acc = (acc ++ [], 0)
    rw [List.append_nil]
    cases f with
    | zero => rfl
    | succ f => simp only [partsL]; rw [if_pos (Nat.le_refl _)]
  | cons m r ih =>
    intro O acc f hn hB hf
    obtain ⟨t, ht⟩ := fold_pre r (addM O m)
    rw [List.foldl_cons] at hB hf ⊢
    have hm := hn m List.mem_cons_self
    obtain ⟨P, hP⟩ : ∃ P, (if O.length % 2 = 1 then O ++ [10] else O) = P := ⟨_, rfl⟩
    have hPl : P.length = even O.length := by
      rw [← hP]
      unfold even
      split
      · rw [List.length_append]; show _ + 1 = _; omega
      · omega
    have hadd : addM O m = P ++ (tb (headS (m.f0 ++ slashS) m.f1.length) ++ m.f1) := by rw [addM_eq, hP]
    have hB2 : r.foldl addM (addM O m) = P ++ (tb (headS (m.f0 ++ slashS) m.f1.length) ++ (m.f1 ++ t)) := by rw [ht, hadd]; simp only [List.append_assoc]
    have hlenB : (r.foldl addM (addM O m)).length = P.length + ((tb (headS (m.f0 ++ slashS) m.f1.length)).length + (m.f1.length + t.length)) := by rw [hB2]; simp only [List.length_append]
    have hd : m.f1.length < 10000000000 := by omega
    have hz : slashS.size = 1 := rfl
    have h60 : (tb (headS (m.f0 ++ slashS) m.f1.length)).length = 60 := by rw [tb_len]; exact (headS_parts _ _ (by rw [ByteArray.size_append, hz]; omega) hd).1
    have hla : (addM O m).length = even O.length + (60 + m.f1.length) := by rw [hadd, List.length_append, List.length_append, h60, hPl]
    have hstep := stepS_of P (m.f0 ++ slashS) m.f1 t (tight_slash _ hm) hd
    rw [← hB2, hPl] at hstep
    have hev : O.length ≤ even O.length := by unfold even; omega
    cases f with
    | zero => exfalso; omega
    | succ f =>
      simp only [partsL]
      rw [if_neg (by omega), if_neg, hstep]
      · simp only []
        have hih := ih (addM O m) (acc ++ [⟨m.f0 ++ slashS, ((even O.length : Nat) : Int), m.f1⟩]) f (fun x hx => hn x (List.mem_cons_of_mem _ hx)) hB (by omega)
        rw [show even O.length + 60 + m.f1.length = (addM O m).length by omega, hih, hla, List.append_assoc]
        rfl
      · rintro ⟨hodd, h | h⟩
        · apply h
          rw [hB2, ← hP, if_pos hodd, List.append_assoc, List.getD_eq_getElem?_getD, List.getElem?_append_right (Nat.le_refl _), Nat.sub_self]
          rfl
        · rw [hlenB, hPl, h60] at h
          unfold even at h
          omega
theorem partsOf_len (l : List S39) : ∀ o, (partsOf o l).length = l.length := by
  induction l with
  | nil => intro o; rfl
  | cons m r ih => intro o; show (partsOf _ r).length + 1 = _; rw [ih]; rfl
theorem partsOf_at (l : List S39) : ∀ (o k : Nat), k < l.length → (partsOf o l).getD k z64 = ⟨(l.getD k z39).f0 ++ slashS, (((places o l).getD k 0 : Nat) : Int), (l.getD k z39).f1⟩ := by
  induction l with
  | nil => intro o k h; exact absurd h (Nat.not_lt_zero _)
  | cons m r ih =>
    intro o k h
    cases k with
    | zero => rfl
    | succ k => exact ih _ k (by simpa using h)
theorem trim_sfx (s : ByteArray) : trimSfx (s ++ slashS) = s := by
  have z : slashS.size = 1 := rfl
  have hz : (s ++ slashS).size = s.size + 1 := by rw [ByteArray.size_append, z]
  unfold trimSfx
  rw [hz, Nat.add_sub_cancel]
  have e1 : (s ++ slashS).extract s.size (s.size + 1) = slashS := by
    apply ba_ext
    rw [ByteArray.data_extract, Array.toList_extract, List.extract_eq_take_drop, ByteArray.data_append, Array.toList_append, List.drop_left' (size_list s)]
    exact List.take_of_length_le (by rw [size_list, z]; omega)
  rw [if_pos ⟨by omega, e1⟩]
  apply ba_ext
  rw [ByteArray.data_extract, Array.toList_extract, List.extract_eq_take_drop, ByteArray.data_append, Array.toList_append, List.drop_zero, Nat.sub_zero, List.take_left' (size_list s)]
theorem sfx_ne (s : ByteArray) : ¬ s = s ++ slashS := by
  intro h
  have z : slashS.size = 1 := rfl
  have h2 := congrArg ByteArray.size h
  rw [ByteArray.size_append, z] at h2
  omega
/-- The names of the first k, if all is right with them. -/
theorem nSt_names (l : List S39) : ∀ k, k ≤ l.length → ∀ ns, nSt l k = some ns → ns = (l.take k).map S39.f0 := by
  intro k
  induction k with
  | zero => intro _ ns h; cases h; rfl
  | succ k ih =>
    intro hk ns h
    rw [nSt_succ l k (by omega)] at h
    cases hs : nSt l k with
    | none => rw [hs] at h; cases h
    | some ms =>
      rw [hs, nst_some] at h
      have hms := ih (by omega) ms hs
      split at h
      · cases h
        rw [hms, List.take_succ_eq_append_getElem (by omega), List.map_append, List.getD_eq_getElem?_getD, List.getElem?_eq_getElem (by omega)]
        rfl
      · cases h
theorem mem_parts (l : List S39) (o : Nat) (hok : namesOk l = true) : ∀ k, k ≤ l.length → memS (partsOf o l) k = some (l.take k) := by
  intro k
  induction k with
  | zero => intro _; rfl
  | succ k ih =>
    intro hk
    rw [memS_succ _ _ (by rw [partsOf_len]; omega), ih (by omega), partsOf_at l o k (by omega)]
    cases hs1 : nSt l (k + 1) with
    | none => rw [nSt_stop l (k + 1) hs1 hk] at hok; cases hok
    | some ms =>
      cases hs : nSt l k with
      | none => rw [nSt_stop l k hs (by omega)] at hok; cases hok
      | some ns =>
        have hns := nSt_names l k (by omega) ns hs
        rw [nSt_succ l k (by omega), hs, nst_some] at hs1
        unfold memStep
        simp only []
        rw [trim_sfx, if_neg (sfx_ne _), ← hns]
        split at hs1
        · rename_i hc
          rw [if_pos hc, List.take_succ_eq_append_getElem (by omega)]
          congr 2
          rw [List.getD_eq_getElem?_getD, List.getElem?_eq_getElem (by omega)]
          rfl
        · cases hs1
theorem name_short {l : List S39} (hok : namesOk l = true) {m : S39} (hm : m ∈ l) : nameOk m.f0 = true := by
  obtain ⟨k, hk, rfl⟩ := List.getElem_of_mem hm
  cases hs1 : nSt l (k + 1) with
  | none => rw [nSt_stop l (k + 1) hs1 (by omega)] at hok; cases hok
  | some ms =>
    rw [nSt_succ l k hk] at hs1
    cases hs : nSt l k with
    | none => rw [hs] at hs1; cases hs1
    | some ns =>
      rw [hs, nst_some] at hs1
      split at hs1
      · rename_i hc
        rw [List.getD_eq_getElem?_getD, List.getElem?_eq_getElem hk, Bool.and_eq_true] at hc
        exact hc.1
      · cases hs1
end Go.Proofs.YtdjmahmbofhnpaaDoor.Ar

/- What is put is read, with its index; what is read may be put. In plain words, no program. -/
namespace Go.Proofs.YtdjmahmbofhnpaaDoor.Ar
open Go.RowKit Go.Proofs.YtdjmahmbofhnpaaDoorW.PrintWords Go.Proofs.YtdjmahmbofhnpaaDoorW.PrintLast Go.Proofs.YtdjmahmbofhnpaaDoor.QAr
set_option linter.unusedVariables false
set_option linter.unusedSimpArgs false
theorem finS_eq {f : Option (List Int)} {l : List S64} {ms : List S39} (h : memS l l.length = some ms) : finS f l = match f with
    | none => (ms, [], 0)
    | some f => if (indexS f).2.2 && (idxL l (indexS f).1 (indexS f).2.1 (indexS f).1.length).2 then (ms, (idxL l (indexS f).1 (indexS f).2.1 (indexS f).1.length).1, 0) else ([], [], 5) := by
  unfold finS; rw [h]; cases f <;> rfl
theorem places_ge (l : List S39) : ∀ a k, k < l.length → a ≤ (places a l).getD k 0 := by
  induction l with
  | nil => intro a k h; exact absurd h (Nat.not_lt_zero _)
  | cons m r ih =>
    intro a k h
    cases k with
    | zero => show a ≤ even a; unfold even; omega
    | succ k =>
      have := ih (even a + (60 + m.f1.length)) k (by simpa using h)
      show a ≤ (places _ r).getD k 0
      unfold even at *
      omega
theorem places_lt (l : List S39) : ∀ a i j, i < j → j < l.length → (places a l).getD i 0 < (places a l).getD j 0 := by
  induction l with
  | nil => intro a i j _ h; exact absurd h (Nat.not_lt_zero _)
  | cons m r ih =>
    intro a i j hij h
    cases j with
    | zero => exact absurd hij (Nat.not_lt_zero _)
    | succ j =>
      cases i with
      | zero =>
        have := places_ge r (even a + (60 + m.f1.length)) j (by simpa using h)
        show even a < (places _ r).getD j 0
        omega
      | succ i => exact ih _ i j (by omega) (by simpa using h)
theorem atN_parts (l : List S39) (o i : Nat) (hi : i < l.length) : atN (partsOf o l) (((places o l).getD i 0 : Nat) : Int) (partsOf o l).length = some i := by
  have key : ∀ k, k ≤ l.length → atN (partsOf o l) (((places o l).getD i 0 : Nat) : Int) k = if i < k then some i else none := by
    intro k
    induction k with
    | zero => intro _; rfl
    | succ k ih =>
      intro hk
      simp only [atN]
      rw [partsOf_at l o k (by omega), ih (by omega)]
      show (if (((places o l).getD k 0 : Nat) : Int) = (((places o l).getD i 0 : Nat) : Int) then some k else _) = _
      rcases Nat.lt_trichotomy i k with h | h | h
      · have := places_lt l o i k h (by omega)
        rw [if_neg (by omega), if_pos h, if_pos (by omega)]
      · subst h
        rw [if_pos rfl, if_pos (by omega)]
      · have := places_lt l o k i h hi
        rw [if_neg (by omega), if_neg (by omega), if_neg (by omega)]
  rw [partsOf_len, key l.length (Nat.le_refl _), if_pos hi]
theorem bigB_bytes (n : Nat) : Bytes8 (bigB n) := by
  intro x hx
  unfold bigB at hx
  simp only [List.mem_cons, List.not_mem_nil, or_false] at hx
  rcases hx with rfl | rfl | rfl | rfl <;> omega
theorem bigV_at (P R : List Int) (n : Nat) (hn : n < 4294967296) : bigV (P ++ (bigB n ++ R)) P.length = (n : Int) := by
  have e : ∀ j, (P ++ (bigB n ++ R)).getD (P.length + j) 0 = (bigB n ++ R).getD j 0 := by
    intro j
    rw [List.getD_eq_getElem?_getD, List.getD_eq_getElem?_getD, List.getElem?_append_right (by omega), Nat.add_sub_cancel_left]
  have e0 := e 0
  rw [Nat.add_zero] at e0
  unfold bigV
  rw [e0, e 1, e 2, e 3]
  show (((((n / 16777216 % 256 : Nat) : Int) * 256 + ((n / 65536 % 256 : Nat) : Int)) * 256 + ((n / 256 % 256 : Nat) : Int)) * 256 + ((n % 256 : Nat) : Int)) = _
  omega
/-- The names' bytes. -/
def nmB (x : List S43) : List Int := x.flatMap fun y => tb y.f0 ++ [0]
theorem namesB_eq (x : List S43) : namesB x = nmB x := by
  have key : ∀ (x : List S43) (s : ByteArray), tb (x.foldl (fun s y => s ++ (y.f0 ++ (⟨#[0]⟩ : ByteArray))) s) = tb s ++ nmB x := by
    intro x
    induction x with
    | nil => intro s; unfold nmB; simp
    | cons y r ih =>
      intro s
      rw [List.foldl_cons, ih, tb_append, tb_append]
      unfold nmB
      rw [List.flatMap_cons, List.append_assoc, List.append_assoc, List.append_assoc]
      rfl
  unfold namesB nmS
  rw [key]
  rfl
theorem nmB_bytes (x : List S43) : Bytes8 (nmB x) := by
  intro z hz
  unfold nmB at hz
  obtain ⟨y, _, hy⟩ := List.mem_flatMap.1 hz
  rcases List.mem_append.1 hy with h | h
  · exact tb_range _ z h
  · rw [List.mem_singleton.1 h]; omega
theorem flat_len (g : S43 → List Int) (h : ∀ y, (g y).length = 4) : ∀ x : List S43, (x.flatMap g).length = 4 * x.length := by
  intro x
  induction x with
  | nil => rfl
  | cons y r ih => rw [List.flatMap_cons, List.length_append, ih, h, List.length_cons]; omega
theorem flat_cut (g : S43 → List Int) (x : List S43) (k : Nat) (h : k < x.length) : x.flatMap g = (x.take k).flatMap g ++ (g (x.getD k z43) ++ (x.drop (k + 1)).flatMap g) := by
  conv => lhs; rw [← List.take_append_drop k x, List.drop_eq_getElem_cons h]
  rw [List.flatMap_append, List.flatMap_cons, List.getD_eq_getElem?_getD, List.getElem?_eq_getElem h]
  rfl
theorem indexL_put (n : Nat) (g : S43 → Nat) (hg : ∀ y, g y < 4294967296) (x : List S43) (hx : ∀ y ∈ x, ¬ y.f0 = ⟨#[]⟩ ∧ zeroIn y.f0 = false) (hn : n < 4294967296) :
    ∀ (m k : Nat), k + m = x.length → indexL (bigB n ++ (x.flatMap fun y => bigB (g y)) ++ nmB x) m k (strOfNums (nmB (x.drop k))) ((x.take k).map S43.f0) ((x.take k).map fun y => ((g y : Nat) : Int)) = (x.map S43.f0, x.map (fun y => ((g y : Nat) : Int)), true) := by
  intro m
  induction m with
  | zero =>
    intro k hk
    simp only [indexL]
    rw [List.drop_of_length_le (by omega), List.take_of_length_le (by omega)]
    rw [decide_eq_true (by rfl)]
  | succ m ih =>
    intro k hk
    have hkl : k < x.length := by omega
    obtain ⟨y, hy⟩ : ∃ y, x.getD k z43 = y := ⟨_, rfl⟩
    have hgy : x[k] = y := by rw [← hy, List.getD_eq_getElem?_getD, List.getElem?_eq_getElem hkl]; rfl
    have hym : y ∈ x := by rw [← hgy]; exact List.getElem_mem hkl
    obtain ⟨h1, h2⟩ := hx y hym
    have hrest : nmB (x.drop k) = tb y.f0 ++ 0 :: nmB (x.drop (k + 1)) := by
      unfold nmB
      rw [List.drop_eq_getElem_cons hkl, List.flatMap_cons, hgy, List.append_assoc]
      rfl
    have hnz : ∀ z ∈ tb y.f0, z ≠ 0 := by
      intro z hz e
      unfold zeroIn at h2
      have := List.any_eq_false.1 h2 z hz
      exact this (by simpa using e)
    have hcut := cutS_some (tb y.f0) (nmB (x.drop (k + 1))) (by rw [← hrest]; exact nmB_bytes _) hnz
    rw [← hrest, son_tb] at hcut
    have hbig : bigV (bigB n ++ (x.flatMap fun y => bigB (g y)) ++ nmB x) (4 + 4 * k) = ((g y : Nat) : Int) := by
      have h4 : (bigB n ++ (x.take k).flatMap fun y => bigB (g y)).length = 4 + 4 * k := by
        rw [List.length_append, flat_len _ (fun _ => rfl), List.length_take, Nat.min_eq_left (by omega)]
        rfl
      rw [flat_cut (fun y => bigB (g y)) x k hkl, hy, ← h4]
      have := bigV_at (bigB n ++ (x.take k).flatMap fun y => bigB (g y)) ((x.drop (k + 1)).flatMap (fun y => bigB (g y)) ++ nmB x) (g y) (hg y)
      simp only [List.append_assoc] at this ⊢
      exact this
    simp only [indexL]
    rw [hcut, if_pos ⟨rfl, h1⟩, hbig]
    have e1 : (x.take k).map S43.f0 ++ [y.f0] = (x.take (k + 1)).map S43.f0 := by rw [List.take_succ_eq_append_getElem hkl, List.map_append, hgy]; rfl
    have e2 : (x.take k).map (fun y => ((g y : Nat) : Int)) ++ [((g y : Nat) : Int)] = (x.take (k + 1)).map (fun y => ((g y : Nat) : Int)) := by rw [List.take_succ_eq_append_getElem hkl, List.map_append, hgy]; rfl
    rw [e1, e2]
    exact ih (k + 1) (by omega)
theorem indexS_put (n : Nat) (g : S43 → Nat) (hg : ∀ y, g y < 4294967296) (x : List S43) (hn : x.length = n) (hx : ∀ y ∈ x, ¬ y.f0 = ⟨#[]⟩ ∧ zeroIn y.f0 = false) (hlt : n < 4294967296) :
    indexS (bigB n ++ (x.flatMap fun y => bigB (g y)) ++ nmB x) = (x.map S43.f0, x.map (fun y => ((g y : Nat) : Int)), true) := by
  have hl : (bigB n ++ (x.flatMap fun y => bigB (g y)) ++ nmB x).length = 4 + 4 * n + (nmB x).length := by
    rw [List.length_append, List.length_append, flat_len _ (fun _ => rfl), hn]; rfl
  have hb : bigV (bigB n ++ (x.flatMap fun y => bigB (g y)) ++ nmB x) 0 = (n : Int) := by
    have := bigV_at [] ((x.flatMap fun y => bigB (g y)) ++ nmB x) n hlt
    rw [List.append_assoc]
    exact this
  unfold indexS
  rw [if_neg (by omega), hb, Int.toNat_natCast, if_neg (by omega)]
  have hd : (bigB n ++ (x.flatMap fun y => bigB (g y)) ++ nmB x).drop (4 + 4 * n) = nmB x := List.drop_left' (by rw [List.length_append, flat_len _ (fun _ => rfl), hn]; rfl)
  rw [hd]
  have := indexL_put n g hg x hx hlt n 0 (by omega)
  rw [List.drop_zero] at this
  exact this
theorem idxL_put (l : List S39) (o : Nat) (x : List S43) (hx : ∀ y ∈ x, 0 ≤ y.f1 ∧ y.f1 < l.length) :
    ∀ k, k ≤ x.length → idxL (partsOf o l) (x.map S43.f0) (x.map fun y => ((((places o l).getD y.f1.toNat 0 : Nat)) : Int)) k = (x.take k, true) := by
  intro k
  induction k with
  | zero => intro _; rfl
  | succ k ih =>
    intro hk
    have hkl : k < x.length := by omega
    simp only [idxL]
    rw [ih (by omega)]
    have e1 : (x.map S43.f0).getD k ⟨#[]⟩ = x[k].f0 := by rw [List.getD_eq_getElem?_getD, List.getElem?_map, List.getElem?_eq_getElem hkl]; rfl
    have e2 : (x.map fun y => ((((places o l).getD y.f1.toNat 0 : Nat)) : Int)).getD k 0 = (((places o l).getD x[k].f1.toNat 0 : Nat) : Int) := by rw [List.getD_eq_getElem?_getD, List.getElem?_map, List.getElem?_eq_getElem hkl]; rfl
    obtain ⟨h1, h2⟩ := hx x[k] (List.getElem_mem hkl)
    rw [e1, e2, atN_parts l o _ (by omega), List.take_succ_eq_append_getElem hkl]
    show (x.take k ++ [(⟨x[k].f0, ((x[k].f1.toNat : Nat) : Int)⟩ : S43)], true && true) = _
    rw [Int.toNat_of_nonneg h1]
    rfl
theorem after_ge (l : List S39) : ∀ a, a ≤ after a l := by
  induction l with
  | nil => intro a; exact Nat.le_refl _
  | cons m r ih =>
    intro a
    have := ih (even a + (60 + m.f1.length))
    show a ≤ after (even a + (60 + m.f1.length)) r
    unfold even at *
    omega
theorem places_after (l : List S39) : ∀ a k, k < l.length → (places a l).getD k 0 < after a l := by
  induction l with
  | nil => intro a k h; exact absurd h (Nat.not_lt_zero _)
  | cons m r ih =>
    intro a k h
    cases k with
    | zero =>
      have := after_ge r (even a + (60 + m.f1.length))
      show even a < after (even a + (60 + m.f1.length)) r
      omega
    | succ k => exact ih _ k (by simpa using h)
theorem fold_after (l : List S39) : ∀ O : List Int, (∀ m ∈ l, m.f0.size ≤ 15 ∧ m.f1.length < 10000000000) → (l.foldl addM O).length = after O.length l := by
  induction l with
  | nil => intro O _; rfl
  | cons m r ih =>
    intro O h
    obtain ⟨h1, h2⟩ := h m List.mem_cons_self
    have z : slashS.size = 1 := rfl
    rw [List.foldl_cons, ih (addM O m) (fun x hx => h x (List.mem_cons_of_mem _ hx))]
    show after _ r = after (even O.length + (60 + m.f1.length)) r
    congr 1
    rw [addM_eq, List.length_append, List.length_append, tb_len, (headS_parts _ _ (by rw [ByteArray.size_append, z]; omega) h2).1]
    unfold even
    split
    · rw [List.length_append]; show O.length + 1 + _ = _; omega
    · omega
theorem len_after (l : List S39) : ∀ a, ∀ m ∈ l, m.f1.length ≤ after a l := by
  induction l with
  | nil => intro a m h; cases h
  | cons y r ih =>
    intro a m h
    have h0 := after_ge r (even a + (60 + y.f1.length))
    show m.f1.length ≤ after (even a + (60 + y.f1.length)) r
    rcases List.mem_cons.1 h with rfl | h
    · omega
    · exact ih _ m h
/-- WHAT IS PUT IS READ. -/
theorem read_put (l : List S39) (x : List S43) (h : (putS l x).2 = 0) : readS (putS l x).1 = (l, x, 0) := by
  have hno : namesOk l = true := by
    cases hn : namesOk l with
    | true => rfl
    | false => unfold putS at h; rw [hn] at h; simp at h
  have hxo : x.all (idxOk l) = true := by
    cases hn : x.all (idxOk l) with
    | true => rfl
    | false => unfold putS at h; rw [hno, hn] at h; simp at h
  have haf : ¬ 65536 < after (first x) l := by
    intro h2
    unfold putS at h
    rw [hno, hxo] at h
    simp [h2] at h
  have hput : putS l x = (l.foldl addM (startB l x), 0) := by
    unfold putS
    rw [hno, hxo, if_neg (by simp), if_neg (by simp), if_neg haf]
  rw [hput]
  simp only []
  have hshort : ∀ m ∈ l, m.f0.size ≤ 15 := fun m hm => by
    have h1 := name_short hno hm
    unfold nameOk at h1
    simp only [Bool.and_eq_true, decide_eq_true_eq] at h1
    exact h1.2
  have hne : ∀ m ∈ l, 1 ≤ m.f0.size := fun m hm => by
    have h1 := name_short hno hm
    unfold nameOk at h1
    simp only [Bool.and_eq_true, decide_eq_true_eq] at h1
    exact h1.1.2
  have hlen : ∀ m ∈ l, m.f0.size ≤ 15 ∧ m.f1.length < 10000000000 := fun m hm => ⟨hshort m hm, by have := len_after l (first x) m hm; omega⟩
  have hidx : ∀ y ∈ x, (0 ≤ y.f1 ∧ y.f1 < l.length) ∧ ¬ y.f0 = ⟨#[]⟩ ∧ zeroIn y.f0 = false := fun y hy => by
    have h1 := List.all_eq_true.1 hxo y hy
    unfold idxOk at h1
    simp only [Bool.and_eq_true, decide_eq_true_eq, Bool.not_eq_true', ne_eq] at h1
    exact ⟨⟨h1.1.1.1, h1.1.1.2⟩, h1.1.2, h1.2⟩
  by_cases hx0 : x = []
  · subst hx0
    have hst : startB l [] = magicB := by unfold startB; rw [if_pos rfl]
    have hf8 : first ([] : List S43) = 8 := by unfold first; rw [if_pos rfl]
    rw [hf8] at haf
    rw [hst]
    have hB := fold_after l magicB hlen
    rw [show magicB.length = 8 from rfl] at hB
    obtain ⟨t, ht⟩ := fold_pre l magicB
    have hparts : partsS (l.foldl addM magicB) = (partsOf 8 l, 0) := by
      unfold partsS
      have h8 : 8 ≤ (l.foldl addM magicB).length := by rw [hB]; exact after_ge l 8
      rw [if_neg (by omega), if_pos (by rw [ht, List.take_left' (show magicB.length = 8 from rfl)]; rfl)]
      have := parts_fold l magicB [] (l.foldl addM magicB).length hshort (by rw [hB]; omega) (by omega)
      rw [List.nil_append] at this
      exact this
    unfold readS
    rw [if_neg (by rw [hB]; exact haf), hparts]
    have hms := mem_parts l 8 hno l.length (Nat.le_refl _)
    rw [List.take_length] at hms
    have hfin : finS none (partsOf 8 l) = (l, [], 0) := by rw [finS_eq (by rw [partsOf_len]; exact hms)]
    cases l with
    | nil => rfl
    | cons m r =>
      show (if m.f0 ++ slashS = slashS then (if m.f1 = [] then ([], [], 5) else finS (some m.f1) (partsOf (even 8 + (60 + m.f1.length)) r)) else finS none (partsOf 8 (m :: r))) = _
      rw [if_neg, hfin]
      intro e
      have e2 := congrArg ByteArray.size e
      have h1 := hne m List.mem_cons_self
      rw [ByteArray.size_append] at e2
      omega
  · obtain ⟨F, hF⟩ : ∃ F, indexB l x = F := ⟨_, rfl⟩
    have hFl : F.length = 4 + 4 * x.length + (namesB x).length := by
      rw [← hF]
      unfold indexB
      rw [List.length_append, List.length_append, flat_len _ (fun _ => rfl)]
      rfl
    have hf1 : first x = 8 + 64 + 4 * x.length + (namesB x).length := by unfold first; rw [if_neg hx0]; omega
    have hage := after_ge l (first x)
    have hFd : F.length < 10000000000 := by omega
    have hst : startB l x = magicB ++ (tb (headS slashS F.length) ++ F) := by
      unfold startB slashS
      rw [if_neg hx0, hF, hFl, List.append_assoc]
    have hstl : (startB l x).length = first x := by
      rw [hst, List.length_append, List.length_append, tb_len, (headS_parts slashS F.length (by decide) hFd).1, hFl, hf1]
      show 8 + _ = _
      omega
    have hB := fold_after l (startB l x) hlen
    rw [hstl] at hB
    obtain ⟨t, ht⟩ := fold_pre l (startB l x)
    have hBe : l.foldl addM (startB l x) = magicB ++ (tb (headS slashS F.length) ++ (F ++ t)) := by rw [ht, hst]; simp only [List.append_assoc]
    have hstep := stepS_of magicB slashS F t ⟨by decide, by decide⟩ hFd
    rw [← hBe] at hstep
    have hm8 : magicB.length = 8 := rfl
    rw [hm8] at hstep
    have hparts : partsS (l.foldl addM (startB l x)) = (⟨slashS, 8, F⟩ :: partsOf (first x) l, 0) := by
      unfold partsS
      rw [if_neg (by rw [hB]; omega), if_pos (by rw [hBe, List.take_left' hm8]; rfl)]
      obtain ⟨f, hf⟩ : ∃ f, (l.foldl addM (startB l x)).length = f + 1 := ⟨(l.foldl addM (startB l x)).length - 1, by rw [hB]; omega⟩
      rw [hf]
      simp only [partsL]
      rw [if_neg (by rw [hB]; omega), if_neg (by rintro ⟨h1, _⟩; omega), show even 8 = 8 from rfl, hstep]
      simp only []
      have h2 := parts_fold l (startB l x) [⟨slashS, ((8 : Nat) : Int), F⟩] f hshort (by rw [hB]; omega) (by omega)
      rw [hstl] at h2
      rw [show 8 + 60 + F.length = first x by omega, List.nil_append]
      exact h2
    unfold readS
    rw [if_neg (by rw [hB]; exact haf), hparts]
    have hms := mem_parts l (first x) hno l.length (Nat.le_refl _)
    rw [List.take_length] at hms
    show (if slashS = slashS then (if F = [] then ([], [], 5) else finS (some F) (partsOf (first x) l)) else finS none (⟨slashS, 8, F⟩ :: partsOf (first x) l)) = _
    rw [if_pos rfl, if_neg (by intro e; rw [e] at hFl; have : ([] : List Int).length = 0 := rfl; omega), finS_eq (by rw [partsOf_len]; exact hms)]
    have hxn : x.length < 4294967296 := by omega
    have hFe : F = bigB x.length ++ (x.flatMap fun y => bigB ((places (first x) l).getD y.f1.toNat 0 % 4294967296)) ++ nmB x := by
      rw [← hF]
      unfold indexB
      rw [namesB_eq]
      congr 2
      rw [List.flatMap_def, List.flatMap_def]
      congr 1
      refine List.map_congr_left (fun y hy => ?_)
      obtain ⟨⟨g1, g2⟩, _⟩ := hidx y hy
      have := places_after l (first x) y.f1.toNat (by omega)
      rw [Nat.mod_eq_of_lt (by omega)]
    have hi := indexS_put x.length (fun y => (places (first x) l).getD y.f1.toNat 0 % 4294967296) (fun y => Nat.mod_lt _ (by decide)) x rfl (fun y hy => (hidx y hy).2) hxn
    rw [← hFe] at hi
    have hpm : (x.map fun y => (((places (first x) l).getD y.f1.toNat 0 % 4294967296 : Nat) : Int)) = x.map fun y => (((places (first x) l).getD y.f1.toNat 0 : Nat) : Int) := by
      refine List.map_congr_left (fun y hy => ?_)
      obtain ⟨⟨g1, g2⟩, _⟩ := hidx y hy
      have := places_after l (first x) y.f1.toNat (by omega)
      rw [Nat.mod_eq_of_lt (by omega)]
    have hid := idxL_put l (first x) x (fun y hy => (hidx y hy).1) x.length (Nat.le_refl _)
    rw [List.take_length] at hid
    simp only []
    rw [hi]
    simp only [hpm, List.length_map]
    rw [hid]
    rfl
end Go.Proofs.YtdjmahmbofhnpaaDoor.Ar

/- What is read may be put; what is put are bytes; rows are the same as themselves. In plain words. -/
namespace Go.Proofs.YtdjmahmbofhnpaaDoor.Ar
open Go.RowKit Go.Proofs.YtdjmahmbofhnpaaDoorW.PrintWords Go.Proofs.YtdjmahmbofhnpaaDoorW.PrintLast Go.Proofs.YtdjmahmbofhnpaaDoor.QAr
set_option linter.unusedVariables false
set_option linter.unusedSimpArgs false
theorem readS_err (b : List Int) (h : ¬ (readS b).2.2 = 0) : (readS b).1 = [] ∧ (readS b).2.1 = [] := by
  have key : ∀ f l, ¬ (finS f l).2.2 = 0 → (finS f l).1 = [] ∧ (finS f l).2.1 = [] := by
    intro f l h
    unfold finS at *
    cases hm : memS l l.length with
    | none => exact ⟨rfl, rfl⟩
    | some ms =>
      rw [hm] at h
      cases f with
      | none => exact absurd rfl h
      | some f =>
        simp only [] at h ⊢
        split
        · rename_i hc
          rw [if_pos hc] at h
          exact absurd rfl h
        · exact ⟨rfl, rfl⟩
  unfold readS at *
  split
  · exact ⟨rfl, rfl⟩
  · rename_i h1
    rw [if_neg h1] at h
    split
    · rename_i h2
      rw [if_pos h2] at h
      split
      · rename_i h3; rw [h3] at h; exact key _ _ h
      · rename_i p r h3
        rw [h3] at h
        simp only [] at h
        split
        · rename_i h4
          rw [if_pos h4] at h
          split
          · exact ⟨rfl, rfl⟩
          · rename_i h5; rw [if_neg h5] at h; exact key _ _ h
        · rename_i h4; rw [if_neg h4] at h; exact key _ _ h
    · exact ⟨rfl, rfl⟩
theorem putS_err (l : List S39) (x : List S43) (h : ¬ (putS l x).2 = 0) : (putS l x).1 = [] := by
  unfold putS at *
  split
  · rfl
  · rename_i h1
    rw [if_neg h1] at h
    split
    · rfl
    · rename_i h2
      rw [if_neg h2] at h
      split
      · rfl
      · rename_i h3
        rw [if_neg h3] at h
        exact absurd rfl h
theorem put_bytes (l : List S39) (x : List S43) (hl : ∀ m ∈ l, Bytes8 m.f1) : Bytes8 (putS l x).1 := by
  have app : ∀ a b : List Int, Bytes8 a → Bytes8 b → Bytes8 (a ++ b) := fun a b ha hb z hz => by rcases List.mem_append.1 hz with h | h; exact ha z h; exact hb z h
  have hmag : Bytes8 magicB := by unfold magicB; intro z hz; simp only [List.mem_cons, List.not_mem_nil, or_false] at hz; omega
  have hidx : Bytes8 (indexB l x) := by
    unfold indexB
    refine app _ _ (app _ _ (bigB_bytes _) (fun z hz => ?_)) (by rw [namesB_eq]; exact nmB_bytes _)
    obtain ⟨y, _, hy⟩ := List.mem_flatMap.1 hz
    exact bigB_bytes _ z hy
  have hst : Bytes8 (startB l x) := by
    unfold startB
    split
    · exact hmag
    · exact app _ _ (app _ _ hmag (tb_range _)) hidx
  have hfold : ∀ (k : List S39) (O : List Int), (∀ m ∈ k, Bytes8 m.f1) → Bytes8 O → Bytes8 (k.foldl addM O) := by
    intro k
    induction k with
    | nil => intro O _ h; exact h
    | cons m r ih =>
      intro O h hO
      refine ih _ (fun y hy => h y (List.mem_cons_of_mem _ hy)) ?_
      rw [addM_eq]
      refine app _ _ ?_ (app _ _ (tb_range _) (h m List.mem_cons_self))
      split
      · exact app _ _ hO (fun z hz => by rw [List.mem_singleton.1 hz]; omega)
      · exact hO
  unfold putS
  split
  · intro z hz; cases hz
  · split
    · intro z hz; cases hz
    · split
      · intro z hz; cases hz
      · exact hfold l _ hl hst
theorem nSt_app (a b : List S39) (k : Nat) (h : k ≤ a.length) : nSt (a ++ b) k = nSt a k := by unfold nSt; rw [List.take_append_of_le_length h]
theorem nSt_of_mem (L : List S64) : ∀ k, k ≤ L.length → ∀ ms, memS L k = some ms → nSt ms ms.length = some (ms.map S39.f0) ∧ ms.length = k := by
  intro k
  induction k with
  | zero => intro _ ms h; cases h; exact ⟨rfl, rfl⟩
  | succ k ih =>
    intro hk ms h
    rw [memS_succ L k (by omega)] at h
    cases hs : memS L k with
    | none => rw [hs] at h; cases h
    | some q =>
      rw [hs] at h
      unfold memStep at h
      simp only [] at h
      split at h
      · cases h
      · split at h
        · rename_i hc
          cases h
          obtain ⟨i1, i2⟩ := ih (by omega) q hs
          refine ⟨?_, by rw [List.length_append, i2]; rfl⟩
          rw [List.length_append, show [(⟨trimSfx (L.getD k z64).f0, (L.getD k z64).f2⟩ : S39)].length = 1 from rfl, nSt_succ _ _ (by rw [List.length_append]; show q.length < q.length + 1; omega), nSt_app _ _ _ (Nat.le_refl _), i1, nst_some]
          have e : (q ++ [(⟨trimSfx (L.getD k z64).f0, (L.getD k z64).f2⟩ : S39)]).getD q.length z39 = ⟨trimSfx (L.getD k z64).f0, (L.getD k z64).f2⟩ := by rw [List.getD_eq_getElem?_getD, List.getElem?_append_right (Nat.le_refl _), Nat.sub_self]; rfl
          rw [e, if_pos hc, List.map_append]
          rfl
        · cases h
theorem atN_lt (l : List S64) (z : Int) : ∀ k i, atN l z k = some i → i < k := by
  intro k
  induction k with
  | zero => intro i h; cases h
  | succ k ih =>
    intro i h
    simp only [atN] at h
    split at h
    · cases h; omega
    · have := ih i h; omega
theorem cut_zero (s : ByteArray) (h : (cutS s).2.2 = true) : zeroIn (cutS s).1 = false := by
  obtain ⟨xs, hx⟩ : ∃ xs, xs = tb s := ⟨_, rfl⟩
  have hs : s = strOfNums xs := by rw [hx, son_tb]
  have hb : Bytes8 xs := by rw [hx]; exact tb_range s
  rw [hs] at h ⊢
  rcases zero_split xs with hz | ⟨p, q, rfl, hz⟩
  · rw [cutS_none xs hb hz] at h; cases h
  · rw [cutS_some p q hb hz]
    show zeroIn (strOfNums p) = false
    unfold zeroIn
    rw [List.any_eq_false]
    intro z hzz
    have e : tb (strOfNums p) = p := by
      unfold tb
      rw [son_list, List.map_map]
      conv => rhs; rw [← List.map_id p]
      refine List.map_congr_left (fun n hn => ?_)
      have hn2 := hb n (List.mem_append_left _ hn)
      exact byte_toNat hn2.1 hn2.2
    rw [e] at hzz
    simpa using hz z hzz
theorem indexL_names (b : List Int) : ∀ (m i : Nat) (rest : ByteArray) (ns : List ByteArray) (ps : List Int), (∀ s ∈ ns, ¬ s = ⟨#[]⟩ ∧ zeroIn s = false) → ∀ s ∈ (indexL b m i rest ns ps).1, ¬ s = ⟨#[]⟩ ∧ zeroIn s = false := by
  intro m
  induction m with
  | zero => intro i rest ns ps h; exact h
  | succ m ih =>
    intro i rest ns ps h
    simp only [indexL]
    split
    · rename_i hc
      exact ih _ _ _ _ (fun s hs => by
        rcases List.mem_append.1 hs with hs | hs
        · exact h s hs
        · rw [List.mem_singleton.1 hs]; exact ⟨hc.2, cut_zero _ hc.1⟩)
    · intro s hs; cases hs
theorem indexS_names (b : List Int) : ∀ s ∈ (indexS b).1, ¬ s = ⟨#[]⟩ ∧ zeroIn s = false := by
  unfold indexS
  split
  · intro s hs; cases hs
  · split
    · intro s hs; cases hs
    · exact indexL_names b _ _ _ _ _ (fun s hs => by cases hs)
theorem idxL_ok (L : List S64) (ns : List ByteArray) (ps : List Int) (hns : ∀ s ∈ ns, ¬ s = ⟨#[]⟩ ∧ zeroIn s = false) : ∀ k, k ≤ ns.length → (idxL L ns ps k).2 = true → ∀ y ∈ (idxL L ns ps k).1, (0 ≤ y.f1 ∧ y.f1 < L.length) ∧ ¬ y.f0 = ⟨#[]⟩ ∧ zeroIn y.f0 = false := by
  intro k
  induction k with
  | zero => intro _ _ y hy; cases hy
  | succ k ih =>
    intro hk h y hy
    simp only [idxL, Bool.and_eq_true] at h
    simp only [idxL] at hy
    rcases List.mem_append.1 hy with hy | hy
    · exact ih (by omega) h.1 y hy
    · rw [List.mem_singleton.1 hy]
      refine ⟨?_, ?_⟩
      · cases ha : atN L (ps.getD k 0) L.length with
        | none => rw [ha] at h; exact absurd h.2 (by simp)
        | some i =>
          have := atN_lt L _ _ _ ha
          show (0 : Int) ≤ ((i : Nat) : Int) ∧ ((i : Nat) : Int) < _
          omega
      · refine hns _ ?_
        rw [List.getD_eq_getElem?_getD, List.getElem?_eq_getElem (by omega)]
        exact List.getElem_mem _
/-- WHAT IS READ MAY BE PUT, or is too long. -/
theorem put_read (b : List Int) (h : (readS b).2.2 = 0) : (putS (readS b).1 (readS b).2.1).2 = 0 ∨ (putS (readS b).1 (readS b).2.1).2 = 3 := by
  have fin : ∀ f L, (finS f L).2.2 = 0 → namesOk (finS f L).1 = true ∧ (finS f L).2.1.all (idxOk (finS f L).1) = true := by
    intro f L h
    unfold finS at *
    cases hm : memS L L.length with
    | none => rw [hm] at h; exact absurd (show (5 : Int) = 0 from h) (by decide)
    | some ms =>
      obtain ⟨g1, g2⟩ := nSt_of_mem L L.length (Nat.le_refl _) ms hm
      have hn : namesOk ms = true := by unfold namesOk; rw [g1]; rfl
      rw [hm] at h
      cases f with
      | none => exact ⟨hn, rfl⟩
      | some f =>
        simp only [] at h ⊢
        split
        · rename_i hc
          refine ⟨hn, ?_⟩
          rw [Bool.and_eq_true] at hc
          rw [List.all_eq_true]
          intro y hy
          obtain ⟨⟨e1, e2⟩, e3, e4⟩ := idxL_ok L _ _ (indexS_names f) _ (Nat.le_refl _) hc.2 y hy
          unfold idxOk
          rw [g2, decide_eq_true e1, decide_eq_true e2, decide_eq_true e3, e4]
          rfl
        · rename_i hc
          rw [if_neg hc] at h
          exact absurd h (by decide)
  have all : namesOk (readS b).1 = true ∧ (readS b).2.1.all (idxOk (readS b).1) = true := by
    unfold readS at *
    split
    · rename_i h1; rw [if_pos h1] at h; exact absurd h (by decide)
    · rename_i h1
      rw [if_neg h1] at h
      split
      · rename_i h2
        rw [if_pos h2] at h
        split
        · rename_i h3; rw [h3] at h; exact fin _ _ h
        · rename_i p r h3
          rw [h3] at h
          simp only [] at h
          split
          · rename_i h4
            rw [if_pos h4] at h
            split
            · rename_i h5; rw [if_pos h5] at h; exact absurd h (by decide)
            · rename_i h5; rw [if_neg h5] at h; exact fin _ _ h
          · rename_i h4; rw [if_neg h4] at h; exact fin _ _ h
      · rename_i h2; rw [if_neg h2] at h; exact absurd h h2
  unfold putS
  rw [all.1, all.2, if_neg (by simp), if_neg (by simp)]
  split
  · exact .inr rfl
  · exact .inl rfl
theorem same_self (l : List Int) (hl : l.length ≤ 9000000000000000000) : ∃ K, bulwarkref00_Same.f K l l = some true := by
  have key : ∀ d i : Nat, i + d = l.length → ∃ K, bulwarkref00_Same.l0 K l l (i : Int) = some true := by
    intro d
    induction d with
    | zero => intro i hi; exact ⟨1, by simp only [bulwarkref00_Same.l0]; rw [if_neg (by omega)]⟩
    | succ d ih =>
      intro i hi
      obtain ⟨K, hK⟩ := ih (i + 1) (by omega)
      refine ⟨K + 1, ?_⟩
      simp only [bulwarkref00_Same.l0]
      rw [if_pos (by omega), if_pos (by omega), if_pos (by omega), show wrap64 ((i : Int) + 1) = ((i + 1 : Nat) : Int) from w64n (j := 1) rfl (by omega), hK]
      rfl
  obtain ⟨K, hK⟩ := key l.length 0 (by omega)
  exact ⟨K, by unfold bulwarkref00_Same.f; rw [if_pos rfl]; exact hK⟩
theorem members_self (l : List S39) (hl : l.length ≤ 9000000000000000000) (hb : ∀ m ∈ l, m.f1.length ≤ 9000000000000000000) : ∃ K, bulwarklaw10_members.f K l l = some true := by
  have key : ∀ d i : Nat, i + d = l.length → ∃ K, bulwarklaw10_members.l0 K l l (i : Int) = some true := by
    intro d
    induction d with
    | zero => intro i hi; exact ⟨1, by simp only [bulwarklaw10_members.l0]; rw [if_neg (by omega)]⟩
    | succ d ih =>
      intro i hi
      obtain ⟨K, hK⟩ := ih (i + 1) (by omega)
      have hm : (l.getD i z39) ∈ l := by rw [List.getD_eq_getElem?_getD, List.getElem?_eq_getElem (by omega)]; exact List.getElem_mem _
      obtain ⟨K2, hK2⟩ := same_self (l.getD i z39).f1 (hb _ hm)
      have h1 := lift (F := fun k => bulwarkref00_Same.f k (l.getD i z39).f1 (l.getD i z39).f1) (fun k => bulwarkref00_Same.mono _ _ k) hK2 K
      have h2 := lift (F := fun k => bulwarklaw10_members.l0 k l l ((i + 1 : Nat) : Int)) (fun k => bulwarklaw10_members.mono_l k _ _ _) hK K2
      refine ⟨K + K2 + 1, ?_⟩
      simp only [bulwarklaw10_members.l0]
      unfold rd_T39
      rw [Int.toNat_natCast, if_pos (by omega), if_pos (by omega), if_pos (by omega), if_pos (by trivial), show bulwarkref00_Same.f (K + K2) (l.getD i z39).f1 (l.getD i z39).f1 = some true by rw [Nat.add_comm]; exact h1, Option.bind_some, if_pos rfl, show wrap64 ((i : Int) + 1) = ((i + 1 : Nat) : Int) from w64n (j := 1) rfl (by omega)]
      exact h2
  obtain ⟨K, hK⟩ := key l.length 0 (by omega)
  exact ⟨K, by unfold bulwarklaw10_members.f; rw [if_pos rfl]; exact hK⟩
theorem indexes_self (l : List S43) (hl : l.length ≤ 9000000000000000000) : ∃ K, bulwarklaw10_indexes.f K l l = some true := by
  have key : ∀ d i : Nat, i + d = l.length → ∃ K, bulwarklaw10_indexes.l0 K l l (i : Int) = some true := by
    intro d
    induction d with
    | zero => intro i hi; exact ⟨1, by simp only [bulwarklaw10_indexes.l0]; rw [if_neg (by omega)]⟩
    | succ d ih =>
      intro i hi
      obtain ⟨K, hK⟩ := ih (i + 1) (by omega)
      refine ⟨K + 1, ?_⟩
      simp only [bulwarklaw10_indexes.l0]
      rw [if_pos (by omega), if_pos (by omega), if_pos (by omega), if_neg (by simp), show wrap64 ((i : Int) + 1) = ((i + 1 : Nat) : Int) from w64n (j := 1) rfl (by omega), hK]
  obtain ⟨K, hK⟩ := key l.length 0 (by omega)
  exact ⟨K, by unfold bulwarklaw10_indexes.f; rw [if_pos rfl]; exact hK⟩
end Go.Proofs.YtdjmahmbofhnpaaDoor.Ar
