/- What the reference reads of an index is what ar.index and the places say. -/
import Derived.Test.YtdjmahmbofhnpaaDoorQArWXF
import Derived.Test.YtdjmahmbofhnpaaDoorQArSF
import Derived.Test.YtdjmahmbofhnpaaDoorQArx6
namespace Go.Proofs.YtdjmahmbofhnpaaDoor.Ar
open Go.RowKit Go.Proofs.YtdjmahmbofhnpaaDoorW.PrintWords Go.Proofs.YtdjmahmbofhnpaaDoorW.PrintLast Go.Proofs.YtdjmahmbofhnpaaDoor.QAr
set_option linter.unusedVariables false
set_option linter.unusedSimpArgs false
theorem index_none : ∀ l : List UInt8, (∀ x ∈ l, x ≠ 0) → Lib.indexByte l 0 = -1 := by
  intro l
  induction l with
  | nil => intro _; rfl
  | cons b r ih =>
    intro h
    show (if b == 0 then (0 : Int) else if Lib.indexByte r 0 == -1 then -1 else Lib.indexByte r 0 + 1) = -1
    rw [if_neg (by simpa using h b List.mem_cons_self), ih (fun x hx => h x (List.mem_cons_of_mem _ hx))]
    rfl
theorem index_some : ∀ (p q : List UInt8), (∀ x ∈ p, x ≠ 0) → Lib.indexByte (p ++ 0 :: q) 0 = (p.length : Int) := by
  intro p q
  induction p with
  | nil => intro _; rfl
  | cons b r ih =>
    intro h
    have e := ih (fun x hx => h x (List.mem_cons_of_mem _ hx))
    show (if b == 0 then (0 : Int) else if Lib.indexByte (r ++ 0 :: q) 0 == -1 then -1 else Lib.indexByte (r ++ 0 :: q) 0 + 1) = _
    rw [if_neg (by simpa using h b List.mem_cons_self), e, if_neg (by simp)]
    rw [List.length_cons]
    omega
theorem cutS_none (xs : List Int) (hb : Bytes8 xs) (h : ∀ x ∈ xs, x ≠ 0) : (cutS (strOfNums xs)).2.2 = false := by
  unfold cutS
  rw [son_list, index_none _ (fun x hx => by
    obtain ⟨n, hn, rfl⟩ := List.mem_map.1 hx
    intro e
    have := byte_toNat (hb n hn).1 (hb n hn).2
    rw [e] at this
    exact h n hn this.symm)]
  rfl
theorem son_append (a b : List Int) : strOfNums (a ++ b) = strOfNums a ++ strOfNums b := by
  apply ba_ext
  rw [ByteArray.data_append, Array.toList_append, son_list, son_list, son_list, List.map_append]
theorem cutS_some (p q : List Int) (hb : Bytes8 (p ++ 0 :: q)) (h : ∀ x ∈ p, x ≠ 0) : cutS (strOfNums (p ++ 0 :: q)) = (strOfNums p, strOfNums q, true) := by
  have e : Lib.indexByte (strOfNums (p ++ 0 :: q)).data.toList 0 = (p.length : Int) := by
    rw [son_list, List.map_append]
    have := index_some (p.map fun n => UInt8.ofNat n.toNat) (q.map fun n => UInt8.ofNat n.toNat) (fun x hx => by
      obtain ⟨n, hn, rfl⟩ := List.mem_map.1 hx
      intro e
      have hn2 := hb n (List.mem_append_left _ hn)
      have := byte_toNat hn2.1 hn2.2
      rw [e] at this
      exact h n hn this.symm)
    rw [List.length_map] at this
    exact this
  unfold cutS
  rw [e, if_pos (by omega), Int.toNat_natCast]
  refine Prod.ext ?_ (Prod.ext ?_ rfl)
  · apply ba_ext
    show ((strOfNums (p ++ 0 :: q)).extract 0 p.length).data.toList = _
    rw [ByteArray.data_extract, Array.toList_extract, son_list, son_list, List.extract_eq_take_drop, List.drop_zero, List.map_append, Nat.sub_zero, List.take_left' (by simp)]
  · apply ba_ext
    show ((strOfNums (p ++ 0 :: q)).extract (p.length + 1) (strOfNums (p ++ 0 :: q)).size).data.toList = _
    rw [ByteArray.data_extract, Array.toList_extract, size_ofNums, son_list, son_list, List.extract_eq_take_drop, List.map_append]
    have e2 : (p.map (fun n => UInt8.ofNat n.toNat) ++ (0 :: q).map (fun n => UInt8.ofNat n.toNat)).drop (p.length + 1) = q.map fun n => UInt8.ofNat n.toNat := by
      rw [List.drop_append, List.drop_of_length_le (by simp), List.length_map]
      simp
    rw [e2, List.take_of_length_le]
    simp
    omega
/-- A row has a 0, or none. -/
theorem zero_split : ∀ xs : List Int, (∀ x ∈ xs, x ≠ 0) ∨ ∃ p q, xs = p ++ 0 :: q ∧ ∀ x ∈ p, x ≠ 0 := by
  intro xs
  induction xs with
  | nil => exact .inl (fun x hx => by cases hx)
  | cons b r ih =>
    by_cases h : b = 0
    · subst h
      exact .inr ⟨[], r, rfl, fun x hx => by cases hx⟩
    · rcases ih with h1 | ⟨p, q, rfl, h1⟩
      · exact .inl (fun x hx => by rcases List.mem_cons.1 hx with rfl | hx; exact h; exact h1 x hx)
      · exact .inr ⟨b :: p, q, rfl, fun x hx => by rcases List.mem_cons.1 hx with rfl | hx; exact h; exact h1 x hx⟩
theorem idxL_pre (l : List S64) (ns : List ByteArray) (ps : List Int) (n' : List ByteArray) (p' : List Int) : ∀ k, k ≤ ns.length → k ≤ ps.length → idxL l (ns ++ n') (ps ++ p') k = idxL l ns ps k := by
  intro k
  induction k with
  | zero => intro _ _; rfl
  | succ k ih =>
    intro h1 h2
    simp only [idxL]
    rw [ih (by omega) (by omega)]
    have e1 : (ns ++ n').getD k ⟨#[]⟩ = ns.getD k ⟨#[]⟩ := by rw [List.getD_eq_getElem?_getD, List.getD_eq_getElem?_getD, List.getElem?_append_left (by omega)]
    have e2 : (ps ++ p').getD k 0 = ps.getD k 0 := by rw [List.getD_eq_getElem?_getD, List.getD_eq_getElem?_getD, List.getElem?_append_left (by omega)]
    rw [e1, e2]
theorem idxL_all (l : List S64) (ns : List ByteArray) (ps : List Int) : ∀ k, (idxL l ns ps k).2 = true → ∀ j, j < k → (atN l (ps.getD j 0) l.length).isSome = true := by
  intro k
  induction k with
  | zero => intro _ j hj; exact absurd hj (by omega)
  | succ k ih =>
    intro h j hj
    simp only [idxL, Bool.and_eq_true] at h
    by_cases hjk : j = k
    · subst hjk; exact h.2
    · exact ih h.1 j (by omega)
theorem idxL_len (l : List S64) (ns : List ByteArray) (ps : List Int) (k : Nat) : (idxL l ns ps k).1.length = k := by
  induction k with
  | zero => rfl
  | succ k ih => simp only [idxL, List.length_append, ih]; rfl
theorem indexL_pre (b : List Int) : ∀ (m i : Nat) (rest : ByteArray) (ns : List ByteArray) (ps : List Int), indexL b m i rest ns ps = ([], [], false) ∨ ∃ n' p' ok, indexL b m i rest ns ps = (ns ++ n', ps ++ p', ok) ∧ n'.length = m ∧ p'.length = m := by
  intro m
  induction m with
  | zero => intro i rest ns ps; exact .inr ⟨[], [], _, by rw [List.append_nil, List.append_nil]; rfl, rfl, rfl⟩
  | succ m ih =>
    intro i rest ns ps
    simp only [indexL]
    split
    · rcases ih (i + 1) (cutS rest).2.1 (ns ++ [(cutS rest).1]) (ps ++ [bigV b (4 + 4 * i)]) with h | ⟨n', p', ok, h, h1, h2⟩
      · exact .inl h
      · exact .inr ⟨(cutS rest).1 :: n', bigV b (4 + 4 * i) :: p', ok, by rw [h, List.append_assoc, List.append_assoc]; rfl, by simp [h1], by simp [h2]⟩
    · exact .inl rfl
def atI (l : List S64) (z : Int) (k : Nat) : Int := match atN l z k with | none => -1 | some i => (i : Int)
theorem atI_succ (l : List S64) (z : Int) (k : Nat) : atI l z (k + 1) = if (l.getD k z64).f1 = z then (k : Int) else atI l z k := by
  unfold atI
  simp only [atN]
  by_cases h : (l.getD k z64).f1 = z
  · rw [if_pos h, if_pos h]
  · rw [if_neg h, if_neg h]
theorem bigR_f (b : List Int) (h : Bytes8 b) (hl : b.length ≤ 1000000) (a : Nat) (ha : a + 4 ≤ b.length) : bulwarkref10_big.f b (a : Int) = some (bigV b a) := by
  have g0 := h.get a
  have g1 := h.get (a + 1)
  have g2 := h.get (a + 2)
  have g3 := h.get (a + 3)
  unfold bulwarkref10_big.f
  rw [wk (A := a) (k := 1) (by omega) 1 rfl, wk (A := a) (k := 2) (by omega) 2 rfl, wk (A := a) (k := 3) (by omega) 3 rfl, if_pos (by omega), if_pos (by omega), if_pos (by omega), if_pos (by omega), if_pos (by omega), if_pos (by omega), if_pos (by omega), if_pos (by omega)]
  unfold rd bigV
  simp only [Int.toNat_natCast]
  obtain ⟨x, hx⟩ : ∃ x, b.getD a 0 = x := ⟨_, rfl⟩
  obtain ⟨y, hy⟩ : ∃ x, b.getD (a + 1) 0 = x := ⟨_, rfl⟩
  obtain ⟨z, hz⟩ : ∃ x, b.getD (a + 2) 0 = x := ⟨_, rfl⟩
  obtain ⟨u, hu⟩ : ∃ x, b.getD (a + 3) 0 = x := ⟨_, rfl⟩
  rw [hx, hy, hz, hu]
  rw [hx] at g0
  rw [hy] at g1
  rw [hz] at g2
  rw [hu] at g3
  congr 1
  simp only [w64 (z := x) (by omega) (by omega), w64 (z := y) (by omega) (by omega), w64 (z := z) (by omega) (by omega), w64 (z := u) (by omega) (by omega), w64 (z := x * 256) (by omega) (by omega), w64 (z := x * 256 + y) (by omega) (by omega), w64 (z := (x * 256 + y) * 256) (by omega) (by omega), w64 (z := (x * 256 + y) * 256 + z) (by omega) (by omega), w64 (z := ((x * 256 + y) * 256 + z) * 256) (by omega) (by omega), w64 (z := ((x * 256 + y) * 256 + z) * 256 + u) (by omega) (by omega)]
/-- The loop over the parts. -/
theorem index_l2 (b : List Int) (hb : Bytes8 b) (hl : b.length ≤ 65536) (l : List S64) (hll : l.length ≤ 65536) (n i a : Nat) (acc : List S43) (s : ByteArray) (hn : 4 + 4 * n ≤ b.length) (hi : i < n) (K0 : Nat) (r : List S43 × Bool)
    (h1 : atI l (bigV b (4 + 4 * i)) l.length < 0 → r = ([], false)) (h2 : ¬ atI l (bigV b (4 + 4 * i)) l.length < 0 → acc.length < 5864062014805 ∧ bulwarkref10_index.l0 K0 b l (n : Int) (acc ++ [⟨s, atI l (bigV b (4 + 4 * i)) l.length⟩]) (a : Int) ((i + 1 : Nat) : Int) = some r) :
    ∀ (d j : Nat), j + d = l.length → ∃ K, bulwarkref10_index.l2 K b l (n : Int) acc (a : Int) (i : Int) s (atI l (bigV b (4 + 4 * i)) j) (j : Int) = some r := by
  intro d
  induction d with
  | zero =>
    intro j hj
    obtain rfl : j = l.length := by omega
    refine ⟨K0 + 1, ?_⟩
    simp only [bulwarkref10_index.l2]
    rw [if_neg (by omega)]
    by_cases hf : atI l (bigV b (4 + 4 * i)) l.length < 0
    · rw [if_pos hf, h1 hf]
    · rw [if_neg hf, if_pos (h2 hf).1, wk (A := i) (k := 1) (by omega) 1 rfl, (h2 hf).2]
  | succ d ih =>
    intro j hj
    obtain ⟨K, hK⟩ := ih (j + 1) (by omega)
    refine ⟨K + 1, ?_⟩
    have e4 : wrap64 (4 + wrap64 (4 * (i : Int))) = ((4 + 4 * i : Nat) : Int) := by rw [w64 (z := 4 * (i : Int)) (by omega) (by omega), w64 (by omega) (by omega)]; omega
    simp only [bulwarkref10_index.l2]
    rw [e4, if_pos (by omega), if_pos (by omega), bigR_f b hb (by omega) _ (by omega), Option.bind_some, wk (A := j) (k := 1) (by omega) 1 rfl]
    unfold rd_T64
    rw [Int.toNat_natCast]
    rw [atI_succ] at hK
    by_cases hz : (l.getD j z64).f1 = bigV b (4 + 4 * i)
    · rw [if_pos hz]; rw [if_pos hz] at hK; exact hK
    · rw [if_neg hz]; rw [if_neg hz] at hK; exact hK
/-- The loop over a name's bytes. -/
theorem index_l1 (b : List Int) (hl : b.length ≤ 65536) (l : List S64) (n i : Nat) (acc : List S43) (K0 : Nat) (r : List S43 × Bool) :
    ∀ (d a : Nat) (s : ByteArray) (x y : List Int), x.length = d → b.drop a = x ++ y → a + d ≤ b.length → (∀ z ∈ x, z ≠ 0) → (y = [] ∨ ∃ y', y = 0 :: y') → s.size + d ≤ 1000000 →
      bulwarkref10_index.j2 K0 b l (n : Int) acc ((a + d : Nat) : Int) (i : Int) (s ++ strOfNums x) = some r → ∃ K, bulwarkref10_index.l1 K b l (n : Int) acc (a : Int) (i : Int) s = some r := by
  intro d
  induction d with
  | zero =>
    intro a s x y hx hd ha hz hy hs h
    obtain rfl := List.eq_nil_of_length_eq_zero hx
    have e0 : s ++ strOfNums [] = s := by apply ba_ext; rw [ByteArray.data_append, Array.toList_append, son_list]; simp
    rw [e0] at h
    refine ⟨K0 + 1, ?_⟩
    simp only [bulwarkref10_index.l1]
    rcases hy with rfl | ⟨y', rfl⟩
    · have : b.length ≤ a := by have h3 := congrArg List.length hd; rw [List.length_drop] at h3; simp at h3; omega
      rw [if_neg (by omega)]
      exact h
    · have ha2 : a < b.length := by
        rcases Nat.lt_or_ge a b.length with h3 | h3
        · exact h3
        · rw [List.drop_of_length_le h3] at hd; cases hd
      have hg : b.getD a 0 = 0 := by
        rw [List.drop_eq_getElem_cons ha2] at hd
        rw [List.getD_eq_getElem?_getD, List.getElem?_eq_getElem ha2]
        injection hd with h4 _
      rw [if_pos (by omega), if_pos (by omega), if_pos (by unfold rd; rw [Int.toNat_natCast]; exact hg)]
      exact h
  | succ d ih =>
    intro a s x y hx hd ha hz hy hs h
    obtain ⟨c, x', rfl⟩ : ∃ c x', x = c :: x' := by
      cases x with
      | nil => cases hx
      | cons c x' => exact ⟨c, x', rfl⟩
    have ha2 : a < b.length := by omega
    have hd2 := hd
    rw [List.drop_eq_getElem_cons ha2] at hd2
    injection hd2 with h4 h5
    have hg : b.getD a 0 = c := by rw [List.getD_eq_getElem?_getD, List.getElem?_eq_getElem ha2]; exact h4
    have hone : strOfNums (c :: x') = strOfNums [c] ++ strOfNums x' := by rw [← son_append]; rfl
    rw [hone, ← ByteArray.append_assoc] at h
    have hz1 : (strOfNums [c]).size = 1 := by rw [size_ofNums]; rfl
    obtain ⟨K, hK⟩ := ih (a + 1) (s ++ strOfNums [c]) x' y (by simpa using hx) h5 (by omega) (fun z hz' => hz z (List.mem_cons_of_mem _ hz')) hy (by rw [ByteArray.size_append, hz1]; omega) (by rw [show a + 1 + d = a + (d + 1) by omega]; exact h)
    refine ⟨K + 1, ?_⟩
    simp only [bulwarkref10_index.l1]
    rw [if_pos (by omega), if_pos (by omega), if_neg (by unfold rd; rw [Int.toNat_natCast, hg]; exact hz c List.mem_cons_self), Option.bind_some]
    unfold rd
    rw [Int.toNat_natCast, hg, if_pos (by rw [hz1]; omega), wk (A := a) (k := 1) (by omega) 1 rfl]
    exact hK
theorem index_l0 (b : List Int) (hb : Bytes8 b) (hl : b.length ≤ 65536) (l : List S64) (hll : l.length ≤ 65536) (n : Nat) (hn : 4 + 4 * n ≤ b.length) : ∀ (m i a : Nat) (ns : List ByteArray) (ps : List Int), m + i = n → a ≤ b.length → ns.length = i → ps.length = i → (idxL l ns ps i).2 = true →
    ∃ K xs ok, bulwarkref10_index.l0 K b l (n : Int) (idxL l ns ps i).1 (a : Int) (i : Int) = some (xs, ok) ∧ ok = ((indexL b m i (strOfNums (b.drop a)) ns ps).2.2 && (idxL l (indexL b m i (strOfNums (b.drop a)) ns ps).1 (indexL b m i (strOfNums (b.drop a)) ns ps).2.1 (indexL b m i (strOfNums (b.drop a)) ns ps).1.length).2) ∧
      (ok = true → xs = (idxL l (indexL b m i (strOfNums (b.drop a)) ns ps).1 (indexL b m i (strOfNums (b.drop a)) ns ps).2.1 (indexL b m i (strOfNums (b.drop a)) ns ps).1.length).1) := by
  intro m
  induction m with
  | zero =>
    intro i a ns ps h1 h2 h3 h4 h5
    refine ⟨1, (idxL l ns ps i).1, ((a : Int) == (b.length : Int)), ?_, ?_, ?_⟩
    · simp only [bulwarkref10_index.l0]
      rw [if_neg (by omega)]
    · simp only [indexL]
      rw [h3, h5, Bool.and_true]
      by_cases ha : a = b.length
      · rw [decide_eq_true (by rw [List.drop_of_length_le (by omega)]; rfl)]
        simp [ha]
      · rw [decide_eq_false (fun h => ha (by have h6 := congrArg ByteArray.size h; rw [size_ofNums, List.length_drop] at h6; have h7 : (⟨#[]⟩ : ByteArray).size = 0 := rfl; omega))]
        simp; omega
    · intro _
      simp only [indexL]
      rw [h3]
  | succ m ih =>
    intro i a ns ps h1 h2 h3 h4 h5
    have hal := idxL_len l ns ps i
    obtain ⟨acc, hacc⟩ : ∃ x, (idxL l ns ps i).1 = x := ⟨_, rfl⟩
    rw [hacc] at hal ⊢
    obtain ⟨R, hR⟩ : ∃ x, b.drop a = x := ⟨_, rfl⟩
    have hRb : Bytes8 R := by rw [← hR]; exact fun x hx => hb x (List.mem_of_mem_drop hx)
    have hRl : R.length = b.length - a := by rw [← hR, List.length_drop]
    have step : ∀ K r, bulwarkref10_index.l1 K b l (n : Int) acc (a : Int) (i : Int) (⟨#[]⟩ : ByteArray) = some r → bulwarkref10_index.l0 (K + 1) b l (n : Int) acc (a : Int) (i : Int) = some r := by
      intro K r h
      simp only [bulwarkref10_index.l0]
      rw [if_pos (by omega)]
      exact h
    have fail : ∀ (h : indexL b (m + 1) i (strOfNums R) ns ps = ([], [], false)) K, bulwarkref10_index.l1 K b l (n : Int) acc (a : Int) (i : Int) (⟨#[]⟩ : ByteArray) = some ([], false) →
        ∃ K xs ok, bulwarkref10_index.l0 K b l (n : Int) acc (a : Int) (i : Int) = some (xs, ok) ∧ ok = ((indexL b (m + 1) i (strOfNums R) ns ps).2.2 && (idxL l (indexL b (m + 1) i (strOfNums R) ns ps).1 (indexL b (m + 1) i (strOfNums R) ns ps).2.1 (indexL b (m + 1) i (strOfNums R) ns ps).1.length).2) ∧
          (ok = true → xs = (idxL l (indexL b (m + 1) i (strOfNums R) ns ps).1 (indexL b (m + 1) i (strOfNums R) ns ps).2.1 (indexL b (m + 1) i (strOfNums R) ns ps).1.length).1) := by
      intro h K hK
      refine ⟨K + 1, [], false, step _ _ hK, ?_, fun h => by cases h⟩
      rw [h]
      rfl
    have e0 : ∀ x : ByteArray, (⟨#[]⟩ : ByteArray) ++ x = x := fun x => by apply ba_ext; rw [ByteArray.data_append, Array.toList_append]; rfl
    rw [hR]
    rcases zero_split R with hz | ⟨p, q, hpq, hz⟩
    · have hq : indexL b (m + 1) i (strOfNums R) ns ps = ([], [], false) := by simp only [indexL]; rw [if_neg (fun h => by have := h.1; rw [cutS_none R hRb hz] at this; cases this)]
      obtain ⟨K, hK⟩ := index_l1 b hl l n i acc 2 ([], false) R.length a (⟨#[]⟩ : ByteArray) R [] rfl (by rw [List.append_nil]; exact hR) (by omega) hz (.inl rfl) (by show 0 + R.length ≤ _; omega) (by
        simp only [bulwarkref10_index.j2]
        rw [if_pos (by omega)]
        simp only [bulwarkref10_index.j3, if_true])
      exact fail hq K hK
    · have hcut := cutS_some p q (by rw [← hpq]; exact hRb) hz
      rw [← hpq] at hcut
      have hpl : p.length + (q.length + 1) = R.length := by rw [hpq]; simp
      by_cases hp : p = []
      · have hq : indexL b (m + 1) i (strOfNums R) ns ps = ([], [], false) := by simp only [indexL]; rw [if_neg (fun h => by have := h.2; rw [hcut, hp] at this; exact this rfl)]
        obtain ⟨K, hK⟩ := index_l1 b hl l n i acc 2 ([], false) p.length a (⟨#[]⟩ : ByteArray) p (0 :: q) rfl (by rw [hR, hpq]) (by omega) hz (.inr ⟨q, rfl⟩) (by show 0 + p.length ≤ _; omega) (by
          simp only [bulwarkref10_index.j2]
          rw [if_neg (by omega)]
          simp only [bulwarkref10_index.j3]
          rw [e0, if_pos (by rw [hp]; exact beq_iff_eq.2 (by rw [Lib.toList_data]; rfl))])
        exact fail hq K hK
      · have hs : ¬ strOfNums p = (⟨#[]⟩ : ByteArray) := fun h => hp (by have h6 := congrArg ByteArray.size h; rw [size_ofNums] at h6; exact List.eq_nil_of_length_eq_zero h6)
        have hstep : indexL b (m + 1) i (strOfNums R) ns ps = indexL b m (i + 1) (strOfNums q) (ns ++ [strOfNums p]) (ps ++ [bigV b (4 + 4 * i)]) := by
          simp only [indexL]
          rw [hcut, if_pos ⟨rfl, hs⟩]
        have hdq : b.drop (a + p.length + 1) = q := by
          rw [show a + p.length + 1 = a + (p.length + 1) by omega, ← List.drop_drop, hR, hpq, List.drop_append, List.drop_of_length_le (by omega), show p.length + 1 - p.length = 1 by omega]
          rfl
        have hn1 : (ns ++ [strOfNums p]).length = i + 1 := by rw [List.length_append, h3]; rfl
        have hp1 : (ps ++ [bigV b (4 + 4 * i)]).length = i + 1 := by rw [List.length_append, h4]; rfl
        have hgn : (ns ++ [strOfNums p]).getD i ⟨#[]⟩ = strOfNums p := by rw [List.getD_eq_getElem?_getD, List.getElem?_append_right (by omega), h3, Nat.sub_self]; rfl
        have hgp : (ps ++ [bigV b (4 + 4 * i)]).getD i 0 = bigV b (4 + 4 * i) := by rw [List.getD_eq_getElem?_getD, List.getElem?_append_right (by omega), h4, Nat.sub_self]; rfl
        obtain ⟨z, hzz⟩ : ∃ z, bigV b (4 + 4 * i) = z := ⟨_, rfl⟩
        have hidx : idxL l (ns ++ [strOfNums p]) (ps ++ [z]) (i + 1) = (acc ++ [⟨strOfNums p, (((atN l z l.length).getD 0 : Nat) : Int)⟩], (atN l z l.length).isSome) := by
          have h8 := idxL_pre l ns ps [strOfNums p] [z] i (by omega) (by omega)
          rw [hzz] at hgp
          simp only [idxL]
          rw [h8, hgn, hgp, hacc, h5, Bool.true_and]
        have go : ∀ K0 r, (atI l z l.length < 0 → r = ([], false)) → (¬ atI l z l.length < 0 → acc.length < 5864062014805 ∧ bulwarkref10_index.l0 K0 b l (n : Int) (acc ++ [⟨strOfNums p, atI l z l.length⟩]) ((a + p.length + 1 : Nat) : Int) ((i + 1 : Nat) : Int) = some r) → ∃ K, bulwarkref10_index.l1 K b l (n : Int) acc (a : Int) (i : Int) (⟨#[]⟩ : ByteArray) = some r := by
          intro K0 r g1 g2
          obtain ⟨K, hK⟩ := index_l2 b hb hl l hll n i (a + p.length + 1) acc (strOfNums p) hn (by omega) K0 r (by rw [hzz]; exact g1) (by rw [hzz]; exact g2) l.length 0 (by omega)
          refine index_l1 b hl l n i acc (K + 1 + 1) r p.length a (⟨#[]⟩ : ByteArray) p (0 :: q) rfl (by rw [hR, hpq]) (by omega) hz (.inr ⟨q, rfl⟩) (by show 0 + p.length ≤ _; omega) ?_
          simp only [bulwarkref10_index.j2]
          rw [if_neg (by omega), e0]
          simp only [bulwarkref10_index.j3]
          rw [if_neg (by intro h; exact toList_ne2 hs (by simpa using h)), wk (A := a + p.length) (k := 1) (by omega) 1 rfl]
          exact hK
        rw [hstep, hzz]
        cases hat : atN l z l.length with
        | none =>
          have hneg : atI l z l.length = -1 := by unfold atI; rw [hat]
          obtain ⟨K, hK⟩ := go 0 ([], false) (fun _ => rfl) (fun h => absurd (by rw [hneg]; decide) h)
          refine ⟨K + 1, [], false, step _ _ hK, ?_, fun h => by cases h⟩
          rcases indexL_pre b m (i + 1) (strOfNums q) (ns ++ [strOfNums p]) (ps ++ [z]) with h | ⟨n', p', ok, h, _, _⟩
          · rw [h]; rfl
          · rw [h]
            simp only []
            cases hx : (idxL l (ns ++ [strOfNums p] ++ n') (ps ++ [z] ++ p') (ns ++ [strOfNums p] ++ n').length).2 with
            | false => rw [Bool.and_false]
            | true =>
              have h9 := idxL_all _ _ _ _ hx i (by rw [List.length_append, hn1]; omega)
              rw [List.append_assoc, List.getD_eq_getElem?_getD, List.getElem?_append_right (by omega), h4, Nat.sub_self] at h9
              change (atN l z l.length).isSome = true at h9
              rw [hat] at h9
              cases h9
        | some k =>
          have hpos : atI l z l.length = (k : Int) := by unfold atI; rw [hat]
          rw [hat] at hidx
          obtain ⟨K0, xs, ok, i1, i2, i3⟩ := ih (i + 1) (a + p.length + 1) (ns ++ [strOfNums p]) (ps ++ [z]) (by omega) (by omega) hn1 (by rw [← hzz]; exact hp1) (by rw [hidx]; rfl)
          rw [hidx] at i1
          rw [hdq] at i2 i3
          obtain ⟨K, hK⟩ := go K0 (xs, ok) (fun h => absurd h (by rw [hpos]; omega)) (fun _ => ⟨by omega, by rw [hpos]; exact i1⟩)
          exact ⟨K + 1, xs, ok, step _ _ hK, i2, i3⟩
/-- What the reference reads of an index. -/
theorem index_f (b : List Int) (hb : Bytes8 b) (hl : b.length ≤ 65536) (l : List S64) (hll : l.length ≤ 65536) : ∃ K xs ok, bulwarkref10_index.f K b l = some (xs, ok) ∧ ok = ((indexS b).2.2 && (idxL l (indexS b).1 (indexS b).2.1 (indexS b).1.length).2) ∧ (ok = true → xs = (idxL l (indexS b).1 (indexS b).2.1 (indexS b).1.length).1) := by
  unfold bulwarkref10_index.f indexS
  by_cases h4 : b.length < 4
  · exact ⟨0, [], false, by rw [if_pos (by omega)], by rw [if_pos h4]; rfl, fun h => by cases h⟩
  · rw [if_neg h4]
    have hbv := bigV_range hb 0
    obtain ⟨n, hnn⟩ : ∃ n : Nat, bigV b 0 = (n : Int) := ⟨(bigV b 0).toNat, by omega⟩
    have hq : wrap64 (Int.tdiv (wrap64 ((b.length : Int) - 4)) 4) = (((b.length - 4) / 4 : Nat) : Int) := by rw [w64 (z := (b.length : Int) - 4) (by omega) (by omega), Int.tdiv_eq_ediv_of_nonneg (by omega), w64 (by omega) (by omega)]; omega
    have hbf : bulwarkref10_big.f b 0 = some (n : Int) := by rw [← hnn]; exact bigR_f b hb (by omega) 0 (by omega)
    by_cases hnq : (b.length - 4) / 4 < n
    · refine ⟨0, [], false, ?_, ?_, fun h => by cases h⟩
      · rw [if_neg (by omega), hbf, Option.bind_some, hq, if_pos (by omega)]
      · rw [hnn, Int.toNat_natCast, if_pos hnq]; rfl
    · obtain ⟨K, xs, ok, i1, i2, i3⟩ := index_l0 b hb hl l hll n (by omega) n 0 (4 + 4 * n) [] [] (by omega) (by omega) rfl rfl rfl
      have e4 : wrap64 (4 + wrap64 (4 * (n : Int))) = ((4 + 4 * n : Nat) : Int) := by rw [w64 (z := 4 * (n : Int)) (by omega) (by omega), w64 (by omega) (by omega)]; omega
      refine ⟨K, xs, ok, ?_, ?_, ?_⟩
      · rw [if_neg (by omega), hbf, Option.bind_some, hq, if_neg (by omega), e4]
        exact i1
      · rw [hnn, Int.toNat_natCast, if_neg hnq]; exact i2
      · rw [hnn, Int.toNat_natCast, if_neg hnq]; exact i3
end Go.Proofs.YtdjmahmbofhnpaaDoor.Ar
