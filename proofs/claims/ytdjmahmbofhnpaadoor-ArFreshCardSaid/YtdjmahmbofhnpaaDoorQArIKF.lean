/- strings.Cut at a byte 0, and ar.index, by contract. -/
import Derived.Test.YtdjmahmbofhnpaaDoorQArRF
import Derived.Laws.BitsLemmas
namespace Go.Proofs.YtdjmahmbofhnpaaDoor.Ar
open Go.RowKit Go.Proofs.YtdjmahmbofhnpaaDoorW.PrintWords Go.Proofs.YtdjmahmbofhnpaaDoorW.PrintLast Go.Proofs.YtdjmahmbofhnpaaDoor.QAr
set_option linter.unusedVariables false
set_option linter.unusedSimpArgs false
/-- What is ahead of the first 0, what is behind it, is there one. -/
def cutS (s : ByteArray) : ByteArray × ByteArray × Bool :=
  if 0 ≤ Lib.indexByte s.data.toList 0 then (s.extract 0 (Lib.indexByte s.data.toList 0).toNat, s.extract ((Lib.indexByte s.data.toList 0).toNat + 1) s.size, true) else (s, ⟨#[]⟩, false)
theorem indexByte_lt : ∀ (l : List UInt8) (c : UInt8), Lib.indexByte l c < l.length := by
  intro l c
  induction l with
  | nil => show (-1 : Int) < 0; decide
  | cons b r ih =>
    show (if b == c then (0 : Int) else if Lib.indexByte r c == -1 then -1 else Lib.indexByte r c + 1) < ((r.length + 1 : Nat) : Int)
    split
    · omega
    · split <;> omega
def T58_3 : Bool × List (List Nat × List Nat) := (true, [([], []), ([], []), ([0, 1], [0, 1]), ([], []), ([], []), ([], []), ([5], [5]), ([4, 6], [4, 6]), ([3, 7], [3, 7]), ([2, 0, 1, 2], [2]), ([8, 9, 0, 1, 2, 3, 4, 5, 6, 7, 8, 9], [8]), ([10, 0, 1, 2, 3, 4, 5, 6, 7, 8, 9, 10], [])])
theorem tab58_3 : rtab .any (opsOf Tryd.f58 3) = T58_3 := by kernel_rfl
def B58_3 : List Nat := [0, 0, 3, 0, 0, 0, 32, 112, 248, 7, 1023, 2047]
theorem bits58_3 : waitsOk T58_3.2 B58_3 = true := by kernel_rfl
set_option maxRecDepth 100000 in
set_option maxHeartbeats 4000000 in
theorem cut58 (s : ByteArray) (hs : s.size ≤ 1000000) (w : World) : Calls Tryd.prog 58 #[.string s, .string ⟨#[0]⟩] w fun e w' => e = .returned (.tuple #[.string (cutS s).1, .string (cutS s).2.1, .bool (cutS s).2.2]) ∧ Below w.heap.size w w' := by
  obtain ⟨i, hi⟩ : ∃ i, Lib.indexByte s.data.toList 0 = i := ⟨_, rfl⟩
  have hlt := indexByte_lt s.data.toList 0
  rw [hi, Array.length_toList] at hlt
  have hlt2 : i < (s.size : Int) := hlt
  obtain ⟨r, hr⟩ : ∃ r, cutS s = r := ⟨_, rfl⟩
  rw [hr]
  have HR := Aside0.mk hr
  have HI := Aside0.mk hi
  have IC : ∀ w, Calls Tryd.prog 48 #[.string s, .string ⟨#[0]⟩] w fun e w' => e = .returned (.int .i64 i) ∧ w' = w := fun w => by have h := Tryd.stringslite_Index_one s 0 w; rwa [hi] at h
  clear hr hi hlt
  go_enter Tryd.func58, Tryd.ntmps58
  go_wp2_with fail
  refine (IC _).mono ?_
  intro e w2 h2
  obtain ⟨h2, h22⟩ := h2
  subst h2
  subst h22
  simp only []
  clear IC
  by_cases h0 : 0 ≤ i
  · obtain ⟨k, hk⟩ : ∃ k : Nat, i = (k : Int) := ⟨i.toNat, by omega⟩
    subst hk
    have hk0 : k ≤ s.size := by omega
    have hk1 : k + 1 ≤ s.size := by omega
    have hk2 : 0 ≤ (k : Int) + 1 ∧ (k : Int) + 1 ≤ (s.size : Int) := by omega
    have hk3 : (k : Int) + 1 ≤ (s.size : Int) := by omega
    have hk4 : 0 ≤ (k : Int) + 1 := by omega
    have h0I : (0 : Int) ≤ (k : Int) := by omega
    have hw : wrap64 ((k : Int) + 1) = ((k + 1 : Nat) : Int) := by rw [w64 (by omega) (by omega)]; omega
    obtain rfl : r = (s.extract 0 k, s.extract (k + 1) s.size, true) := HR.out.symm.trans (by unfold cutS; rw [HI.out, if_pos h0, Int.toNat_natCast])
    go_upto_region 3 with fail
    refine start_ (n := 12) (S := fun w' => True) (ds := []) #[false, false, false, false, false, false, false, false, false, false, false, false] (by kernel_rfl) rfl rfl trivial (fun hHeld => ?_)
    refine with_tabW tab58_3 bits58_3 (fun HT_ HW_ => ?_)
    have HB3 := Aside0.mk (below_drew (Below.refl w2.heap.size w2))
    generalize w2.drew = w3 at HB3 ⊢
    clear hHeld
    refine pure_ (i := 0) (N := some 13) (v := ?_) (a' := ?_) #[true, false, false, false, false, false, false, false, false, false, false, false] rfl rfl (any_of HT_.out (by kernel_rfl)) (fun _ _ _ h => h) (Or.inl ⟨by rfl, ?_⟩) ?_ ?_
    rotate_left
    · intro w'
      go_simp
      with_reducible rfl
    rotate_left
    · skip
      simp only [Act.put, List.setIfInBounds_toArray, List.set_cons_zero, List.set_cons_succ, i64_w, i32_w]
      rfl
    refine pure_ (i := 1) (N := some 14) (v := ?_) (a' := ?_) #[true, true, false, false, false, false, false, false, false, false, false, false] rfl rfl (any_of HT_.out (by kernel_rfl)) (fun _ _ _ h => h) (Or.inl ⟨by rfl, ?_⟩) ?_ ?_
    rotate_left
    · intro w'
      go_simp
      with_reducible rfl
    rotate_left
    · skip
      simp only [Act.put, List.setIfInBounds_toArray, List.set_cons_zero, List.set_cons_succ, i64_w, i32_w]
      rfl
    refine pure_ (i := 2) (N := some 15) (v := ?_) (a' := ?_) #[true, true, true, false, false, false, false, false, false, false, false, false] rfl rfl (any_of HT_.out (by kernel_rfl)) (fun _ _ _ h => h) (Or.inl ⟨by rfl, ?_⟩) ?_ ?_
    rotate_left
    · intro w'
      go_simp
      with_reducible rfl
    rotate_left
    · skip
      simp only [Act.put, List.setIfInBounds_toArray, List.set_cons_zero, List.set_cons_succ, i64_w, i32_w]
      rfl
    refine pure_ (i := 3) (N := some 16) (v := ?_) (a' := ?_) #[true, true, true, true, false, false, false, false, false, false, false, false] rfl rfl (any_of HT_.out (by kernel_rfl)) (fun _ _ _ h => h) (Or.inl ⟨by rfl, ?_⟩) ?_ ?_
    rotate_left
    · intro w'
      go_simp
      with_reducible rfl
    rotate_left
    · skip
      simp only [Act.put, List.setIfInBounds_toArray, List.set_cons_zero, List.set_cons_succ, i64_w, i32_w]
      rfl
    refine pure_ (i := 4) (N := some 17) (v := ?_) (a' := ?_) #[true, true, true, true, true, false, false, false, false, false, false, false] rfl rfl (any_of HT_.out (by kernel_rfl)) (fun _ _ _ h => h) (Or.inl ⟨by rfl, ?_⟩) ?_ ?_
    rotate_left
    · intro w'
      go_simp
      with_reducible rfl
    rotate_left
    · skip
      simp only [Act.put, List.setIfInBounds_toArray, List.set_cons_zero, List.set_cons_succ, i64_w, i32_w]
      rfl
    refine pure_ (i := 5) (N := some 18) (v := ?_) (a' := ?_) #[true, true, true, true, true, true, false, false, false, false, false, false] rfl rfl (any_of HT_.out (by kernel_rfl)) (fun _ _ _ h => h) (Or.inl ⟨by rfl, ?_⟩) ?_ ?_
    rotate_left
    · intro w'
      go_simp
      with_reducible rfl
    rotate_left
    · skip
      simp only [Act.put, List.setIfInBounds_toArray, List.set_cons_zero, List.set_cons_succ, i64_w, i32_w]
      rfl
    refine pure_ (i := 6) (N := some 19) (v := ?_) (a' := ?_) #[true, true, true, true, true, true, true, false, false, false, false, false] rfl rfl (any_of HT_.out (by kernel_rfl)) (fun _ _ _ h => h) (Or.inl ⟨by rfl, ?_⟩) ?_ ?_
    rotate_left
    · intro w'
      go_simp
      with_reducible rfl
    rotate_left
    · skip
      simp only [Act.put, List.setIfInBounds_toArray, List.set_cons_zero, List.set_cons_succ, i64_w, i32_w]
      rfl
    refine pure_ (i := 7) (N := some 20) (v := ?_) (a' := ?_) #[true, true, true, true, true, true, true, true, false, false, false, false] rfl rfl (any_of HT_.out (by kernel_rfl)) (fun _ _ _ h => h) (Or.inl ⟨by rfl, ?_⟩) ?_ ?_
    rotate_left
    · intro w'
      go_simp
      with_reducible rfl
    rotate_left
    · skip
      simp only [Act.put, List.setIfInBounds_toArray, List.set_cons_zero, List.set_cons_succ, i64_w, i32_w]
      rfl
    refine pure_ (i := 8) (N := some 21) (v := ?_) (a' := ?_) #[true, true, true, true, true, true, true, true, true, false, false, false] rfl rfl (any_of HT_.out (by kernel_rfl)) (fun _ _ _ h => h) (Or.inl ⟨by rfl, ?_⟩) ?_ ?_
    rotate_left
    · intro w'
      go_simp
      with_reducible rfl
    rotate_left
    · skip
      simp only [Act.put, List.setIfInBounds_toArray, List.set_cons_zero, List.set_cons_succ, i64_w, i32_w]
      rfl
    refine one_ (i := 9) (N := some 4) #[true, true, true, true, true, true, true, true, true, true, false, false] rfl rfl (one_of HT_.out (by kernel_rfl)) (by decide) (fun K hK => ?_)
    refine value_ (w1 := ?_) (v := ?_) (by rfl) rfl ?_ ?_
    rotate_left 2
    · go_simp
      constructor
      · rfl
      · rfl
    refine hK.out _ _ trivial (fun hS => ?_)
    clear hK K
    refine norm_ (a' := ?_) ?_ ?_
    rotate_left
    · show Act.put _ (some 4) _ = _
      simp only [Act.put, List.setIfInBounds_toArray, List.set_cons_zero, List.set_cons_succ, i64_w, i32_w]
      rfl
    refine one_ (i := 10) (N := some 5) #[true, true, true, true, true, true, true, true, true, true, true, false] rfl rfl (one_of HT_.out (by kernel_rfl)) (by decide) (fun K hK => ?_)
    refine value_ (w1 := ?_) (v := ?_) (by rfl) rfl ?_ ?_
    rotate_left 2
    · go_simp
      constructor
      · rfl
      · rfl
    refine hK.out _ _ trivial (fun hS => ?_)
    clear hK K
    refine norm_ (a' := ?_) ?_ ?_
    rotate_left
    · show Act.put _ (some 5) _ = _
      simp only [Act.put, List.setIfInBounds_toArray, List.set_cons_zero, List.set_cons_succ, i64_w, i32_w]
      rfl
    refine one_ (i := 11) (N := some 6) #[true, true, true, true, true, true, true, true, true, true, true, true] rfl rfl (one_of HT_.out (by kernel_rfl)) (by decide) (fun K hK => ?_)
    refine value_ (w1 := ?_) (v := ?_) (by rfl) rfl ?_ ?_
    rotate_left 2
    · go_simp
      constructor
      · rfl
      · rfl
    refine hK.out _ _ trivial (fun hS => ?_)
    clear hK K
    refine norm_ (a' := ?_) ?_ ?_
    rotate_left
    · show Act.put _ (some 6) _ = _
      simp only [Act.put, List.setIfInBounds_toArray, List.set_cons_zero, List.set_cons_succ, i64_w, i32_w]
      rfl
    refine done_ (done_of HT_.out (by kernel_rfl)) ?_
    go_wp2_with fail
    refine bodyPost_ret (v := .tuple #[.string (s.extract 0 k), .string (s.extract (k + 1) s.size), .bool true]) (by simp [results, Tryd.results58, go_sem]) rfl ?_
    exact ⟨rfl, HB3.out⟩
  · obtain rfl : r = (s, ⟨#[]⟩, false) := HR.out.symm.trans (by unfold cutS; rw [HI.out, if_neg h0])
    go_wp2_with fail
    refine bodyPost_ret (v := .tuple #[.string s, .string ⟨#[]⟩, .bool false]) (by simp [results, Tryd.results58, go_sem]) rfl ?_
    exact ⟨rfl, Below.refl _ _⟩
set_option maxRecDepth 100000 in
set_option maxHeartbeats 4000000 in
theorem cut_calls (s : ByteArray) (hs : s.size ≤ 1000000) (w : World) : Calls Tryd.prog 44 #[.string s, .string ⟨#[0]⟩] w fun e w' => e = .returned (.tuple #[.string (cutS s).1, .string (cutS s).2.1, .bool (cutS s).2.2]) ∧ Below w.heap.size w w' := by
  have CC := cut58 s hs
  obtain ⟨r, hr⟩ : ∃ r, cutS s = r := ⟨_, rfl⟩
  rw [hr] at CC ⊢
  clear hr
  go_enter Tryd.func44, Tryd.ntmps44
  go_wp2_with fail
  refine (CC _).mono ?_
  clear CC
  intro e w2 h2
  obtain ⟨h2, hb2⟩ := h2
  subst h2
  have HB2 := Aside0.mk hb2
  clear hb2
  simp only []
  go_wp2_with fail
  refine bodyPost_ret (v := .tuple #[.string r.1, .string r.2.1, .bool r.2.2]) (by simp [results, Tryd.results44, go_sem]) rfl ?_
  exact ⟨rfl, HB2.out⟩
end Go.Proofs.YtdjmahmbofhnpaaDoor.Ar

/- Four bytes as a number (ar.big), in plain words. -/
namespace Go.Proofs.YtdjmahmbofhnpaaDoor.Ar
open Go.RowKit Go.Proofs.YtdjmahmbofhnpaaDoorW.PrintWords Go.Proofs.YtdjmahmbofhnpaaDoorW.PrintLast Go.Proofs.YtdjmahmbofhnpaaDoor.QAr
set_option linter.unusedVariables false
set_option linter.unusedSimpArgs false
/-- All are bytes. -/
def Bytes8 (b : List Int) : Prop := ∀ x ∈ b, 0 ≤ x ∧ x < 256
theorem Bytes8.get {b : List Int} (h : Bytes8 b) (i : Nat) : 0 ≤ b.getD i 0 ∧ b.getD i 0 < 256 := by
  rcases Nat.lt_or_ge i b.length with hi | hi
  · rw [List.getD_eq_getElem?_getD, List.getElem?_eq_getElem hi]
    exact h _ (List.getElem_mem hi)
  · rw [List.getD_eq_getElem?_getD, List.getElem?_eq_none hi]
    exact ⟨Int.le_refl 0, by decide⟩
theorem or64 (i : Nat) (x y : Int) (h0 : 0 ≤ x) (h1 : x % 2 ^ i = 0) (h2 : x < 2 ^ 32) (h3 : 0 ≤ y) (h4 : y < 2 ^ i) (h5 : y < 2 ^ 32) : Go.bits .or .i64 x y = x + y :=
  bits_join .i64 32 (by decide) (fun n a b => by rw [IntKind.wrap_i64]; omega) i x y h0 h1 h2 h3 h4 h5
/-- Four bytes, the highest first. -/
def bigV (b : List Int) (a : Nat) : Int := ((b.getD a 0 * 256 + b.getD (a + 1) 0) * 256 + b.getD (a + 2) 0) * 256 + b.getD (a + 3) 0
theorem bigV_range {b : List Int} (h : Bytes8 b) (a : Nat) : 0 ≤ bigV b a ∧ bigV b a < 4294967296 := by
  have := h.get a; have := h.get (a + 1); have := h.get (a + 2); have := h.get (a + 3)
  unfold bigV
  omega
theorem or_four (x y z u : Int) (hx : 0 ≤ x ∧ x < 256) (hy : 0 ≤ y ∧ y < 256) (hz : 0 ≤ z ∧ z < 256) (hu : 0 ≤ u ∧ u < 256) :
    Go.bits .or .i64 (Go.bits .or .i64 (Go.bits .or .i64 (x * 16777216) (y * 65536)) (z * 256)) u = ((x * 256 + y) * 256 + z) * 256 + u := by
  rw [or64 24 (x * 16777216) (y * 65536) (by omega) (by omega) (by omega) (by omega) (by omega) (by omega)]
  rw [or64 16 (x * 16777216 + y * 65536) (z * 256) (by omega) (by omega) (by omega) (by omega) (by omega) (by omega)]
  rw [or64 8 (x * 16777216 + y * 65536 + z * 256) u (by omega) (by omega) (by omega) (by omega) (by omega) (by omega)]
  omega
theorem big_f (b : List Int) (h : Bytes8 b) (hl : b.length ≤ 1000000) (a : Nat) (ha : a + 4 ≤ b.length) : ar_big.f b (a : Int) = some (bigV b a) := by
  have g0 := h.get a
  have g1 := h.get (a + 1)
  have g2 := h.get (a + 2)
  have g3 := h.get (a + 3)
  have e1 : wrap64 ((a : Int) + 1) = ((a + 1 : Nat) : Int) := w64n (j := 1) rfl (by omega)
  have e2 : wrap64 ((a : Int) + 2) = ((a + 2 : Nat) : Int) := w64n (j := 2) rfl (by omega)
  have e3 : wrap64 ((a : Int) + 3) = ((a + 3 : Nat) : Int) := w64n (j := 3) rfl (by omega)
  unfold ar_big.f
  rw [e1, e2, e3, if_pos (by omega), if_pos (by omega), if_pos (by omega), if_pos (by omega), if_pos (by omega), if_pos (by omega), if_pos (by omega), if_pos (by omega)]
  unfold rd bigV
  simp only [Int.toNat_natCast]
  obtain ⟨x, hx⟩ : ∃ x, b.getD a 0 = x := ⟨_, rfl⟩
  obtain ⟨y, hy⟩ : ∃ x, b.getD (a + 1) 0 = x := ⟨_, rfl⟩
  obtain ⟨z, hz⟩ : ∃ x, b.getD (a + 2) 0 = x := ⟨_, rfl⟩
  obtain ⟨u, hu⟩ : ∃ x, b.getD (a + 3) 0 = x := ⟨_, rfl⟩
  rw [hx, hy, hz, hu]
  rw [hx] at g0
  rw [hy] at g1
  rw [hz] at g2
  rw [hu] at g3
  rw [w64 (z := x) (by omega) (by omega), w64 (z := y) (by omega) (by omega), w64 (z := z) (by omega) (by omega), w64 (z := u) (by omega) (by omega), w64 (z := x * 16777216) (by omega) (by omega), w64 (z := y * 65536) (by omega) (by omega), w64 (z := z * 256) (by omega) (by omega), or_four x y z u g0 g1 g2 g3]
end Go.Proofs.YtdjmahmbofhnpaaDoor.Ar

/- ar.index by contract: indexS. -/
namespace Go.Proofs.YtdjmahmbofhnpaaDoor.Ar
open Go.RowKit Go.Proofs.YtdjmahmbofhnpaaDoorW.PrintWords Go.Proofs.YtdjmahmbofhnpaaDoorW.PrintLast Go.Proofs.YtdjmahmbofhnpaaDoor.QAr
set_option linter.unusedVariables false
set_option linter.unusedSimpArgs false
def indexL (b : List Int) : Nat → Nat → ByteArray → List ByteArray → List Int → List ByteArray × List Int × Bool
  | 0, _, rest, ns, ps => (ns, ps, decide (rest = ⟨#[]⟩))
  | m + 1, i, rest, ns, ps => if (cutS rest).2.2 = true ∧ ¬ (cutS rest).1 = ⟨#[]⟩ then indexL b m (i + 1) (cutS rest).2.1 (ns ++ [(cutS rest).1]) (ps ++ [bigV b (4 + 4 * i)]) else ([], [], false)
/-- An index's names, and the places that they name. -/
def indexS (b : List Int) : List ByteArray × List Int × Bool :=
  if b.length < 4 then ([], [], false) else if (b.length - 4) / 4 < (bigV b 0).toNat then ([], [], false) else indexL b (bigV b 0).toNat 0 (strOfNums (b.drop (4 + 4 * (bigV b 0).toNat))) [] []
theorem info9 : (Tryd.prog.info? 9).map (fun i => (i.zero, i.size, i.bytes)) = some (some (.string ⟨#[]⟩), 1, 16) := by kernel_rfl
theorem cutS_size (s : ByteArray) : (cutS s).1.size ≤ s.size ∧ (cutS s).2.1.size ≤ s.size := by
  unfold cutS
  split
  · simp only [ByteArray.size_extract]; omega
  · exact ⟨Nat.le_refl _, Nat.zero_le _⟩
theorem bigB_calls (A : Option Addr) (c : Nat) (b : List Int) (hc : b.length ≤ c) (hb : Bytes8 b) (hl : b.length ≤ 65536) (a : Nat) (ha : a + 4 ≤ b.length) (w : World) (hr : (Kd.int .u8).C w A b.length b) :
    Calls Tryd.prog 43 #[.slice A b.length c, .int .i64 (a : Int)] w fun e w' => e = .returned (.int .i64 (bigV b a)) ∧ Below w.heap.size w w' :=
  (ar_big.calls A c b a _ w hr hc (big_f b hb (by omega) a ha)).mono fun e w' h => ⟨h.1, h.2.below⟩
set_option maxRecDepth 100000 in
set_option maxHeartbeats 16000000 in
theorem index_calls (A : Option Addr) (c : Nat) (b : List Int) (hc : b.length ≤ c) (hl : b.length ≤ 65536) (hb : Bytes8 b) (w : World) (hr : (Kd.int .u8).C w A b.length b) :
    Calls Tryd.prog 31 #[.slice A b.length c] w fun e w' => ∃ v1 v2, e = .returned (.tuple #[v1, v2, .bool (indexS b).2.2]) ∧ Kd.string.R 9 w' w.heap.size (fun _ => True) v1 (indexS b).1 ∧ (Kd.int .i64).R 3 w' w.heap.size (fun _ => True) v2 (indexS b).2.1 ∧ Below w.heap.size w w' := by
  have HR := Aside0.mk hr
  have HC := Aside0.mk hc
  have HL := Aside0.mk hl
  have HBY := Aside0.mk hb
  obtain ⟨r, hrr⟩ : ∃ r, indexS b = r := ⟨_, rfl⟩
  rw [hrr]
  have HRr := Aside0.mk hrr
  obtain ⟨i5, hi5, hs5⟩ := info5x
  have HI5 := Aside0.mk hi5
  have HS5 := Aside0.mk hs5
  clear hb hr hrr hi5 hs5 hc
  go_enter Tryd.func31, Tryd.ntmps31
  by_cases h4 : b.length < 4
  · obtain rfl : r = ([], [], false) := HRr.out.symm.trans (by unfold indexS; rw [if_pos h4])
    have h4I : (b.length : Int) < 4 := by omega
    go_wp2_with fail
    refine bodyPost_ret (v := .tuple #[.slice none 0 0, .slice none 0 0, .bool false]) (by simp [results, Tryd.results31, go_sem]) rfl ?_
    exact ⟨_, _, rfl, Kd.R_nil _ _ _ _ _, Kd.R_nil _ _ _ _ _, Below.refl _ _⟩
  · have h4I : ¬ (b.length : Int) < 4 := by omega
    go_wp2_with fail
    have BC := bigB_calls A c b HC.out HBY.out HL.out 0 (by omega) w HR.out
    refine BC.mono ?_
    clear BC
    intro e w2 h2
    obtain ⟨h2, hb2⟩ := h2
    subst h2
    have HB2 := Aside0.mk hb2
    clear hb2
    simp only []
    have hbv := bigV_range HBY.out 0
    obtain ⟨n, hn⟩ : ∃ n : Nat, bigV b 0 = (n : Int) := ⟨(bigV b 0).toNat, by omega⟩
    rw [hn]
    have hn2 : (bigV b 0).toNat = n := by rw [hn, Int.toNat_natCast]
    have HN2 := Aside0.mk hn2
    clear hbv hn hn2
    by_cases hnq : (b.length - 4) / 4 < n
    · have hnI : (n : Int) > ((b.length : Int) - 4) / 4 := by omega
      obtain rfl : r = ([], [], false) := HRr.out.symm.trans (by unfold indexS; rw [if_neg h4, HN2.out, if_pos hnq])
      go_wp2_with fail
      refine bodyPost_ret (v := .tuple #[.slice none 0 0, .slice none 0 0, .bool false]) (by simp [results, Tryd.results31, go_sem]) rfl ?_
      exact ⟨_, _, rfl, Kd.R_nil _ _ _ _ _, Kd.R_nil _ _ _ _ _, HB2.out⟩
    · have hnI : ¬ (n : Int) > ((b.length : Int) - 4) / 4 := by omega
      go_upto_region 6 with fail
      have hlen := HL.out
      obtain ⟨m, hm⟩ : ∃ m, 4 + 4 * n = m := ⟨_, rfl⟩
      have hml : m ≤ b.length := by omega
      have hw1 : wrap64 (4 * (n : Int)) = 4 * (n : Int) := w64 (by omega) (by omega)
      have hmI : 4 + 4 * (n : Int) = (m : Int) := by omega
      have hm0 : 0 ≤ 4 * (n : Int) ∧ 4 * (n : Int) ≤ 65536 := by omega
      obtain ⟨Ad, q1, q2, q3⟩ := print_drop_of (P := Tryd.prog) (Value.int .u8) (0 : Int) 24 5 .i64 Tryd.underlying24 HI5.out HS5.out A c b (m : Int) (by omega) (by omega) HC.out
      simp only [Int.toNat_natCast] at q1 q2 q3
      have q4 := Kd.C_of_reads (h1 := fun _ => rfl) (q2 w (Kd.reads_of_C HR.out))
      obtain ⟨xd, hxd⟩ : ∃ x, b.drop m = x := ⟨_, rfl⟩
      have hxl : xd.length ≤ 65536 := by rw [← hxd, List.length_drop]; omega
      rw [hxd] at q1 q3 q4
      obtain ⟨cd, hcd⟩ : ∃ x, c - m = x := ⟨_, rfl⟩
      rw [hcd] at q1 q3
      have qd := Kd.C_string (P := Tryd.prog) (src := 24) (dst := 9) (c := cd) Tryd.underlying24 Tryd.underlying5 Tryd.underlying9 (Kd.C_below (show (Kd.int .u8).C w Ad xd.length xd from q4) HB2.out)
      obtain ⟨rs, hrs⟩ : ∃ x, strOfNums xd = x := ⟨_, rfl⟩
      rw [hrs] at qd
      have hrz : rs.size ≤ 65536 := by rw [← hrs, size_ofNums]; exact hxl
      have HI0 : Aside0 (indexL b (n - 0) 0 rs [] [] = r) := ⟨by rw [← HRr.out]; unfold indexS; rw [if_neg h4, HN2.out, if_neg hnq, Nat.sub_zero, hm, hxd, hrs]⟩
      have HRZ := Aside0.mk hrz
      have HM := Aside0.mk hm
      have hq4 : 4 + 4 * n ≤ b.length := by rw [hm]; exact hml
      have HQ4 := Aside0.mk hq4
      clear q2 q4 hxd hcd hxl hrs hrz hm hml hq4 hnq h4 HN2 HRr hlen
      go_wp2_with fail
      clear q1 qd q3 hw1 hmI hm0
      go_loopw [2, 3, 6, 29] (fun v2 v3 v6 v29 wr => ∃ (k : Nat) (rest : ByteArray) (ns : List ByteArray) (ps : List Int), v29 = .int .i64 k ∧ v6 = .string rest ∧ Aside0 (k ≤ n) ∧ Aside0 (rest.size ≤ 65536) ∧ Aside0 (indexL b (n - k) k rest ns ps = r) ∧ Aside0 (ns.length = k) ∧ Aside0 (ps.length = k) ∧ Aside0 (Below w.heap.size w wr) ∧ Aside0 (Kd.string.R 9 wr w.heap.size (fun _ => True) v2 ns) ∧ Aside0 ((Kd.int .i64).R 3 wr w.heap.size (fun _ => True) v3 ps)) (fun _ _ _ v29 _ => n - (intOf v29).toNat)
      case atStart => exact ⟨0, rs, [], [], rfl, rfl, ⟨Nat.zero_le _⟩, HRZ, HI0, ⟨rfl⟩, ⟨rfl⟩, HB2, ⟨Kd.R_nil _ _ _ _ _⟩, ⟨Kd.R_nil _ _ _ _ _⟩⟩
      case round =>
        obtain ⟨wl, rfl⟩ : ∃ q, q = wr := ⟨_, rfl⟩
        obtain ⟨k, rest, ns, ps, rfl, rfl, HK, HZ, HX, HNS, HPS, HB, HO, HP⟩ := hrel
        clear HI0 HRZ HB2
        by_cases hk : k < n
        · have hkI : (k : Int) < (n : Int) := by omega
          obtain ⟨f, hf⟩ : ∃ f, n - k = f + 1 := ⟨n - k - 1, by omega⟩
          have hx := HX.out
          rw [hf] at hx
          simp only [indexL] at hx
          have HXX := Aside0.mk hx
          have HF := Aside0.mk hf
          clear hx hf HX
          go_upto_region 10 with fail
          have CC := cut_calls rest (by have := HZ.out; omega)
          have hcz := cutS_size rest
          obtain ⟨⟨s1, s2, fd⟩, hcut⟩ : ∃ x, cutS rest = x := ⟨_, rfl⟩
          rw [hcut] at CC hcz
          have HCT := Aside0.mk hcut
          have HCZ := Aside0.mk hcz
          clear hcut hcz
          simp only [] at CC
          go_wp2_with fail
          refine (CC _).mono ?_
          clear CC
          intro e w3 h3
          obtain ⟨h3, hb3⟩ := h3
          subst h3
          have HB3 : Aside0 (Below w.heap.size w w3) := ⟨HB.out.trans (hb3.mono HB.out.size)⟩
          have HO3 := Aside0.mk (Kd.R_below HO.out hb3)
          have HP3 := Aside0.mk (Kd.R_below HP.out hb3)
          clear HB HO HP hb3
          simp only []
          cases fd with
          | false =>
            obtain rfl : r = ([], [], false) := by rw [← HXX.out, HCT.out, if_neg (fun h => by cases h.1)]
            go_wp2_with fail
            refine bodyPost_ret (v := .tuple #[.slice none 0 0, .slice none 0 0, .bool false]) (by simp [results, Tryd.results31, go_sem]) rfl ?_
            exact ⟨_, _, rfl, Kd.R_nil _ _ _ _ _, Kd.R_nil _ _ _ _ _, HB3.out⟩
          | true =>
            by_cases he : s1 = (⟨#[]⟩ : ByteArray)
            · subst he
              obtain rfl : r = ([], [], false) := by rw [← HXX.out, HCT.out, if_neg (fun h => h.2 rfl)]
              go_wp2_with fail
              refine bodyPost_ret (v := .tuple #[.slice none 0 0, .slice none 0 0, .bool false]) (by simp [results, Tryd.results31, go_sem]) rfl ?_
              exact ⟨_, _, rfl, Kd.R_nil _ _ _ _ _, Kd.R_nil _ _ _ _ _, HB3.out⟩
            · have HX2 : Aside0 (indexL b (n - (k + 1)) (k + 1) s2 (ns ++ [s1]) (ps ++ [bigV b (4 + 4 * k)]) = r) := ⟨by rw [← HXX.out, HCT.out, if_pos ⟨rfl, he⟩, show n - (k + 1) = f by have := HF.out; omega]⟩
              have he0 : ¬ s1.toList = [] := fun h => he (by rw [Lib.toList_data] at h; rw [← Lib.mk_data s1, h])
              have he1 : s1.toList.isEmpty = false := by simpa using he0
              have he2 : (s1.toList == []) = false := by simpa using he0
              go_upto_region 13 with fail
              skip
              clear he he0 he1 he2 HXX HCT
              obtain ⟨k4, hk4⟩ : ∃ x, 4 * k = x := ⟨_, rfl⟩
              obtain ⟨k5, hk5⟩ : ∃ x, 4 + k4 = x := ⟨_, rfl⟩
              have hlen := HL.out
              have hq4 := HQ4.out
              have HW1 : Aside0 (wrap64 (4 * (k : Int)) = (k4 : Int)) := ⟨by rw [w64 (by omega) (by omega)]; omega⟩
              have HW2 : Aside0 (wrap64 (4 + (k4 : Int)) = (k5 : Int)) := ⟨by rw [w64 (by omega) (by omega)]; omega⟩
              have HK5 : Aside0 (k5 + 4 ≤ b.length) := ⟨by omega⟩
              have HK6 : Aside0 (4 + 4 * k = k5) := ⟨by omega⟩
              clear hk4 hk5 hlen hq4
              go_wp2_with (first | ((with_reducible refine gate_builtin (b := .append) (xs := #[.tmp 44, .tmp 46]) rfl ?_); at_builtin; refine Kd.R_append Kd.string (w0 := w) w.heap.size rfl (.tmp 44) (.tmp 46) 56 9 (.string ⟨#[]⟩) 16 rfl Tryd.underlying56 info9 rfl (by decide) (by omega) u2 ns s1 [.string s1] (fun _ => True) (fun _ => False) rfl rfl rfl (fun _ hk => hk.elim) (fun _ _ => trivial) HO3.out HB3.out HB3.out.size (by have := HNS.out; have := HL.out; have := HQ4.out; have := HK.out; omega) ?_; intro v5 w5 ho hb hg hat; have HBn := Aside0.mk hb; have HOn := Aside0.mk ho; have HGn := Aside0.mk hg; clear ho hb hg hat))
              have HP5 := Aside0.mk (Kd.R_over HP3.out HO3.out (by decide) HGn.out)
              have HB5 := HBn
              have HO5 := HOn
              clear HGn HBn HOn HB3 HO3 HP3
              rw [show (4 : Int) + 4 * (k : Int) = ((k5 : Nat) : Int) by have := HK6.out; omega]
              refine (bigB_calls A c b HC.out HBY.out HL.out k5 HK5.out _ (Kd.C_below HR.out HB5.out)).mono ?_
              intro e w6 h6
              obtain ⟨h6, hb6⟩ := h6
              subst h6
              have HB6 : Aside0 (Below w.heap.size w w6) := ⟨HB5.out.trans (hb6.mono HB5.out.size)⟩
              have HO6 := Aside0.mk (Kd.R_below HO5.out hb6)
              have HP6 := Aside0.mk (Kd.R_below HP5.out hb6)
              clear HB5 HO5 HP5 hb6
              obtain ⟨bv, hbv⟩ : ∃ x, bigV b k5 = x := ⟨_, rfl⟩
              rw [hbv]
              have HBV := Aside0.mk hbv
              clear hbv
              simp only []
              go_wp2_with (first | ((with_reducible refine gate_builtin (b := .append) (xs := #[.tmp 48, .tmp 54]) rfl ?_); at_builtin; refine Kd.R_append (Kd.int .i64) (w0 := w) w.heap.size rfl (.tmp 48) (.tmp 54) 45 3 (.int .i64 0) 8 rfl Tryd.underlying45 info3 rfl (by decide) (by omega) u3 ps bv [.int .i64 bv] (fun _ => True) (fun _ => False) rfl rfl rfl (fun _ hk => hk.elim) (fun _ _ => trivial) HP6.out HB6.out HB6.out.size (by have := HPS.out; have := HL.out; have := HQ4.out; have := HK.out; omega) ?_; intro v7 w7 ho hb hg hat; have HBn := Aside0.mk hb; have HOn := Aside0.mk ho; have HGn := Aside0.mk hg; clear ho hb hg hat))
              have HO7 := Aside0.mk (Kd.R_over HO6.out HP6.out (by decide) HGn.out)
              have HB7 := HBn
              have HP7 := HOn
              clear HGn HBn HOn HB6 HO6 HP6
              refine ⟨⟨k + 1, s2, ns ++ [s1], ps ++ [bv], by first | rfl | exact int_eq (by omega), rfl, ⟨hk⟩, ⟨by have := HCZ.out.2; have := HZ.out; omega⟩, ⟨by rw [← HBV.out, ← HK6.out]; exact HX2.out⟩, ⟨by rw [List.length_append, HNS.out]; rfl⟩, ⟨by rw [List.length_append, HPS.out]; rfl⟩, HB7, HO7, HP7⟩, ?_⟩
              simp only [intOf]
              omega
        · obtain rfl : r = (ns, ps, decide (rest = ⟨#[]⟩)) := by rw [← HX.out, show n - k = 0 by omega]; try rfl
          have hkI : ¬ (k : Int) < (n : Int) := by omega
          by_cases he : rest = (⟨#[]⟩ : ByteArray)
          · subst he
            obtain ⟨A8, c8, hv8, _, _⟩ := Kd.R_reads HO.out
            subst hv8
            obtain ⟨A9, c9, hv9, _, _⟩ := Kd.R_reads HP.out
            subst hv9
            go_wp2_with fail
            refine bodyPost_ret (v := .tuple #[.slice A8 ns.length c8, .slice A9 ps.length c9, .bool true]) (by simp [results, Tryd.results31, go_sem]) rfl ?_
            exact ⟨_, _, rfl, HO.out, HP.out, HB.out⟩
          · have he0 : ¬ rest.toList = [] := fun h => he (by rw [Lib.toList_data] at h; rw [← Lib.mk_data rest, h])
            have he1 : rest.toList.isEmpty = false := by simpa using he0
            have he2 : (rest.toList == []) = false := by simpa using he0
            obtain ⟨A8, c8, hv8, _, _⟩ := Kd.R_reads HO.out
            subst hv8
            obtain ⟨A9, c9, hv9, _, _⟩ := Kd.R_reads HP.out
            subst hv9
            go_wp2_with fail
            refine bodyPost_ret (v := .tuple #[.slice A8 ns.length c8, .slice A9 ps.length c9, .bool false]) (by simp [results, Tryd.results31, go_sem]) rfl ?_
            exact ⟨_, _, rfl, HO.out, HP.out, HB.out⟩
end Go.Proofs.YtdjmahmbofhnpaaDoor.Ar
