/- ar.Put by contract: putS. -/
import Derived.Test.YtdjmahmbofhnpaaDoorQArMO
import Derived.Test.YtdjmahmbofhnpaaDoorQArB
import Derived.Test.YtdjmahmbofhnpaaDoorQArx12
import Derived.Deep.Light
import Derived.WideMake
namespace Go.Proofs.YtdjmahmbofhnpaaDoor.Ar
open Go.RowKit Go.Maps Go.WideMaps Go.Proofs.YtdjmahmbofhnpaaDoorW.PrintWords Go.Proofs.YtdjmahmbofhnpaaDoorW.PrintLast Go.Proofs.YtdjmahmbofhnpaaDoor.QAr
set_option linter.unusedVariables false
set_option linter.unusedSimpArgs false
theorem name_calls (s : ByteArray) (hs : s.size ≤ 9223372036854775807) (w : World) : Calls Tryd.prog 20 #[.string s] w fun e w' => e = .returned (.bool (nameOk s)) ∧ Below w.heap.size w w' := by
  obtain ⟨K, hK⟩ := arName_f s hs
  exact (ar_name.calls K s _ w hK).mono fun e w' h => ⟨h.1, h.2.below⟩
theorem contains_calls (s : ByteArray) (w : World) : Calls Tryd.prog 21 #[.string s, .string ⟨#[0]⟩] w fun e w' => e = .returned (.bool (zeroIn s)) ∧ w' = w := by
  have h := Tryd.strings_Contains_one s 0 w
  rw [contains_zero] at h
  exact h
theorem bigF (n : Nat) : ar_bigBytes.f (n : Int) = some (bigB n) := by
  unfold ar_bigBytes.f bigB
  congr 1
theorem big_calls (n : Nat) (w : World) : Calls Tryd.prog 23 #[.int .i64 (n : Int)] w fun e w' => ∃ v0_ : Value, e = .returned (v0_) ∧ Kd.R (Kd.int .u8) 5 w' w.heap.size (fun _ => True) v0_ (bigB n) ∧ Below w.heap.size w w' :=
  ar_bigBytes.calls _ _ w (bigF n)
structure KeepA (w wr : World) (l : List S39) (i : Nat) (ns : List ByteArray) : Prop where
  is : nSt l i = some ns
  map : MapB wr w.heap.size ns
  below : Below w.heap.size w wr
theorem KeepA.lower {w wr w' : World} {l : List S39} {i : Nat} {ns : List ByteArray} (h : KeepA w wr l i ns) (hb : Below wr.heap.size wr w') : KeepA w w' l i ns := ⟨h.is, h.map.below hb, h.below.trans (hb.mono h.below.size)⟩
theorem turned_below {w wr w3 : World} (h : Below w.heap.size w wr) (ht : wr.mapTurned w3 w.heap.size) : Below w.heap.size w w3 := by
  exact pw_below_grown h _ h.size ht.grown (fun q hq => by cases hq; exact Nat.le_refl _)
theorem cell_alloc0 {w : World} {a : Addr} {v : Value} (h : w.cell? a = some v) (ob : Obj) : (w.alloc ob).cell? a = some v := pw_cell_below (below_alloc (Below.refl _ _) ob) h
theorem meas {n i : Nat} {z : Int} (h : i < n) (e : z = ((i + 1 : Nat) : Int)) : n - (intOf (.int .i64 z)).toNat < n - (intOf (.int .i64 (i : Int))).toNat := by subst e; simp only [intOf, Int.toNat_natCast]; omega
theorem mem_mM (l : List S39) (i : Nat) (h : i < l.length) : (l.getD i z39).f0.size + (l.getD i z39).f1.length + 200 ≤ mM l := by
  have h1 := mM_snoc (l.take i) (l.getD i z39)
  have h2 : l.take i ++ [l.getD i z39] = l.take (i + 1) := by rw [List.take_succ_eq_append_getElem h, List.getD_eq_getElem?_getD, List.getElem?_eq_getElem h]; rfl
  rw [h2] at h1
  have := mM_take l (i + 1)
  omega
theorem mem_mX (l : List S43) (i : Nat) (h : i < l.length) : (l.getD i z43).f0.size + 200 ≤ mX l := by
  have h1 := mX_snoc (l.take i) (l.getD i z43)
  have h2 : l.take i ++ [l.getD i z43] = l.take (i + 1) := by rw [List.take_succ_eq_append_getElem h, List.getD_eq_getElem?_getD, List.getElem?_eq_getElem h]; rfl
  rw [h2] at h1
  have := mX_take l (i + 1)
  omega
theorem toList_ne {s : ByteArray} (h : ¬ s = ⟨#[]⟩) : ¬ s.toList = [] := fun e => h (by rw [Lib.toList_data] at e; rw [← Lib.mk_data s, e])
theorem w64 {z : Int} (h1 : -9223372036854775808 ≤ z) (h2 : z ≤ 9223372036854775807) : wrap64 z = z := by unfold wrap64; omega
theorem int_eq {a b : Int} (h : a = b) : Value.int .i64 a = .int .i64 b := by rw [h]
theorem putS_names (l : List S39) (x : List S43) (h : namesOk l = false) : putS l x = ([], 2) := by unfold putS; rw [h]; exact if_pos rfl
theorem putS_index (l : List S39) (x : List S43) (h : namesOk l = true) (h2 : x.all (idxOk l) = false) : putS l x = ([], 2) := by unfold putS; rw [h, h2, if_neg (by simp)]; exact if_pos rfl
theorem putS_long (l : List S39) (x : List S43) (h : namesOk l = true) (h2 : x.all (idxOk l) = true) (h3 : 65536 < after (first x) l) : putS l x = ([], 3) := by unfold putS; rw [h, h2, if_neg (by simp), if_neg (by simp), if_pos h3]
theorem putS_fine (l : List S39) (x : List S43) (h : namesOk l = true) (h2 : x.all (idxOk l) = true) (h3 : ¬ 65536 < after (first x) l) : putS l x = (l.foldl addM (startB l x), 0) := by unfold putS; rw [h, h2, if_neg (by simp), if_neg (by simp), if_neg h3]
theorem idx_cases (l : List S39) (y : S43) : (y.f1 < 0 ∧ idxOk l y = false) ∨ (¬ y.f1 < 0 ∧ (l.length : Int) ≤ y.f1 ∧ idxOk l y = false) ∨ (¬ y.f1 < 0 ∧ ¬ (l.length : Int) ≤ y.f1 ∧ y.f0 = ⟨#[]⟩ ∧ idxOk l y = false) ∨ (¬ y.f1 < 0 ∧ ¬ (l.length : Int) ≤ y.f1 ∧ ¬ y.f0 = ⟨#[]⟩ ∧ idxOk l y = !(zeroIn y.f0)) := by
  unfold idxOk
  by_cases h1 : y.f1 < 0
  · left; refine ⟨h1, ?_⟩; rw [decide_eq_false (by omega)]; rfl
  by_cases h2 : (l.length : Int) ≤ y.f1
  · right; left; refine ⟨h1, h2, ?_⟩; rw [decide_eq_false (p := y.f1 < (l.length : Int)) (by omega)]; simp
  right; right
  have e1 : decide (0 ≤ y.f1) = true := decide_eq_true (by omega)
  have e2 : decide (y.f1 < (l.length : Int)) = true := decide_eq_true (by omega)
  by_cases h3 : y.f0 = (⟨#[]⟩ : ByteArray)
  · left; exact ⟨h1, h2, h3, by rw [e1, e2, decide_eq_false (by simpa using h3)]; rfl⟩
  right; exact ⟨h1, h2, h3, by rw [e1, e2, decide_eq_true (by simpa using h3)]; simp⟩
theorem all_take (p : S43 → Bool) (x : List S43) (i : Nat) (h : i < x.length) (h0 : (x.take i).all p = true) (hp : p (x.getD i z43) = true) : (x.take (i + 1)).all p = true := by
  rw [List.take_succ_eq_append_getElem h, List.all_append, h0]
  rw [List.getD_eq_getElem?_getD, List.getElem?_eq_getElem h] at hp
  simpa using hp
theorem all_at (p : S43 → Bool) (x : List S43) (i : Nat) (h : i < x.length) (hp : p (x.getD i z43) = false) : x.all p = false := by
  rw [List.all_eq_false]
  refine ⟨x.getD i z43, ?_, by rw [hp]; simp⟩
  rw [List.getD_eq_getElem?_getD, List.getElem?_eq_getElem h]
  exact List.getElem_mem h
theorem info3 : (Tryd.prog.info? 3).map (fun i => (i.zero, i.size, i.bytes)) = some (some (.int .i64 0), 1, 8) := by kernel_rfl
/-- The places of the names that are in front. -/
def idxB (l : List S39) (x : List S43) (q : Nat) : List Int := (x.take q).flatMap fun i => bigB ((places (first x) l).getD i.f1.toNat 0)
theorem idxB_zero (l : List S39) (x : List S43) : idxB l x 0 = [] := rfl
theorem idxB_succ (l : List S39) (x : List S43) (q : Nat) (h : q < x.length) : idxB l x (q + 1) = idxB l x q ++ bigB ((places (first x) l).getD (x.getD q z43).f1.toNat 0) := by
  unfold idxB
  have e : x.getD q z43 = x[q] := by rw [List.getD_eq_getElem?_getD, List.getElem?_eq_getElem h]; rfl
  rw [List.take_succ_eq_append_getElem h, List.flatMap_append, e]
  simp
theorem idxB_len (l : List S39) (x : List S43) (q : Nat) (h : q ≤ x.length) : (idxB l x q).length = 4 * q := by
  induction q with
  | zero => rfl
  | succ q ih => rw [idxB_succ l x q h, List.length_append, ih (by omega)]; show 4 * q + 4 = _; omega
theorem idx_at (l : List S39) (x : List S43) (q : Nat) (h : q < x.length) (ha : x.all (idxOk l) = true) : 0 ≤ (x.getD q z43).f1 ∧ (x.getD q z43).f1 < l.length := by
  have := List.all_eq_true.1 ha (x.getD q z43) (by rw [List.getD_eq_getElem?_getD, List.getElem?_eq_getElem h]; exact List.getElem_mem h)
  unfold idxOk at this
  simp only [Bool.and_eq_true, decide_eq_true_eq] at this
  exact ⟨this.1.1.1, this.1.1.2⟩
theorem getD_map (p : List Nat) (j : Nat) (h : j < p.length) : (p.map (fun (n : Nat) => (n : Int))).getD j 0 = ((p.getD j 0 : Nat) : Int) := by
  rw [List.getD_eq_getElem?_getD, List.getD_eq_getElem?_getD, List.getElem?_map, List.getElem?_eq_getElem h]; rfl
theorem at_N {w : World} {A : Option Addr} {n : Nat} {xs : List Int} (h : Kd.C (Kd.int .i64) w A n xs) (i : Nat) (h1 : i < n) : ∃ ad, A = some ad ∧ w.cell? (ad.add i) = some (.int .i64 (xs.getD i 0)) := by
  obtain ⟨ad, c, e, _, hK, hc0⟩ := Kd.C_get h (0 : Int) (i : Int) (by omega) (by omega)
  have hK2 : c = [.int .i64 (xs.getD (i : Int).toNat 0)] := hK
  have h2 := hc0 0 _ (by rw [hK2]; rfl)
  rw [Int.toNat_natCast] at h2
  have h3 : w.cell? (ad.add (i * 1 + 0)) = some (.int .i64 (xs.getD i 0)) := h2
  rw [show i * 1 + 0 = i by omega] at h3
  exact ⟨ad, e, h3⟩
theorem headS_size (s : ByteArray) (n : Nat) (hn : n ≤ 9223372036854775807) : (headS s n).size ≤ s.size + 90 := by
  have h := decS_size n hn
  have z : z1.size = 1 := rfl
  have t : (⟨#[96, 10]⟩ : ByteArray).size = 2 := rfl
  unfold headS
  simp only [ByteArray.size_append, padS_size, z, t]
  omega
theorem headS_pos (s : ByteArray) (n : Nat) : 0 < (headS s n).size := by
  have t : (⟨#[96, 10]⟩ : ByteArray).size = 2 := rfl
  unfold headS
  rw [ByteArray.size_append, t]
  omega
theorem addM_len (o : List Int) (m : S39) (h : m.f1.length ≤ 9223372036854775807) : (addM o m).length ≤ o.length + (m.f0.size + m.f1.length + 200) := by
  have h1 := headS_size (m.f0 ++ (⟨#[47]⟩ : ByteArray)) m.f1.length h
  have z : (⟨#[47]⟩ : ByteArray).size = 1 := rfl
  rw [ByteArray.size_append, z] at h1
  unfold addM
  rw [List.length_append, List.length_append, tb_len]
  split
  · rw [List.length_append]; show o.length + 1 + _ + _ ≤ _; omega
  omega
theorem fold_take (l : List S39) (s0 : List Int) (i : Nat) (h : i < l.length) : (l.take (i + 1)).foldl addM s0 = addM ((l.take i).foldl addM s0) (l.getD i z39) := by
  rw [List.take_succ_eq_append_getElem h, List.foldl_append, List.getD_eq_getElem?_getD, List.getElem?_eq_getElem h]; rfl
theorem fold_len (l : List S39) (s0 : List Int) (hm : mM l ≤ 9223372036854775807) : ∀ i, i ≤ l.length → ((l.take i).foldl addM s0).length ≤ s0.length + mM (l.take i) := by
  intro i
  induction i with
  | zero => intro _; exact Nat.le_add_right _ _
  | succ i ih =>
    intro h
    have h2 := mem_mM l i h
    rw [fold_take l s0 i h]
    have h1 := addM_len ((l.take i).foldl addM s0) (l.getD i z39) (by omega)
    have h3 := mM_snoc (l.take i) (l.getD i z39)
    have h4 : l.take i ++ [l.getD i z39] = l.take (i + 1) := by rw [List.take_succ_eq_append_getElem h, List.getD_eq_getElem?_getD, List.getElem?_eq_getElem h]; rfl
    rw [h4] at h3
    have := ih (by omega)
    omega
attribute [local go_sem] run_makeMap_plain
def T8_45 : Bool × List (List Nat × List Nat) := (true, [([], []), ([], []), ([1], [1]), ([2], [2]), ([], []), ([4], [4]), ([5], [5]), ([3, 6], [3, 6]), ([0, 7, 7], [0, 7]), ([], []), ([9], [9]), ([8, 10, 8], [8, 10]), ([11, 11, 0, 1, 2, 3, 4, 5, 6, 7, 8, 9, 10, 11], [0, 11])])
theorem tab8_45 : rtab .any (opsOf Tryd.f8 45) = T8_45 := by kernel_rfl
def B8_45 : List Nat := [0, 0, 2, 6, 0, 16, 48, 126, 255, 0, 512, 2047, 4095]
theorem bits8_45 : waitsOk T8_45.2 B8_45 = true := by kernel_rfl
set_option maxRecDepth 100000 in
set_option maxHeartbeats 16000000 in
theorem put_calls (A : Option Addr) (c : Nat) (l : List S39) (hc : l.length ≤ c) (A1 : Option Addr) (c1 : Nat) (x : List S43) (hc1 : x.length ≤ c1) (hm : mM l ≤ 1099511627776) (hx : mX x ≤ 1099511627776) (w : World) (hv : Vars w) (hr : Kd.C k39 w A l.length l) (hr1 : Kd.C k43 w A1 x.length x) :
    Calls Tryd.prog 8 #[.slice A l.length c, .slice A1 x.length c1] w fun e w' => ∃ v, e = .returned (.tuple #[v, .int .i64 (putS l x).2]) ∧ Out w' w.heap.size v (putS l x).1 ∧ Below w.heap.size w w' := by
  have HR := Aside0.mk hr
  have HR1 := Aside0.mk hr1
  have HV := Aside0.mk hv
  have HM := Aside0.mk hm
  have HX := Aside0.mk hx
  have hLL := len_mM l
  have hXX := len_mX x
  have hLn : l.length ≤ 5497558139 := by omega
  have hXn : x.length ≤ 5497558139 := by omega
  have HLn := Aside0.mk hLn
  have HXn := Aside0.mk hXn
  obtain ⟨r, hrr⟩ : ∃ r, putS l x = r := ⟨_, rfl⟩
  rw [hrr]
  have HRr := Aside0.mk hrr
  clear hr hr1 hv hm hx hLL hXX hLn hXn hrr hc hc1
  go_enter Tryd.func8, Tryd.ntmps8
  go_wp2_with fail
  go_loopw [24] (fun v24 wr => ∃ i : Nat, v24 = .int .i64 i ∧ Aside0 (i ≤ l.length) ∧ ∃ ns, Aside0 (KeepA w wr l i ns)) (fun v24 _ => l.length - (intOf v24).toNat)
  case atStart => exact ⟨0, rfl, ⟨Nat.zero_le _⟩, [], ⟨⟨rfl, MapB.made _, (Below.refl _ _).alloc (Nat.le_refl _) _⟩⟩⟩
  case round =>
    obtain ⟨wo, rfl⟩ : ∃ q, q = wr := ⟨_, rfl⟩
    obtain ⟨i, rfl, HI, ns, HK0⟩ := hrel
    have hlen := HLn.out
    by_cases hi : i < l.length
    · have hiI : (i : Int) < (l.length : Int) := by omega
      have HWI : Aside0 (wrap64 ((i : Int) + 1) = ((i + 1 : Nat) : Int)) := ⟨by unfold wrap64; omega⟩
      obtain ⟨ad, A2, c2, rfl, e0, e1, _, _⟩ := at_T39 (Kd.C_below HR.out HK0.out.below) (i : Int) (by omega) hiI
      obtain ⟨y, hy⟩ : ∃ y, rd_T39 l (i : Int) = y := ⟨_, rfl⟩
      rw [hy] at e0 e1
      have hyg : l.getD i z39 = y := by rw [← hy]; unfold rd_T39; rw [Int.toNat_natCast]
      have HYG := Aside0.mk hyg
      have hyz := mem_mM l i hi
      rw [hyg] at hyz
      have hyz2 : y.f0.size ≤ 9223372036854775807 := by have := HM.out; omega
      have HYZ := Aside0.mk hyz2
      rw [Int.toNat_natCast] at e0 e1
      clear hy hyg hyz hyz2 hlen
      go_upto_region 5 with fail
      clear e0 e1
      generalize hwb : wo.alloc (.cells #[.string y.f0, .slice A2 y.f1.length c2] 39 (0, 0)) = wb
      have HKB : Aside0 (KeepA w wb l i ns) := ⟨by rw [← hwb]; exact HK0.out.lower (below_alloc (Below.refl _ _) _)⟩
      have b0 : wb.cell? ⟨wo.heap.size, 0, none⟩ = some (.string y.f0) := by rw [← hwb]; exact blk_cell (heap_alloc_new _ _) 0
      have HB0 := Aside0.mk b0
      clear hwb
      obtain ⟨ok, hok⟩ : ∃ b, nameOk y.f0 = b := ⟨_, rfl⟩
      have HOK := Aside0.mk hok
      have NC := Aside0.mk (fun w => name_calls y.f0 HYZ.out w)
      simp only [hok] at NC
      have hstep : nSt l (i + 1) = nst (some ns) y := by rw [nSt_succ l i hi, HKB.out.is, HYG.out]
      have HST := Aside0.mk hstep
      clear hok hstep HK0
      go_wp2_with fail
      refine (NC.out _).mono ?_
      clear NC
      intro e w2 h2
      obtain ⟨h2, hb2⟩ := h2
      subst h2
      have HK2 : Aside0 (KeepA w w2 l i ns) := ⟨HKB.out.lower hb2⟩
      have b2 := pw_cell_below hb2 HB0.out
      clear b0 HKB hb2
      have hl := HK2.out.map.look (s := y.f0) HYZ.out
      have hl' : (Instr.lookup 40 (.map (some w.heap.size)) (.string y.f0) false).run Tryd.prog w2 = .ok (.bool (seenB ns y.f0)) w2 := hl
      clear hl
      obtain ⟨w3, hst, hm3, ht3⟩ := HK2.out.map.store y.f0 HYZ.out (by have := nSt_len l i ns HK2.out.is; have := HLn.out; unfold maxLen; omega)
      have HB3 : Aside0 (Below w.heap.size w w3) := ⟨turned_below HK2.out.below ht3⟩
      have HM3 := Aside0.mk hm3
      clear hm3 ht3
      obtain ⟨se, hse⟩ : ∃ b, seenB ns y.f0 = b := ⟨_, rfl⟩
      rw [hse] at hl'
      have HSE := Aside0.mk hse
      clear hse
      cases ok with
      | false =>
        obtain rfl : r = ([], 2) := HRr.out.symm.trans (by exact putS_names l x (nSt_stop l (i + 1) (by rw [HST.out, nst_some, HOK.out]; rfl) hi))
        go_wp2_with fail
        refine bodyPost_ret (v := .tuple #[.slice none 0 0, .int .i64 2]) (by simp [results, Tryd.results8, go_sem]) rfl ?_
        exact ⟨_, rfl, .inl (Kd.R_nil _ _ _ _ _), HK2.out.below⟩
      | true =>
        cases se with
        | true =>
          obtain rfl : r = ([], 2) := HRr.out.symm.trans (by exact putS_names l x (nSt_stop l (i + 1) (by rw [HST.out, nst_some, HOK.out, HSE.out]; rfl) hi))
          go_wp2_with fail
          refine bodyPost_ret (v := .tuple #[.slice none 0 0, .int .i64 2]) (by simp [results, Tryd.results8, go_sem]) rfl ?_
          exact ⟨_, rfl, .inl (Kd.R_nil _ _ _ _ _), HK2.out.below⟩
        | false =>
          go_wp2_with fail
          refine ⟨⟨i + 1, by rw [HWI.out], ⟨hi⟩, ns ++ [y.f0], ⟨⟨by rw [HST.out, nst_some, HOK.out, HSE.out]; rfl, HM3.out HSE.out, HB3.out⟩⟩⟩, meas hi HWI.out⟩
    have hin : i = l.length := by have := HI.out; omega
    have hiI : ¬ ((i : Int) < (l.length : Int)) := by omega
    have HNO : Aside0 (namesOk l = true) := ⟨by unfold namesOk; rw [← hin, HK0.out.is]; rfl⟩
    have HBL : Aside0 (Below w.heap.size w wo) := ⟨HK0.out.below⟩
    clear HK0 HI hin hi
    go_wp2_with fail
    go_loopw [9, 44] (fun v9 v44 wr => ∃ j : Nat, v44 = .int .i64 j ∧ v9 = .string (nmS (x.take j)) ∧ Aside0 (j ≤ x.length) ∧ Aside0 ((x.take j).all (idxOk l) = true) ∧ Aside0 (Below w.heap.size w wr)) (fun _ v44 _ => x.length - (intOf v44).toNat)
    case atStart => exact ⟨0, rfl, rfl, ⟨Nat.zero_le _⟩, ⟨rfl⟩, HBL⟩
    case round =>
      obtain ⟨wl, rfl⟩ : ∃ q, q = wr := ⟨_, rfl⟩
      obtain ⟨j, rfl, rfl, HJ, HA, HB⟩ := hrel
      have hlen := HXn.out
      obtain ⟨nm, hnm⟩ : ∃ nm, nmS (x.take j) = nm := ⟨_, rfl⟩
      rw [hnm]
      have hns : nm.size ≤ 1099511627776 := by have h1 := nmS_size (x.take j); have h2 := mX_take x j; have h3 := HX.out; rw [hnm] at h1; omega
      have HNM := Aside0.mk hnm
      have HNS := Aside0.mk hns
      clear hnm hns HBL
      by_cases hj : j < x.length
      · have hjI : (j : Int) < (x.length : Int) := by omega
        have HWJ : Aside0 (wrap64 ((j : Int) + 1) = ((j + 1 : Nat) : Int)) := ⟨by unfold wrap64; omega⟩
        obtain ⟨ad, rfl, e0, e1⟩ := at_T43 (Kd.C_below HR1.out HB.out) (j : Int) (by omega) hjI
        obtain ⟨y, hy⟩ : ∃ y, rd_T43 x (j : Int) = y := ⟨_, rfl⟩
        rw [hy] at e0 e1
        rw [Int.toNat_natCast] at e0 e1
        have hyg : x.getD j z43 = y := by rw [← hy]; unfold rd_T43; rw [Int.toNat_natCast]
        have HYG := Aside0.mk hyg
        have hyz := mem_mX x j hj
        rw [hyg] at hyz
        have hx2 := HX.out
        have hns := HNS.out
        have nq1 : ¬ (9223372036854775807 < y.f0.size + 1) := by omega
        have nq2 : ¬ (9223372036854775807 < nm.size + (y.f0.size + 1)) := by omega
        have CC := Aside0.mk (fun w => contains_calls y.f0 w)
        clear hy hyg hyz hx2 hns hlen
        go_upto_region 13 with fail
        clear e0 e1
        generalize hwb : wl.alloc (.cells #[.string y.f0, .int .i64 y.f1] 43 (0, 0)) = wb
        have HBB : Aside0 (Below w.heap.size w wb) := ⟨by rw [← hwb]; exact below_alloc HB.out _⟩
        have b0 : wb.cell? ⟨wl.heap.size, 0, none⟩ = some (.string y.f0) := by rw [← hwb]; exact blk_cell (heap_alloc_new _ _) 0
        have b1 : wb.cell? ⟨wl.heap.size, 1, none⟩ = some (.int .i64 y.f1) := by rw [← hwb]; exact blk_cell (heap_alloc_new _ _) 1
        clear hwb
        rcases idx_cases l y with ⟨h1, hbad⟩ | ⟨h1, h2, hbad⟩ | ⟨h1, h2, h3, hbad⟩ | ⟨h1, h2, h3, hbad⟩
        · obtain rfl : r = ([], 2) := HRr.out.symm.trans (putS_index l x HNO.out (all_at (idxOk l) x j hj (by rw [HYG.out]; exact hbad)))
          clear hbad
          go_wp2_with fail
          refine bodyPost_ret (v := .tuple #[.slice none 0 0, .int .i64 2]) (by simp [results, Tryd.results8, go_sem]) rfl ?_
          exact ⟨_, rfl, .inl (Kd.R_nil _ _ _ _ _), HBB.out⟩
        · obtain rfl : r = ([], 2) := HRr.out.symm.trans (putS_index l x HNO.out (all_at (idxOk l) x j hj (by rw [HYG.out]; exact hbad)))
          clear hbad
          go_wp2_with fail
          refine bodyPost_ret (v := .tuple #[.slice none 0 0, .int .i64 2]) (by simp [results, Tryd.results8, go_sem]) rfl ?_
          exact ⟨_, rfl, .inl (Kd.R_nil _ _ _ _ _), HBB.out⟩
        · rw [h3] at b0
          clear h3 nq1 nq2
          obtain rfl : r = ([], 2) := HRr.out.symm.trans (putS_index l x HNO.out (all_at (idxOk l) x j hj (by rw [HYG.out]; exact hbad)))
          clear hbad
          go_wp2_with fail
          refine bodyPost_ret (v := .tuple #[.slice none 0 0, .int .i64 2]) (by simp [results, Tryd.results8, go_sem]) rfl ?_
          exact ⟨_, rfl, .inl (Kd.R_nil _ _ _ _ _), HBB.out⟩
        have h5 := toList_ne h3
        have h6 : y.f0.toList.isEmpty = false := by simpa using h5
        obtain ⟨zz, hzz⟩ : ∃ b, zeroIn y.f0 = b := ⟨_, rfl⟩
        rw [hzz] at hbad
        simp only [hzz] at CC
        clear hzz
        have HID := Aside0.mk hbad
        clear hbad
        go_wp2_with fail
        refine (CC.out _).mono ?_
        rintro e w2 ⟨rfl, rfl⟩
        cases zz with
        | true =>
          have hbad := HID.out
          obtain rfl : r = ([], 2) := HRr.out.symm.trans (putS_index l x HNO.out (all_at (idxOk l) x j hj (by rw [HYG.out]; exact hbad)))
          clear hbad
          go_wp2_with fail
          refine bodyPost_ret (v := .tuple #[.slice none 0 0, .int .i64 2]) (by simp [results, Tryd.results8, go_sem]) rfl ?_
          exact ⟨_, rfl, .inl (Kd.R_nil _ _ _ _ _), HBB.out⟩
        | false =>
          go_wp2_with fail
          refine ⟨?_, meas hj HWJ.out⟩
          refine Exists.intro (j + 1) ?_
          rw [nmS_take x j hj, HNM.out, HYG.out, HWJ.out]
          exact ⟨rfl, rfl, ⟨hj⟩, ⟨all_take (idxOk l) x j hj HA.out (by rw [HYG.out]; exact HID.out)⟩, HBB⟩
      have hjn : j = x.length := by have := HJ.out; omega
      have hjI : ¬ ((j : Int) < (x.length : Int)) := by omega
      have HAL : Aside0 (x.all (idxOk l) = true) := ⟨by have := HA.out; rwa [hjn, List.take_length] at this⟩
      have HNX : Aside0 (nmS x = nm) := ⟨by rw [← HNM.out, hjn, List.take_length]⟩
      clear HA HNM HJ hjn hj hlen
      have HF0 : Aside0 (first x ≤ 40000000000000) := ⟨by have h1 := nmS_size x; have h2 := len_mX x; have h3 := HX.out; unfold first namesB; rw [tb_len]; split <;> omega⟩
      by_cases hxe : x = []
      · have hgt : ¬ (0 : Int) < (x.length : Int) := by rw [hxe]; simp
        have HFX : Aside0 (first x = 8) := ⟨by unfold first; rw [if_pos hxe]⟩
        go_wp2_with fail
        go_loopw [12, 13, 88] (fun v12 v13 v88 wr => ∃ i : Nat, v88 = .int .i64 i ∧ v12 = .int .i64 ((after (first x) (l.take i) : Nat) : Int) ∧ Aside0 (i ≤ l.length) ∧ Aside0 (Below w.heap.size w wr) ∧ Aside0 ((Kd.int .i64).R 3 wr w.heap.size (fun _ => True) v13 ((places (first x) (l.take i)).map fun (n : Nat) => (n : Int)))) (fun _ _ v88 _ => l.length - (intOf v88).toNat)
        case atStart => exact ⟨0, rfl, int_eq (by show _ = ((first x : Nat) : Int); have := HX.out; have := HNS.out; have := HXn.out; rw [HFX.out]; omega), ⟨Nat.zero_le _⟩, HB, ⟨Kd.R_nil _ _ _ _ _⟩⟩
        case round =>
          obtain ⟨wp, rfl⟩ : ∃ q, q = wr := ⟨_, rfl⟩
          obtain ⟨k, rfl, rfl, HKI, HBP, HPL⟩ := hrel
          have hlen := HLn.out
          obtain ⟨a, ha⟩ : ∃ a, after (first x) (l.take k) = a := ⟨_, rfl⟩
          rw [ha]
          have hal : a ≤ 42000000000000 := by have h1 := after_le (first x) (l.take k); have h2 := mM_take l k; have h3 := HM.out; have h4 := HF0.out; omega
          have HAA := Aside0.mk ha
          have HAL2 := Aside0.mk hal
          clear ha HB
          by_cases hk : k < l.length
          · have hkI : (k : Int) < (l.length : Int) := by omega
            have HWK : Aside0 (wrap64 ((k : Int) + 1) = ((k + 1 : Nat) : Int)) := ⟨by unfold wrap64; omega⟩
            obtain ⟨ad, A2, c2, rfl, e0, e1, _, _⟩ := at_T39 (Kd.C_below HR.out HBP.out) (k : Int) (by omega) hkI
            obtain ⟨y, hy⟩ : ∃ y, rd_T39 l (k : Int) = y := ⟨_, rfl⟩
            rw [hy] at e0 e1
            rw [Int.toNat_natCast] at e0 e1
            have hyg : l.getD k z39 = y := by rw [← hy]; unfold rd_T39; rw [Int.toNat_natCast]
            have HYG := Aside0.mk hyg
            have hyz := mem_mM l k hk
            rw [hyg] at hyz
            have HYZ : Aside0 (y.f1.length ≤ 1099511627776) := ⟨by have := HM.out; omega⟩
            clear hy hyg hyz hlen hal
            go_upto_region 25 with fail
            clear e0 e1
            have he : wrap64 ((a : Int) + (a : Int) % 2) = ((even a : Nat) : Int) := by have := HAL2.out; unfold wrap64 even; omega
            rw [he]
            have HAE : Aside0 (after (first x) (l.take (k + 1)) = even a + (60 + y.f1.length)) := ⟨by rw [after_take _ _ _ hk, HAA.out, HYG.out]⟩
            have HPA : Aside0 ((places (first x) (l.take (k + 1))).map (fun (n : Nat) => (n : Int)) = (places (first x) (l.take k)).map (fun (n : Nat) => (n : Int)) ++ [((even a : Nat) : Int)]) := ⟨by rw [places_take _ _ _ hk, List.map_append, HAA.out]; rfl⟩
            have hpl : ((places (first x) (l.take k)).map (fun (n : Nat) => (n : Int))).length ≤ 5497558139 := by have := HLn.out; rw [List.length_map, places_len, List.length_take]; omega
            have hel : even a ≤ 42000000000001 := by have := HAL2.out; unfold even; omega
            obtain ⟨ps, hps⟩ : ∃ p, (places (first x) (l.take k)).map (fun (n : Nat) => (n : Int)) = p := ⟨_, rfl⟩
            rw [hps] at HPL HPA hpl
            obtain ⟨ea, hea⟩ : ∃ p, even a = p := ⟨_, rfl⟩
            rw [hea] at HAE HPA hel ⊢
            have HPN := Aside0.mk hpl
            have HEL := Aside0.mk hel
            clear he hps hea hpl hel
            generalize hwb : wp.alloc (.cells #[.string y.f0, .slice A2 y.f1.length c2] 39 (0, 0)) = wb
            have HBB : Aside0 (Below w.heap.size w wb) := ⟨by rw [← hwb]; exact below_alloc HBP.out _⟩
            have HPB : Aside0 ((Kd.int .i64).R 3 wb w.heap.size (fun _ => True) u13 ps) := ⟨by rw [← hwb]; exact Kd.R_alloc HPL.out _⟩
            have HBK : Aside0 (wb.heap[wp.heap.size]? = some (.cells #[.string y.f0, .slice A2 y.f1.length c2] 39 (0, 0))) := ⟨by rw [← hwb]; exact heap_alloc_new _ _⟩
            clear hwb HPL HBP
            go_wp2_with (first | ((with_reducible refine gate_builtin (b := .append) (xs := #[.tmp 96, .tmp 98]) rfl ?_); at_builtin; refine Kd.R_append (Kd.int .i64) (w0 := w) w.heap.size rfl (.tmp 96) (.tmp 98) 45 3 (.int .i64 0) 8 rfl Tryd.underlying45 info3 rfl (by decide) (by omega) u13 ps ((ea : Nat) : Int) [.int .i64 ((ea : Nat) : Int)] (fun _ => True) (fun _ => False) rfl rfl ?aP (fun _ hk => hk.elim) ?aF ?aO ?aB ?aS ?aL ?_; (case aP => exact rfl); (case aB => exact HBB.out); (case aF => exact (fun _ _ => trivial)); (case aO => exact HPB.out); (case aS => exact HBB.out.size); (case aL => have := HPN.out; omega); intro v5 w9 ho hb hg hat; have b1 := blk_cell ((hg.block _ (Array.getElem?_eq_some_iff.1 HBK.out).1 (Kd.R_ne HPB.out HBK.out (by decide))).trans HBK.out) 1; have HB9 := Aside0.mk hb; have HP9 := Aside0.mk ho; clear ho hb hg hat HPB HBB HBK))
            refine ⟨?_, meas hk (by omega)⟩
            refine Exists.intro (k + 1) ?_
            rw [HAE.out, HPA.out]
            exact ⟨int_eq (by omega), int_eq (by have := HEL.out; have := HYZ.out; rw [w64 (z := 60 + (y.f1.length : Int)) (by omega) (by omega), w64 (by omega) (by omega)]; omega), ⟨hk⟩, HB9, HP9⟩
          have hkn : k = l.length := by have := HKI.out; omega
          have hkI : ¬ ((k : Int) < (l.length : Int)) := by omega
          have HAF : Aside0 (after (first x) l = a) := ⟨by rw [← HAA.out, hkn, List.take_length]⟩
          have HPF : Aside0 ((Kd.int .i64).R 3 wp w.heap.size (fun _ => True) u13 ((places (first x) l).map fun (n : Nat) => (n : Int))) := ⟨by have := HPL.out; rwa [hkn, List.take_length] at this⟩
          clear HPL HAA HKI hkn hk hlen hal
          by_cases hat : 65536 < a
          · obtain rfl : r = ([], 3) := HRr.out.symm.trans (putS_long l x HNO.out HAL.out (by rw [HAF.out]; exact hat))
            have hat2 : (65536 : Int) < (a : Int) := by omega
            go_wp2_with fail
            refine bodyPost_ret (v := .tuple #[.slice none 0 0, .int .i64 3]) (by simp [results, Tryd.results8, go_sem]) rfl ?_
            exact ⟨_, rfl, .inl (Kd.R_nil _ _ _ _ _), HBP.out⟩
          have hat2 : ¬ (65536 : Int) < (a : Int) := by omega
          have HAT := Aside0.mk hat
          have HFIN : Aside0 (r = (l.foldl addM (startB l x), 0)) := ⟨HRr.out.symm.trans (putS_fine l x HNO.out HAL.out (by rw [HAF.out]; exact hat))⟩
          clear hat
          obtain ⟨pls, hpls⟩ : ∃ p, (places (first x) l).map (fun (n : Nat) => (n : Int)) = p := ⟨_, rfl⟩
          rw [hpls] at HPF
          have HPLS := Aside0.mk hpls
          have hpll : pls.length = l.length := by rw [← hpls, List.length_map, places_len]
          have HPLL := Aside0.mk hpll
          clear hpls hpll
          have kc := fun (w : World) (C : Array Value) (n c : Nat) => Lib.run_convert_bytes_const (P := Tryd.prog) w 24 5 C n c Tryd.underlying24 Tryd.underlying5
          go_upto_region 31 with fail
          clear kc
          obtain ⟨gm, hgm⟩ : ∃ g, wp.heap.size = g := ⟨_, rfl⟩
          rw [hgm]
          generalize hw2 : wp.alloc _ = w2
          have HB2 : Aside0 (Below w.heap.size w w2) := ⟨by rw [← hw2]; exact below_alloc HBP.out _⟩
          have HO2 : Aside0 (Out w2 w.heap.size (.slice (some ⟨gm, 0, none⟩) 8 8) magicB) := ⟨.inr ⟨rfl, gm, rfl, by rw [← hgm]; exact HBP.out.size, by rw [← hw2, ← hgm]; exact heap_alloc_new _ _⟩⟩
          have HP2 := Aside0.mk (show (Kd.int .i64).R 3 w2 w.heap.size (fun _ => True) u13 pls by rw [← hw2]; exact Kd.R_alloc HPF.out _)
          clear hw2 hgm HBP HPF
          go_wp2_with fail
          have HSE : Aside0 (startB l x = magicB) := ⟨by unfold startB; rw [if_pos hxe]⟩
          obtain ⟨s0, hs0⟩ : ∃ s, magicB = s := ⟨_, rfl⟩
          have HO2 : Aside0 (Out w2 w.heap.size (.slice (some ⟨gm, 0, none⟩) 8 8) s0) := ⟨by rw [← hs0]; exact HO2.out⟩
          rw [hs0] at HSE
          have HS0 : Aside0 (s0.length ≤ 30000000000000) := ⟨by rw [← hs0]; decide⟩
          clear hs0 HP2 HPLS HPLL
          go_loopw [16, 149] (fun v16 v149 wr => ∃ k : Nat, v149 = .int .i64 k ∧ Aside0 (k ≤ l.length) ∧ Aside0 (Below w.heap.size w wr) ∧ Aside0 (Out wr w.heap.size v16 ((l.take k).foldl addM s0))) (fun _ v149 _ => l.length - (intOf v149).toNat)
          case atStart => exact ⟨0, rfl, ⟨Nat.zero_le _⟩, HB2, ⟨HO2.out⟩⟩
          case round =>
            obtain ⟨wt, rfl⟩ : ∃ q, q = wr := ⟨_, rfl⟩
            obtain ⟨k2, rfl, HK2, HBT, HOT⟩ := hrel
            clear HB2 HO2
            have hlen := HLn.out
            have hfl := fold_len l s0 (by have := HM.out; omega) k2 HK2.out
            obtain ⟨os, hos⟩ : ∃ o, (l.take k2).foldl addM s0 = o := ⟨_, rfl⟩
            rw [hos] at hfl HOT
            have HOF := Aside0.mk hos
            have HOL : Aside0 (os.length ≤ 40000000000000) := ⟨by have h1 := mM_take l k2; have h2 := HM.out; have h3 := HS0.out; omega⟩
            clear hfl hos
            by_cases hk2 : k2 < l.length
            · have hkI : (k2 : Int) < (l.length : Int) := by omega
              have HWT : Aside0 (wrap64 ((k2 : Int) + 1) = ((k2 + 1 : Nat) : Int)) := ⟨by unfold wrap64; omega⟩
              obtain ⟨ad, A2, c2, rfl, e0w, e1w, _, hcy⟩ := at_T39 HR.out (k2 : Int) (by omega) hkI
              obtain ⟨y, hy⟩ : ∃ y, rd_T39 l (k2 : Int) = y := ⟨_, rfl⟩
              rw [hy] at e0w e1w hcy
              rw [Int.toNat_natCast] at e0w e1w
              have e0 := pw_cell_below HBT.out e0w
              have e1 := pw_cell_below HBT.out e1w
              clear e0w e1w
              have hyg : l.getD k2 z39 = y := by rw [← hy]; unfold rd_T39; rw [Int.toNat_natCast]
              have HYG := Aside0.mk hyg
              have hyz := mem_mM l k2 hk2
              rw [hyg] at hyz
              have HCY := Aside0.mk hcy
              have HLZ2 : Aside0 (y.f1.length ≤ 1099511627776) := ⟨by have := HM.out; omega⟩
              have HLZ : Aside0 (y.f1.length ≤ 9223372036854775807) := ⟨by have := HLZ2.out; omega⟩
              have hfs : y.f0.size ≤ 1099511627776 := by have := HM.out; omega
              have HFS := Aside0.mk hfs
              have HSZ : Aside0 ((y.f0 ++ (⟨#[47]⟩ : ByteArray)).size ≤ 140737488351233) := ⟨by rw [ByteArray.size_append, show (⟨#[47]⟩ : ByteArray).size = 1 from rfl]; omega⟩
              have nq1 : ¬ (9223372036854775807 < y.f0.size + 1) := by omega
              have hhs := headS_size (y.f0 ++ (⟨#[47]⟩ : ByteArray)) y.f1.length HLZ.out
              have hhp := headS_pos (y.f0 ++ (⟨#[47]⟩ : ByteArray)) y.f1.length
              obtain ⟨hd, hhd⟩ : ∃ h, headS (y.f0 ++ (⟨#[47]⟩ : ByteArray)) y.f1.length = h := ⟨_, rfl⟩
              rw [hhd] at hhs hhp
              have HHDX : Aside0 (headS (y.f0 ++ (⟨#[47]⟩ : ByteArray)) y.f1.length = hd) := ⟨hhd⟩
              have HHP := Aside0.mk hhp
              have HHS : Aside0 (hd.size ≤ 1099511629000) := ⟨by rw [ByteArray.size_append, show (⟨#[47]⟩ : ByteArray).size = 1 from rfl] at hhs; omega⟩
              clear hy hyg hyz hlen hcy hhd hhs hhp hfs
              skip
              go_upto_region 43 with fail
              clear e0 e1
              generalize hwz : wt.alloc (.cells #[.string y.f0, .slice A2 y.f1.length c2] 39 (0, 0)) = wz
              have HBZ : Aside0 (Below w.heap.size w wz) := ⟨by rw [← hwz]; exact below_alloc HBT.out _⟩
              have HOZ := Aside0.mk (show Out wz w.heap.size u16 os by rw [← hwz]; exact HOT.out.below (below_alloc (Below.refl _ _) _))
              have b0 : wz.cell? ⟨wt.heap.size, 0, none⟩ = some (.string y.f0) := by rw [← hwz]; exact blk_cell (heap_alloc_new _ _) 0
              have b1 : wz.cell? ⟨wt.heap.size, 1, none⟩ = some (.slice A2 y.f1.length c2) := by rw [← hwz]; exact blk_cell (heap_alloc_new _ _) 1
              have HBK : Aside0 (wz.heap[wt.heap.size]? = some (.cells #[.string y.f0, .slice A2 y.f1.length c2] 39 (0, 0))) := ⟨by rw [← hwz]; exact heap_alloc_new _ _⟩
              clear hwz HBT HOT
              obtain ⟨A16, c16, hu16, hle16, _⟩ := HOZ.out.reads
              subst hu16
              clear hle16
              by_cases hodd : os.length % 2 = 1
              · have HRZ : Aside0 ((Kd.int .u8).R 5 wz w.heap.size (fun _ => True) (.slice A16 os.length c16) os) := ⟨by rcases HOZ.out with h | ⟨h, _⟩; exact h; rw [h] at hodd; exact absurd hodd (by decide)⟩
                have ho1 : ¬ ((os.length : Int) % 2 = 0) := by omega
                have HAD : Aside0 (addM os y = ((os ++ [10]) ++ tb hd) ++ y.f1) := ⟨by unfold addM; rw [if_pos hodd, HHDX.out]⟩
                have HOL2 : Aside0 ((os ++ [10]).length ≤ 40000000000001) := ⟨by rw [List.length_append]; show os.length + 1 ≤ _; have := HOL.out; omega⟩
                clear b0 b1 HOZ
                go_upto_region 44 with fail
                go_upto_region 45 with (first | ((with_reducible refine gate_builtin (b := .append) (xs := #[.tmp 157, .tmp 158]) rfl ?_); at_builtin; refine Kd.R_append (Kd.int .u8) (w0 := w) w.heap.size rfl (.tmp 157) (.tmp 158) 24 5 (.int .u8 0) 1 rfl Tryd.underlying24 info5 rfl (by decide) (by omega) (.slice A16 os.length c16) os 10 [.int .u8 10] (fun _ => True) (fun _ => False) rfl rfl ?aP (fun _ hk => hk.elim) ?aF ?aO ?aB ?aS ?aL ?_; (case aP => exact rfl); (case aB => exact HBZ.out); (case aF => exact (fun _ _ => trivial)); (case aO => exact HRZ.out); (case aS => exact HBZ.out.size); (case aL => have := HOL.out; omega); intro v20 wy ho hb hg hat; have hbx := (hg.block _ (Array.getElem?_eq_some_iff.1 HBK.out).1 (Kd.R_ne HRZ.out HBK.out (by decide))).trans HBK.out; have b0 := blk_cell hbx 0; have b1 := blk_cell hbx 1; have HBY := Aside0.mk hb; have HOY := Aside0.mk ho; clear ho hb hg hat))
                have HBX := Aside0.mk hbx
                clear HBZ HRZ HBK hodd ho1 hbx
                refine start_ (n := 13) (S := fun w' => w'.heap[wt.heap.size]? = some (.cells #[.string y.f0, .slice A2 y.f1.length c2] 39 (0, 0)) ∧ w'.cell? ⟨wt.heap.size, 0, none⟩ = some (.string y.f0) ∧ w'.cell? ⟨wt.heap.size, 1, none⟩ = some (.slice A2 y.f1.length c2)) (ds := [11, 12]) #[false, false, false, false, false, false, false, false, false, false, false, false, false] (by kernel_rfl) rfl rfl ⟨HBX.out, b0, b1⟩ (fun hHeld => ?_)
                refine with_tabW tab8_45 bits8_45 (fun HT_ HW_ => ?_)
                have HBD : Aside0 (Below w.heap.size w wy.drew) := ⟨pw_below_grown HBY.out none HBY.out.size ⟨rfl, rfl, rfl, Nat.le_refl _, fun _ _ _ => rfl⟩ (fun q hq => by cases hq)⟩
                have HOD := Aside0.mk (show Out wy.drew w.heap.size (v20) (os ++ [10]) from .inl (Kd.R_below HOY.out (below_drew (Below.refl wy.heap.size wy))))
                generalize wy.drew = wd at HBD HOD hHeld ⊢
                clear b0 b1 HBX HBY HOY
                refine pure_ (i := 0) (N := some 160) (v := ?_) (a' := ?_) #[true, false, false, false, false, false, false, false, false, false, false, false, false] rfl rfl (any_of HT_.out (by kernel_rfl)) (fun _ _ _ h => h) (Or.inl ⟨by rfl, ?_⟩) ?_ ?_
                rotate_left
                · intro w'
                  go_simp
                  with_reducible rfl
                rotate_left
                · skip
                  simp only [Act.put, List.setIfInBounds_toArray, List.set_cons_zero, List.set_cons_succ, i64_w, i32_w]
                  rfl
                refine pure_ (i := 1) (N := some 161) (v := ?_) (a' := ?_) #[true, true, false, false, false, false, false, false, false, false, false, false, false] rfl rfl (any_of HT_.out (by kernel_rfl)) (fun _ _ _ h => h) (Or.inl ⟨by rfl, ?_⟩) ?_ ?_
                rotate_left
                · intro w'
                  go_simp
                  with_reducible rfl
                rotate_left
                · skip
                  simp only [Act.put, List.setIfInBounds_toArray, List.set_cons_zero, List.set_cons_succ, i64_w, i32_w]
                  rfl
                refine take_ (i := 2) (N := some 162) (v := ?_) (a' := ?_) #[true, true, true, false, false, false, false, false, false, false, false, false, false] rfl rfl (take_ofW HT_.out HW_.out (by kernel_rfl)) (fun _ _ _ h => h) (Or.inl ⟨by rfl, ?_⟩) hHeld ?_ ?_
                rotate_left
                · rintro w' ⟨s0, s1, s2⟩
                  go_simp
                  with_reducible rfl
                rotate_left
                · skip
                  simp only [Act.put, List.setIfInBounds_toArray, List.set_cons_zero, List.set_cons_succ, i64_w, i32_w]
                  rfl
                refine pure_ (i := 3) (N := some 163) (v := ?_) (a' := ?_) #[true, true, true, true, false, false, false, false, false, false, false, false, false] rfl rfl (any_of HT_.out (by kernel_rfl)) (fun _ _ _ h => h) (Or.inl ⟨by rfl, ?_⟩) ?_ ?_
                rotate_left
                · intro w'
                  go_simp
                  with_reducible rfl
                rotate_left
                · skip
                  simp only [Act.put, List.setIfInBounds_toArray, List.set_cons_zero, List.set_cons_succ, i64_w, i32_w]
                  rfl
                refine pure_ (i := 4) (N := some 164) (v := ?_) (a' := ?_) #[true, true, true, true, true, false, false, false, false, false, false, false, false] rfl rfl (any_of HT_.out (by kernel_rfl)) (fun _ _ _ h => h) (Or.inl ⟨by rfl, ?_⟩) ?_ ?_
                rotate_left
                · intro w'
                  go_simp
                  with_reducible rfl
                rotate_left
                · skip
                  simp only [Act.put, List.setIfInBounds_toArray, List.set_cons_zero, List.set_cons_succ, i64_w, i32_w]
                  rfl
                refine take_ (i := 5) (N := some 165) (v := ?_) (a' := ?_) #[true, true, true, true, true, true, false, false, false, false, false, false, false] rfl rfl (take_ofW HT_.out HW_.out (by kernel_rfl)) (fun _ _ _ h => h) (Or.inl ⟨by rfl, ?_⟩) hHeld ?_ ?_
                rotate_left
                · rintro w' ⟨s0, s1, s2⟩
                  go_simp
                  with_reducible rfl
                rotate_left
                · skip
                  simp only [Act.put, List.setIfInBounds_toArray, List.set_cons_zero, List.set_cons_succ, i64_w, i32_w]
                  rfl
                refine pure_ (i := 6) (N := some 166) (v := ?_) (a' := ?_) #[true, true, true, true, true, true, true, false, false, false, false, false, false] rfl rfl (any_of HT_.out (by kernel_rfl)) (fun _ _ _ h => h) (Or.inl ⟨by rfl, ?_⟩) ?_ ?_
                rotate_left
                · intro w'
                  go_simp
                  with_reducible rfl
                rotate_left
                · skip
                  simp only [Act.put, List.setIfInBounds_toArray, List.set_cons_zero, List.set_cons_succ, i64_w, i32_w]
                  rfl
                refine pure_ (i := 9) (N := some 169) (v := ?_) (a' := ?_) #[true, true, true, true, true, true, true, false, false, true, false, false, false] rfl rfl (any_of HT_.out (by kernel_rfl)) (fun _ _ _ h => h) (Or.inl ⟨by rfl, ?_⟩) ?_ ?_
                rotate_left
                · intro w'
                  go_simp
                  with_reducible rfl
                rotate_left
                · skip
                  simp only [Act.put, List.setIfInBounds_toArray, List.set_cons_zero, List.set_cons_succ, i64_w, i32_w]
                  rfl
                refine take_ (i := 10) (N := some 170) (v := ?_) (a' := ?_) #[true, true, true, true, true, true, true, false, false, true, true, false, false] rfl rfl (take_ofW HT_.out HW_.out (by kernel_rfl)) (fun _ _ _ h => h) (Or.inl ⟨by rfl, ?_⟩) hHeld ?_ ?_
                rotate_left
                · rintro w' ⟨s0, s1, s2⟩
                  go_simp
                  with_reducible rfl
                rotate_left
                · skip
                  simp only [Act.put, List.setIfInBounds_toArray, List.set_cons_zero, List.set_cons_succ, i64_w, i32_w]
                  rfl
                refine one_ (i := 7) (N := some 167) #[true, true, true, true, true, true, true, true, false, true, true, false, false] rfl rfl (one_of HT_.out (by kernel_rfl)) (by decide) (fun K hK => ?_)
                refine goes_ Tryd.func22 (by kernel_rfl) rfl #[.string (y.f0 ++ (⟨#[47]⟩ : ByteArray)), .int .i64 ((y.f1.length : Nat) : Int)] (by rfl) rfl rfl (by (try simp only [List.map_toArray, List.map_cons, List.map_nil]); first | done | rfl) ?_
                refine (head_calls (y.f0 ++ (⟨#[47]⟩ : ByteArray)) y.f1.length HSZ.out HLZ.out wd (HV.out.below HBD.out)).mono ?_
                intro e w2 h2
                obtain ⟨h2, hb2⟩ := h2
                subst h2
                refine ⟨_, rfl, ?_⟩
                rw [HHDX.out]
                refine hK.out _ _ ⟨(hb2.block _ (Array.getElem?_eq_some_iff.1 hHeld.1).1).trans hHeld.1, pw_cell_below hb2 hHeld.2.1, pw_cell_below hb2 hHeld.2.2⟩ (fun hS1 => ?_)
                clear hK K
                refine norm_ (a' := ?_) ?_ ?_
                rotate_left
                · show Act.put _ (some 167) _ = _
                  simp only [Act.put, List.setIfInBounds_toArray, List.set_cons_zero, List.set_cons_succ, i64_w, i32_w]
                  rfl
                have HBE : Aside0 (Below w.heap.size w w2) := ⟨HBD.out.trans (hb2.mono HBD.out.size)⟩
                have HOE := Aside0.mk (HOD.out.below hb2)
                clear HBD HOD hHeld hb2
                refine one_ (i := 8) (N := some 168) #[true, true, true, true, true, true, true, true, true, true, true, false, false] rfl rfl (one_of HT_.out (by kernel_rfl)) (by decide) (fun K hK => ?_)
                refine Out_append_str_step (w0 := w) w.heap.size (by rfl) (.tmp 160) (.tmp 167) 24 9 rfl Tryd.underlying24 Tryd.underlying9 info5 (v20) (os ++ [10]) hd rfl rfl HHP.out HOE.out HBE.out HBE.out.size (by have := HOL2.out; have := HHS.out; omega) ?_
                intro v21 w11 row ho hb hg hrow
                have hbk := blk_keep hg hrow hS1.1
                have HBG := Aside0.mk hb
                have HOG := Aside0.mk ho
                clear ho hb HBE HOE hg hrow
                refine hK.out _ _ ⟨hbk, blk_cell hbk 0, blk_cell hbk 1⟩ (fun hS2 => ?_)
                clear hK K
                refine norm_ (a' := ?_) ?_ ?_
                rotate_left
                · show Act.put _ (some 168) _ = _
                  simp only [Act.put, List.setIfInBounds_toArray, List.set_cons_zero, List.set_cons_succ, i64_w, i32_w]
                  rfl
                clear hS1 hbk hS2
                refine last_ (i := 11) (N := some 171) #[true, true, true, true, true, true, true, true, true, true, true, true, false] rfl rfl (one_of HT_.out (by kernel_rfl)) (by decide) (fun K hK => ?_)
                refine Kd.R_append_rows_step (Kd.int .u8) (w0 := w) w.heap.size (by rfl) (.tmp 168) (.tmp 170) 24 5 (.int .u8 0) 1 rfl Tryd.underlying24 info5 rfl (by decide) (by omega) v21 (os ++ [10] ++ tb hd) y.f1 _ _ _ (fun _ => True) (fun _ => False) rfl rfl HOG.out (Kd.C_below HCY.out HBG.out) (fun _ _ h => h) (fun _ h => h.elim) (fun _ _ => trivial) HBG.out HBG.out.size (by rw [List.length_append, tb_len]; have := HOL2.out; have := HHS.out; have := HLZ2.out; omega) ?_
                intro v22 w12 ho hb hg hat
                have HBH := Aside0.mk hb
                have HOH := Aside0.mk ho
                clear ho hb hg hat HBG HOG
                refine hK.out _ _ ?_
                clear hK K
                refine norm_ (a' := ?_) ?_ ?_
                rotate_left
                · show Act.put _ (some 171) _ = _
                  simp only [Act.put, List.setIfInBounds_toArray, List.set_cons_zero, List.set_cons_succ, i64_w, i32_w]
                  rfl
                refine last_ (i := 12) (N := some 16) #[true, true, true, true, true, true, true, true, true, true, true, true, true] rfl rfl (one_of HT_.out (by kernel_rfl)) (by decide) (fun K hK => ?_)
                refine value_ (w1 := ?_) (v := ?_) (by rfl) rfl ?_ ?_
                rotate_left 2
                · go_simp
                  constructor
                  · rfl
                  rfl
                refine hK.out _ _ ?_
                clear hK K
                refine norm_ (a' := ?_) ?_ ?_
                rotate_left
                · show Act.put _ (some 16) _ = _
                  simp only [Act.put, List.setIfInBounds_toArray, List.set_cons_zero, List.set_cons_succ, i64_w, i32_w]
                  rfl
                refine done_ (done_of HT_.out (by kernel_rfl)) ?_
                go_wp2_with fail
                refine ⟨?_, meas hk2 (by first | exact HWT.out | omega)⟩
                refine Exists.intro (k2 + 1) ?_
                exact ⟨by first | rfl | (rw [HWT.out]; done) | exact int_eq (by omega), ⟨hk2⟩, HBH, ⟨by rw [fold_take l s0 k2 hk2, HOF.out, HYG.out, HAD.out]; exact .inl HOH.out⟩⟩
              have ho1 : (os.length : Int) % 2 = 0 := by omega
              have HAD : Aside0 (addM os y = (os ++ tb hd) ++ y.f1) := ⟨by unfold addM; rw [if_neg hodd, HHDX.out]⟩
              go_upto_region 45 with fail
              have HBX := HBK
              clear HBK hodd ho1
              refine start_ (n := 13) (S := fun w' => w'.heap[wt.heap.size]? = some (.cells #[.string y.f0, .slice A2 y.f1.length c2] 39 (0, 0)) ∧ w'.cell? ⟨wt.heap.size, 0, none⟩ = some (.string y.f0) ∧ w'.cell? ⟨wt.heap.size, 1, none⟩ = some (.slice A2 y.f1.length c2)) (ds := [11, 12]) #[false, false, false, false, false, false, false, false, false, false, false, false, false] (by kernel_rfl) rfl rfl ⟨HBX.out, b0, b1⟩ (fun hHeld => ?_)
              refine with_tabW tab8_45 bits8_45 (fun HT_ HW_ => ?_)
              have HBD : Aside0 (Below w.heap.size w wz.drew) := ⟨pw_below_grown HBZ.out none HBZ.out.size ⟨rfl, rfl, rfl, Nat.le_refl _, fun _ _ _ => rfl⟩ (fun q hq => by cases hq)⟩
              have HOD := Aside0.mk (HOZ.out.below (below_drew (Below.refl wz.heap.size wz)))
              generalize wz.drew = wd at HBD HOD hHeld ⊢
              clear b0 b1 HBX HBZ HOZ
              refine pure_ (i := 0) (N := some 160) (v := ?_) (a' := ?_) #[true, false, false, false, false, false, false, false, false, false, false, false, false] rfl rfl (any_of HT_.out (by kernel_rfl)) (fun _ _ _ h => h) (Or.inl ⟨by rfl, ?_⟩) ?_ ?_
              rotate_left
              · intro w'
                go_simp
                with_reducible rfl
              rotate_left
              · skip
                simp only [Act.put, List.setIfInBounds_toArray, List.set_cons_zero, List.set_cons_succ, i64_w, i32_w]
                rfl
              refine pure_ (i := 1) (N := some 161) (v := ?_) (a' := ?_) #[true, true, false, false, false, false, false, false, false, false, false, false, false] rfl rfl (any_of HT_.out (by kernel_rfl)) (fun _ _ _ h => h) (Or.inl ⟨by rfl, ?_⟩) ?_ ?_
              rotate_left
              · intro w'
                go_simp
                with_reducible rfl
              rotate_left
              · skip
                simp only [Act.put, List.setIfInBounds_toArray, List.set_cons_zero, List.set_cons_succ, i64_w, i32_w]
                rfl
              refine take_ (i := 2) (N := some 162) (v := ?_) (a' := ?_) #[true, true, true, false, false, false, false, false, false, false, false, false, false] rfl rfl (take_ofW HT_.out HW_.out (by kernel_rfl)) (fun _ _ _ h => h) (Or.inl ⟨by rfl, ?_⟩) hHeld ?_ ?_
              rotate_left
              · rintro w' ⟨s0, s1, s2⟩
                go_simp
                with_reducible rfl
              rotate_left
              · skip
                simp only [Act.put, List.setIfInBounds_toArray, List.set_cons_zero, List.set_cons_succ, i64_w, i32_w]
                rfl
              refine pure_ (i := 3) (N := some 163) (v := ?_) (a' := ?_) #[true, true, true, true, false, false, false, false, false, false, false, false, false] rfl rfl (any_of HT_.out (by kernel_rfl)) (fun _ _ _ h => h) (Or.inl ⟨by rfl, ?_⟩) ?_ ?_
              rotate_left
              · intro w'
                go_simp
                with_reducible rfl
              rotate_left
              · skip
                simp only [Act.put, List.setIfInBounds_toArray, List.set_cons_zero, List.set_cons_succ, i64_w, i32_w]
                rfl
              refine pure_ (i := 4) (N := some 164) (v := ?_) (a' := ?_) #[true, true, true, true, true, false, false, false, false, false, false, false, false] rfl rfl (any_of HT_.out (by kernel_rfl)) (fun _ _ _ h => h) (Or.inl ⟨by rfl, ?_⟩) ?_ ?_
              rotate_left
              · intro w'
                go_simp
                with_reducible rfl
              rotate_left
              · skip
                simp only [Act.put, List.setIfInBounds_toArray, List.set_cons_zero, List.set_cons_succ, i64_w, i32_w]
                rfl
              refine take_ (i := 5) (N := some 165) (v := ?_) (a' := ?_) #[true, true, true, true, true, true, false, false, false, false, false, false, false] rfl rfl (take_ofW HT_.out HW_.out (by kernel_rfl)) (fun _ _ _ h => h) (Or.inl ⟨by rfl, ?_⟩) hHeld ?_ ?_
              rotate_left
              · rintro w' ⟨s0, s1, s2⟩
                go_simp
                with_reducible rfl
              rotate_left
              · skip
                simp only [Act.put, List.setIfInBounds_toArray, List.set_cons_zero, List.set_cons_succ, i64_w, i32_w]
                rfl
              refine pure_ (i := 6) (N := some 166) (v := ?_) (a' := ?_) #[true, true, true, true, true, true, true, false, false, false, false, false, false] rfl rfl (any_of HT_.out (by kernel_rfl)) (fun _ _ _ h => h) (Or.inl ⟨by rfl, ?_⟩) ?_ ?_
              rotate_left
              · intro w'
                go_simp
                with_reducible rfl
              rotate_left
              · skip
                simp only [Act.put, List.setIfInBounds_toArray, List.set_cons_zero, List.set_cons_succ, i64_w, i32_w]
                rfl
              refine pure_ (i := 9) (N := some 169) (v := ?_) (a' := ?_) #[true, true, true, true, true, true, true, false, false, true, false, false, false] rfl rfl (any_of HT_.out (by kernel_rfl)) (fun _ _ _ h => h) (Or.inl ⟨by rfl, ?_⟩) ?_ ?_
              rotate_left
              · intro w'
                go_simp
                with_reducible rfl
              rotate_left
              · skip
                simp only [Act.put, List.setIfInBounds_toArray, List.set_cons_zero, List.set_cons_succ, i64_w, i32_w]
                rfl
              refine take_ (i := 10) (N := some 170) (v := ?_) (a' := ?_) #[true, true, true, true, true, true, true, false, false, true, true, false, false] rfl rfl (take_ofW HT_.out HW_.out (by kernel_rfl)) (fun _ _ _ h => h) (Or.inl ⟨by rfl, ?_⟩) hHeld ?_ ?_
              rotate_left
              · rintro w' ⟨s0, s1, s2⟩
                go_simp
                with_reducible rfl
              rotate_left
              · skip
                simp only [Act.put, List.setIfInBounds_toArray, List.set_cons_zero, List.set_cons_succ, i64_w, i32_w]
                rfl
              refine one_ (i := 7) (N := some 167) #[true, true, true, true, true, true, true, true, false, true, true, false, false] rfl rfl (one_of HT_.out (by kernel_rfl)) (by decide) (fun K hK => ?_)
              refine goes_ Tryd.func22 (by kernel_rfl) rfl #[.string (y.f0 ++ (⟨#[47]⟩ : ByteArray)), .int .i64 ((y.f1.length : Nat) : Int)] (by rfl) rfl rfl (by (try simp only [List.map_toArray, List.map_cons, List.map_nil]); first | done | rfl) ?_
              refine (head_calls (y.f0 ++ (⟨#[47]⟩ : ByteArray)) y.f1.length HSZ.out HLZ.out wd (HV.out.below HBD.out)).mono ?_
              intro e w2 h2
              obtain ⟨h2, hb2⟩ := h2
              subst h2
              refine ⟨_, rfl, ?_⟩
              rw [HHDX.out]
              refine hK.out _ _ ⟨(hb2.block _ (Array.getElem?_eq_some_iff.1 hHeld.1).1).trans hHeld.1, pw_cell_below hb2 hHeld.2.1, pw_cell_below hb2 hHeld.2.2⟩ (fun hS1 => ?_)
              clear hK K
              refine norm_ (a' := ?_) ?_ ?_
              rotate_left
              · show Act.put _ (some 167) _ = _
                simp only [Act.put, List.setIfInBounds_toArray, List.set_cons_zero, List.set_cons_succ, i64_w, i32_w]
                rfl
              have HBE : Aside0 (Below w.heap.size w w2) := ⟨HBD.out.trans (hb2.mono HBD.out.size)⟩
              have HOE := Aside0.mk (HOD.out.below hb2)
              clear HBD HOD hHeld hb2
              refine one_ (i := 8) (N := some 168) #[true, true, true, true, true, true, true, true, true, true, true, false, false] rfl rfl (one_of HT_.out (by kernel_rfl)) (by decide) (fun K hK => ?_)
              refine Out_append_str_step (w0 := w) w.heap.size (by rfl) (.tmp 160) (.tmp 167) 24 9 rfl Tryd.underlying24 Tryd.underlying9 info5 (.slice A16 os.length c16) (os) hd rfl rfl HHP.out HOE.out HBE.out HBE.out.size (by have := HOL.out; have := HHS.out; omega) ?_
              intro v21 w11 row ho hb hg hrow
              have hbk := blk_keep hg hrow hS1.1
              have HBG := Aside0.mk hb
              have HOG := Aside0.mk ho
              clear ho hb HBE HOE hg hrow
              refine hK.out _ _ ⟨hbk, blk_cell hbk 0, blk_cell hbk 1⟩ (fun hS2 => ?_)
              clear hK K
              refine norm_ (a' := ?_) ?_ ?_
              rotate_left
              · show Act.put _ (some 168) _ = _
                simp only [Act.put, List.setIfInBounds_toArray, List.set_cons_zero, List.set_cons_succ, i64_w, i32_w]
                rfl
              clear hS1 hbk hS2
              refine last_ (i := 11) (N := some 171) #[true, true, true, true, true, true, true, true, true, true, true, true, false] rfl rfl (one_of HT_.out (by kernel_rfl)) (by decide) (fun K hK => ?_)
              refine Kd.R_append_rows_step (Kd.int .u8) (w0 := w) w.heap.size (by rfl) (.tmp 168) (.tmp 170) 24 5 (.int .u8 0) 1 rfl Tryd.underlying24 info5 rfl (by decide) (by omega) v21 (os ++ tb hd) y.f1 _ _ _ (fun _ => True) (fun _ => False) rfl rfl HOG.out (Kd.C_below HCY.out HBG.out) (fun _ _ h => h) (fun _ h => h.elim) (fun _ _ => trivial) HBG.out HBG.out.size (by rw [List.length_append, tb_len]; have := HOL.out; have := HHS.out; have := HLZ2.out; omega) ?_
              intro v22 w12 ho hb hg hat
              have HBH := Aside0.mk hb
              have HOH := Aside0.mk ho
              clear ho hb hg hat HBG HOG
              refine hK.out _ _ ?_
              clear hK K
              refine norm_ (a' := ?_) ?_ ?_
              rotate_left
              · show Act.put _ (some 171) _ = _
                simp only [Act.put, List.setIfInBounds_toArray, List.set_cons_zero, List.set_cons_succ, i64_w, i32_w]
                rfl
              refine last_ (i := 12) (N := some 16) #[true, true, true, true, true, true, true, true, true, true, true, true, true] rfl rfl (one_of HT_.out (by kernel_rfl)) (by decide) (fun K hK => ?_)
              refine value_ (w1 := ?_) (v := ?_) (by rfl) rfl ?_ ?_
              rotate_left 2
              · go_simp
                constructor
                · rfl
                rfl
              refine hK.out _ _ ?_
              clear hK K
              refine norm_ (a' := ?_) ?_ ?_
              rotate_left
              · show Act.put _ (some 16) _ = _
                simp only [Act.put, List.setIfInBounds_toArray, List.set_cons_zero, List.set_cons_succ, i64_w, i32_w]
                rfl
              refine done_ (done_of HT_.out (by kernel_rfl)) ?_
              go_wp2_with fail
              refine ⟨?_, meas hk2 (by first | exact HWT.out | omega)⟩
              refine Exists.intro (k2 + 1) ?_
              exact ⟨by first | rfl | (rw [HWT.out]; done) | exact int_eq (by omega), ⟨hk2⟩, HBH, ⟨by rw [fold_take l s0 k2 hk2, HOF.out, HYG.out, HAD.out]; exact .inl HOH.out⟩⟩
            have hkn : k2 = l.length := by have := HK2.out; omega
            have hkI : ¬ ((k2 : Int) < (l.length : Int)) := by omega
            obtain rfl : r = (os, 0) := by rw [HFIN.out, HSE.out, ← HOF.out, hkn, List.take_length]
            go_wp2_with fail
            obtain ⟨A16, c16, hu16, _, _⟩ := HOT.out.reads
            subst hu16
            refine bodyPost_ret (v := .tuple #[.slice A16 os.length c16, .int .i64 0]) (by simp [results, Tryd.results8, go_sem]) rfl ?_
            exact ⟨_, rfl, HOT.out, HBT.out⟩
      have hgx : 0 < x.length := by cases x with | nil => exact absurd rfl hxe | cons z t => exact Nat.succ_pos _
      have hgt : (0 : Int) < (x.length : Int) := by omega
      have HFX : Aside0 (first x = 8 + (64 + 4 * x.length + nm.size)) := ⟨by unfold first namesB; rw [if_neg hxe, tb_len, HNX.out]⟩
      clear hgx
      go_wp2_with fail
      go_loopw [12, 13, 88] (fun v12 v13 v88 wr => ∃ i : Nat, v88 = .int .i64 i ∧ v12 = .int .i64 ((after (first x) (l.take i) : Nat) : Int) ∧ Aside0 (i ≤ l.length) ∧ Aside0 (Below w.heap.size w wr) ∧ Aside0 ((Kd.int .i64).R 3 wr w.heap.size (fun _ => True) v13 ((places (first x) (l.take i)).map fun (n : Nat) => (n : Int)))) (fun _ _ v88 _ => l.length - (intOf v88).toNat)
      case atStart => exact ⟨0, rfl, int_eq (by show _ = ((first x : Nat) : Int); have := HX.out; have := HNS.out; have := HXn.out; rw [HFX.out]; rw [w64 (z := 4 * (x.length : Int)) (by omega) (by omega), w64 (z := 64 + 4 * (x.length : Int)) (by omega) (by omega), w64 (z := 64 + 4 * (x.length : Int) + (nm.size : Int)) (by omega) (by omega), w64 (by omega) (by omega)]; omega), ⟨Nat.zero_le _⟩, HB, ⟨Kd.R_nil _ _ _ _ _⟩⟩
      case round =>
        obtain ⟨wp, rfl⟩ : ∃ q, q = wr := ⟨_, rfl⟩
        obtain ⟨k, rfl, rfl, HKI, HBP, HPL⟩ := hrel
        have hlen := HLn.out
        obtain ⟨a, ha⟩ : ∃ a, after (first x) (l.take k) = a := ⟨_, rfl⟩
        rw [ha]
        have hal : a ≤ 42000000000000 := by have h1 := after_le (first x) (l.take k); have h2 := mM_take l k; have h3 := HM.out; have h4 := HF0.out; omega
        have HAA := Aside0.mk ha
        have HAL2 := Aside0.mk hal
        clear ha HB
        by_cases hk : k < l.length
        · have hkI : (k : Int) < (l.length : Int) := by omega
          have HWK : Aside0 (wrap64 ((k : Int) + 1) = ((k + 1 : Nat) : Int)) := ⟨by unfold wrap64; omega⟩
          obtain ⟨ad, A2, c2, rfl, e0, e1, _, _⟩ := at_T39 (Kd.C_below HR.out HBP.out) (k : Int) (by omega) hkI
          obtain ⟨y, hy⟩ : ∃ y, rd_T39 l (k : Int) = y := ⟨_, rfl⟩
          rw [hy] at e0 e1
          rw [Int.toNat_natCast] at e0 e1
          have hyg : l.getD k z39 = y := by rw [← hy]; unfold rd_T39; rw [Int.toNat_natCast]
          have HYG := Aside0.mk hyg
          have hyz := mem_mM l k hk
          rw [hyg] at hyz
          have HYZ : Aside0 (y.f1.length ≤ 1099511627776) := ⟨by have := HM.out; omega⟩
          clear hy hyg hyz hlen hal
          go_upto_region 25 with fail
          clear e0 e1
          have he : wrap64 ((a : Int) + (a : Int) % 2) = ((even a : Nat) : Int) := by have := HAL2.out; unfold wrap64 even; omega
          rw [he]
          have HAE : Aside0 (after (first x) (l.take (k + 1)) = even a + (60 + y.f1.length)) := ⟨by rw [after_take _ _ _ hk, HAA.out, HYG.out]⟩
          have HPA : Aside0 ((places (first x) (l.take (k + 1))).map (fun (n : Nat) => (n : Int)) = (places (first x) (l.take k)).map (fun (n : Nat) => (n : Int)) ++ [((even a : Nat) : Int)]) := ⟨by rw [places_take _ _ _ hk, List.map_append, HAA.out]; rfl⟩
          have hpl : ((places (first x) (l.take k)).map (fun (n : Nat) => (n : Int))).length ≤ 5497558139 := by have := HLn.out; rw [List.length_map, places_len, List.length_take]; omega
          have hel : even a ≤ 42000000000001 := by have := HAL2.out; unfold even; omega
          obtain ⟨ps, hps⟩ : ∃ p, (places (first x) (l.take k)).map (fun (n : Nat) => (n : Int)) = p := ⟨_, rfl⟩
          rw [hps] at HPL HPA hpl
          obtain ⟨ea, hea⟩ : ∃ p, even a = p := ⟨_, rfl⟩
          rw [hea] at HAE HPA hel ⊢
          have HPN := Aside0.mk hpl
          have HEL := Aside0.mk hel
          clear he hps hea hpl hel
          generalize hwb : wp.alloc (.cells #[.string y.f0, .slice A2 y.f1.length c2] 39 (0, 0)) = wb
          have HBB : Aside0 (Below w.heap.size w wb) := ⟨by rw [← hwb]; exact below_alloc HBP.out _⟩
          have HPB : Aside0 ((Kd.int .i64).R 3 wb w.heap.size (fun _ => True) u13 ps) := ⟨by rw [← hwb]; exact Kd.R_alloc HPL.out _⟩
          have HBK : Aside0 (wb.heap[wp.heap.size]? = some (.cells #[.string y.f0, .slice A2 y.f1.length c2] 39 (0, 0))) := ⟨by rw [← hwb]; exact heap_alloc_new _ _⟩
          clear hwb HPL HBP
          go_wp2_with (first | ((with_reducible refine gate_builtin (b := .append) (xs := #[.tmp 96, .tmp 98]) rfl ?_); at_builtin; refine Kd.R_append (Kd.int .i64) (w0 := w) w.heap.size rfl (.tmp 96) (.tmp 98) 45 3 (.int .i64 0) 8 rfl Tryd.underlying45 info3 rfl (by decide) (by omega) u13 ps ((ea : Nat) : Int) [.int .i64 ((ea : Nat) : Int)] (fun _ => True) (fun _ => False) rfl rfl ?aP (fun _ hk => hk.elim) ?aF ?aO ?aB ?aS ?aL ?_; (case aP => exact rfl); (case aB => exact HBB.out); (case aF => exact (fun _ _ => trivial)); (case aO => exact HPB.out); (case aS => exact HBB.out.size); (case aL => have := HPN.out; omega); intro v5 w9 ho hb hg hat; have b1 := blk_cell ((hg.block _ (Array.getElem?_eq_some_iff.1 HBK.out).1 (Kd.R_ne HPB.out HBK.out (by decide))).trans HBK.out) 1; have HB9 := Aside0.mk hb; have HP9 := Aside0.mk ho; clear ho hb hg hat HPB HBB HBK))
          refine ⟨?_, meas hk (by omega)⟩
          refine Exists.intro (k + 1) ?_
          rw [HAE.out, HPA.out]
          exact ⟨int_eq (by omega), int_eq (by have := HEL.out; have := HYZ.out; rw [w64 (z := 60 + (y.f1.length : Int)) (by omega) (by omega), w64 (by omega) (by omega)]; omega), ⟨hk⟩, HB9, HP9⟩
        have hkn : k = l.length := by have := HKI.out; omega
        have hkI : ¬ ((k : Int) < (l.length : Int)) := by omega
        have HAF : Aside0 (after (first x) l = a) := ⟨by rw [← HAA.out, hkn, List.take_length]⟩
        have HPF : Aside0 ((Kd.int .i64).R 3 wp w.heap.size (fun _ => True) u13 ((places (first x) l).map fun (n : Nat) => (n : Int))) := ⟨by have := HPL.out; rwa [hkn, List.take_length] at this⟩
        clear HPL HAA HKI hkn hk hlen hal
        by_cases hat : 65536 < a
        · obtain rfl : r = ([], 3) := HRr.out.symm.trans (putS_long l x HNO.out HAL.out (by rw [HAF.out]; exact hat))
          have hat2 : (65536 : Int) < (a : Int) := by omega
          go_wp2_with fail
          refine bodyPost_ret (v := .tuple #[.slice none 0 0, .int .i64 3]) (by simp [results, Tryd.results8, go_sem]) rfl ?_
          exact ⟨_, rfl, .inl (Kd.R_nil _ _ _ _ _), HBP.out⟩
        have hat2 : ¬ (65536 : Int) < (a : Int) := by omega
        have HAT := Aside0.mk hat
        have HFIN : Aside0 (r = (l.foldl addM (startB l x), 0)) := ⟨HRr.out.symm.trans (putS_fine l x HNO.out HAL.out (by rw [HAF.out]; exact hat))⟩
        clear hat
        obtain ⟨pls, hpls⟩ : ∃ p, (places (first x) l).map (fun (n : Nat) => (n : Int)) = p := ⟨_, rfl⟩
        rw [hpls] at HPF
        have HPLS := Aside0.mk hpls
        have hpll : pls.length = l.length := by rw [← hpls, List.length_map, places_len]
        have HPLL := Aside0.mk hpll
        clear hpls hpll
        have kc := fun (w : World) (C : Array Value) (n c : Nat) => Lib.run_convert_bytes_const (P := Tryd.prog) w 24 5 C n c Tryd.underlying24 Tryd.underlying5
        go_upto_region 31 with fail
        clear kc
        obtain ⟨gm, hgm⟩ : ∃ g, wp.heap.size = g := ⟨_, rfl⟩
        rw [hgm]
        generalize hw2 : wp.alloc _ = w2
        have HB2 : Aside0 (Below w.heap.size w w2) := ⟨by rw [← hw2]; exact below_alloc HBP.out _⟩
        have HO2 : Aside0 (Out w2 w.heap.size (.slice (some ⟨gm, 0, none⟩) 8 8) magicB) := ⟨.inr ⟨rfl, gm, rfl, by rw [← hgm]; exact HBP.out.size, by rw [← hw2, ← hgm]; exact heap_alloc_new _ _⟩⟩
        have HP2 := Aside0.mk (show (Kd.int .i64).R 3 w2 w.heap.size (fun _ => True) u13 pls by rw [← hw2]; exact Kd.R_alloc HPF.out _)
        clear hw2 hgm HBP HPF
        go_wp2_with fail
        obtain ⟨hn, hhn⟩ : ∃ n, 4 + 4 * x.length + nm.size = n := ⟨_, rfl⟩
        have hnl : hn ≤ 30000000000000 := by have := HNS.out; have := HXn.out; omega
        have he : wrap64 (wrap64 (4 + wrap64 (4 * (x.length : Int))) + (nm.size : Int)) = ((hn : Nat) : Int) := by have := HNS.out; have := HXn.out; rw [w64 (z := 4 * (x.length : Int)) (by omega) (by omega), w64 (z := 4 + 4 * (x.length : Int)) (by omega) (by omega), w64 (by omega) (by omega)]; omega
        rw [he]
        have HHN := Aside0.mk hhn
        have HNL := Aside0.mk hnl
        clear hhn hnl he
        have HC := head_calls (⟨#[47]⟩ : ByteArray) hn (by decide) (by have := HNL.out; omega) w2 (HV.out.below HB2.out)
        have hhs := headS_size (⟨#[47]⟩ : ByteArray) hn (by have := HNL.out; omega)
        have hhp := headS_pos (⟨#[47]⟩ : ByteArray) hn
        obtain ⟨hd, hhd⟩ : ∃ h, headS (⟨#[47]⟩ : ByteArray) hn = h := ⟨_, rfl⟩
        rw [hhd] at HC hhs hhp
        have HHD := Aside0.mk hhd
        have HHS : Aside0 (hd.size ≤ 91) := ⟨hhs⟩
        have HHP := Aside0.mk hhp
        clear hhd hhs hhp
        refine HC.mono ?_
        clear HC
        intro e w3 h3
        obtain ⟨h3, hb3⟩ := h3
        subst h3
        have HB3 : Aside0 (Below w.heap.size w w3) := ⟨HB2.out.trans (hb3.mono HB2.out.size)⟩
        have HO3 := Aside0.mk (HO2.out.below hb3)
        have HP3 := Aside0.mk (Kd.R_below HP2.out hb3)
        clear hb3 HB2 HO2 HP2
        simp only []
        go_wp2_with (first | ((with_reducible refine gate_builtin (b := .append) (xs := #[.tmp 114, .tmp 122]) rfl ?_); at_builtin; refine Out_append_str (w0 := w) w.heap.size rfl (.tmp 114) (.tmp 122) 24 9 rfl Tryd.underlying24 Tryd.underlying9 info5 (.slice (some ⟨gm, 0, none⟩) 8 8) (magicB) hd rfl rfl ?aN ?aO ?aB ?aS ?aL ?_; (case aN => exact HHP.out); (case aO => exact HO3.out); (case aB => exact HB3.out); (case aS => exact HB3.out.size); (case aL => have := HHS.out; show 8 + _ ≤ _; omega); intro v17 w4 row ho hb hg hrow; have HB4 := Aside0.mk hb; have HO4 := Aside0.mk ho; have HP4 := Aside0.mk (keep_places HP3.out hg hrow); clear ho hb hg hrow))
        have BC := big_calls x.length w4
        refine BC.mono ?_
        clear BC
        intro e w5 h5
        obtain ⟨vb, h5, hr5, hb5⟩ := h5
        subst h5
        have HB5 : Aside0 (Below w.heap.size w w5) := ⟨HB4.out.trans (hb5.mono HB4.out.size)⟩
        have HO5 := Aside0.mk (Kd.R_below HO4.out hb5)
        have HP5 := Aside0.mk (Kd.R_below HP4.out hb5)
        obtain ⟨Ab, cb, hvb, _, hCb⟩ := Kd.R_reads hr5
        subst hvb
        have HCB := Aside0.mk hCb
        clear hb5 hr5 hCb HB3 HO3 HP3 HB4 HO4 HP4
        simp only []
        obtain ⟨bn, hbn⟩ : ∃ b, bigB x.length = b := ⟨_, rfl⟩
        rw [hbn] at HCB ⊢
        have HBN := Aside0.mk hbn
        have hbl : bn.length = 4 := by rw [← hbn]; rfl
        have HBL4 := Aside0.mk hbl
        clear hbn hbl
        obtain ⟨tb1, htb1⟩ : ∃ b, magicB ++ tb hd = b := ⟨_, rfl⟩
        have hl1 : tb1.length ≤ 99 := by rw [← htb1, List.length_append, tb_len]; have := HHS.out; show 8 + hd.size ≤ 99; omega
        rw [htb1] at HO5
        have HT1 := Aside0.mk htb1
        have HL1 := Aside0.mk hl1
        clear htb1 hl1
        go_wp2_with (first | ((with_reducible refine gate_builtin (b := .append) (xs := #[.tmp 124, .tmp 127]) rfl ?_); at_builtin; refine Kd.R_append_rows (Kd.int .u8) (w0 := w) w.heap.size rfl (.tmp 124) (.tmp 127) 24 5 (.int .u8 0) 1 rfl Tryd.underlying24 info5 rfl (by decide) (by omega) (v17) (tb1) (bn) _ _ _ (fun _ => True) (fun _ => False) rfl rfl ?aO ?aR (fun _ _ h => h) (fun _ h => h.elim) (fun _ _ => trivial) ?aB ?aS ?aL ?_; (case aR => exact HCB.out); (case aO => exact HO5.out); (case aB => exact HB5.out); (case aS => exact HB5.out.size); (case aL => have := HL1.out; have := HBL4.out; omega); intro v18 w6 ho hb hg hat; have HB6 := Aside0.mk hb; have HO6 := Aside0.mk ho; have HP6 := Aside0.mk (Kd.R_over HP5.out HO5.out (by decide) hg); clear ho hb hg hat))
        clear HB5 HO5 HP5 HCB
        obtain ⟨q0, hq0⟩ : ∃ b, tb1 ++ bn = b := ⟨_, rfl⟩
        have hq0l : q0.length ≤ 103 := by rw [← hq0, List.length_append]; have := HL1.out; have := HBL4.out; omega
        rw [hq0] at HO6
        have HQ0 := Aside0.mk hq0
        have HQL := Aside0.mk hq0l
        clear hq0 hq0l
        go_loopw [16, 131] (fun v16 v131 wr => ∃ q : Nat, v131 = .int .i64 q ∧ Aside0 (q ≤ x.length) ∧ Aside0 (Below w.heap.size w wr) ∧ Aside0 ((Kd.int .i64).R 3 wr w.heap.size (fun _ => True) u13 pls) ∧ Aside0 ((Kd.int .u8).R 5 wr w.heap.size (fun _ => True) v16 (q0 ++ idxB l x q))) (fun _ v131 _ => x.length - (intOf v131).toNat)
        case atStart => exact ⟨0, rfl, ⟨Nat.zero_le _⟩, HB6, HP6, ⟨by rw [idxB_zero, List.append_nil]; exact HO6.out⟩⟩
        case round =>
          obtain ⟨wq, rfl⟩ : ∃ q, q = wr := ⟨_, rfl⟩
          obtain ⟨q, rfl, HQ, HBQ, HPQ, HOQ⟩ := hrel
          clear HB6 HP6 HO6
          have hlen := HXn.out
          obtain ⟨ix, hix⟩ : ∃ s, q0 ++ idxB l x q = s := ⟨_, rfl⟩
          rw [hix] at HOQ
          have hixl : ix.length ≤ 103 + 4 * x.length := by rw [← hix, List.length_append, idxB_len l x q HQ.out]; have := HQL.out; have := HQ.out; omega
          have HIX := Aside0.mk hix
          have HIXL := Aside0.mk hixl
          clear hix hixl
          by_cases hq : q < x.length
          · have hqI : (q : Int) < (x.length : Int) := by omega
            have HWQ : Aside0 (wrap64 ((q : Int) + 1) = ((q + 1 : Nat) : Int)) := ⟨by unfold wrap64; omega⟩
            obtain ⟨ad, rfl, e0, e1⟩ := at_T43 (Kd.C_below HR1.out HBQ.out) (q : Int) (by omega) hqI
            obtain ⟨y, hy⟩ : ∃ y, rd_T43 x (q : Int) = y := ⟨_, rfl⟩
            rw [hy] at e0 e1
            rw [Int.toNat_natCast] at e0 e1
            have hyg : x.getD q z43 = y := by rw [← hy]; unfold rd_T43; rw [Int.toNat_natCast]
            obtain ⟨j2, hj2, hj3⟩ : ∃ j : Nat, y.f1 = (j : Int) ∧ j < l.length := by have h := idx_at l x q hq HAL.out; rw [hyg] at h; exact ⟨y.f1.toNat, by omega, by omega⟩
            have HYG := Aside0.mk hyg
            rw [hj2] at e1
            have hxs : idxB l x (q + 1) = idxB l x q ++ bigB ((places (first x) l).getD j2 0) := by rw [idxB_succ l x q hq, hyg, hj2, Int.toNat_natCast]
            have HXS := Aside0.mk hxs
            clear hy hyg hlen hxs
            go_upto_region 37 with fail
            clear e0 e1
            obtain ⟨yn, hyn⟩ : ∃ s, y.f0 = s := ⟨_, rfl⟩
            rw [hyn]
            clear hyn hj2
            generalize hwb : wq.alloc (.cells #[.string yn, .int .i64 (j2 : Int)] 43 (0, 0)) = wb
            have HB7 : Aside0 (Below w.heap.size w wb) := ⟨by rw [← hwb]; exact below_alloc HBQ.out _⟩
            have HO7 := Aside0.mk (show (Kd.int .u8).R 5 wb w.heap.size (fun _ => True) u16 ix by rw [← hwb]; exact Kd.R_alloc HOQ.out _)
            have HP7 := Aside0.mk (show (Kd.int .i64).R 3 wb w.heap.size (fun _ => True) u13 pls by rw [← hwb]; exact Kd.R_alloc HPQ.out _)
            have b1 : wb.cell? ⟨wq.heap.size, 1, none⟩ = some (.int .i64 (j2 : Int)) := by rw [← hwb]; exact blk_cell (heap_alloc_new _ _) 1
            clear hwb HBQ HPQ HOQ
            obtain ⟨A13, c13, hu13, hle13, hC13⟩ := Kd.R_reads HP7.out
            subst hu13
            obtain ⟨ap, hA13, a0⟩ := at_N hC13 j2 (by rw [HPLL.out]; exact hj3)
            subst hA13
            rw [← HPLS.out, getD_map _ _ (by rw [places_len]; exact hj3)] at a0
            obtain ⟨pj, hpj⟩ : ∃ p, (places (first x) l).getD j2 0 = p := ⟨_, rfl⟩
            rw [hpj] at a0 HXS
            have hj3I : (j2 : Int) < (pls.length : Int) := by rw [HPLL.out]; omega
            have HC13 := Aside0.mk hC13
            have hj4 : j2 < pls.length := by omega
            clear hpj hC13
            go_wp2_with fail
            have BC := big_calls pj wb
            refine BC.mono ?_
            clear BC a0 b1
            intro e w8 h8
            obtain ⟨vb, h8, hr8, hb8⟩ := h8
            subst h8
            have HB8 : Aside0 (Below w.heap.size w w8) := ⟨HB7.out.trans (hb8.mono HB7.out.size)⟩
            have HO8 := Aside0.mk (Kd.R_below HO7.out hb8)
            have HP8 := Aside0.mk (Kd.R_below HP7.out hb8)
            obtain ⟨Ab2, cb2, hvb, _, hCb⟩ := Kd.R_reads hr8
            subst hvb
            have HCB := Aside0.mk hCb
            clear hb8 hr8 hCb HB7 HO7 HP7 HC13
            simp only []
            obtain ⟨bj, hbj⟩ : ∃ b, bigB pj = b := ⟨_, rfl⟩
            rw [hbj] at HCB HXS ⊢
            have hbl : bj.length = 4 := by rw [← hbj]; rfl
            have HBJ4 := Aside0.mk hbl
            clear hbj hbl
            go_wp2_with (first | ((with_reducible refine gate_builtin (b := .append) (xs := #[.tmp 135, .tmp 141]) rfl ?_); at_builtin; refine Kd.R_append_rows (Kd.int .u8) (w0 := w) w.heap.size rfl (.tmp 135) (.tmp 141) 24 5 (.int .u8 0) 1 rfl Tryd.underlying24 info5 rfl (by decide) (by omega) (u16) (ix) (bj) _ _ _ (fun _ => True) (fun _ => False) rfl rfl ?aO ?aR (fun _ _ h => h) (fun _ h => h.elim) (fun _ _ => trivial) ?aB ?aS ?aL ?_; (case aR => exact HCB.out); (case aO => exact HO8.out); (case aB => exact HB8.out); (case aS => exact HB8.out.size); (case aL => have := HIXL.out; have := HBJ4.out; have := HXn.out; omega); intro v19 w9 ho hb hg hat; have HB9 := Aside0.mk hb; have HO9 := Aside0.mk ho; have HP9 := Aside0.mk (Kd.R_over HP8.out HO8.out (by decide) hg); clear ho hb hg hat))
            refine ⟨?_, meas hq (by first | exact HWQ.out | omega)⟩
            refine Exists.intro (q + 1) ?_
            exact ⟨by first | rfl | (rw [HWQ.out]; done) | exact int_eq (by omega), ⟨hq⟩, HB9, HP9, ⟨by rw [HXS.out, ← List.append_assoc, HIX.out]; exact HO9.out⟩⟩
          have hqn : q = x.length := by have := HQ.out; omega
          have hqI : ¬ ((q : Int) < (x.length : Int)) := by omega
          rw [hqn] at HIX
          clear HQ hqn hq hlen
          have HS0 : Aside0 ((ix ++ nm.data.toList.map (fun b => (b.toNat : Int))).length ≤ 30000000000000) := ⟨by rw [List.length_append, List.length_map, Array.length_toList]; have := HIXL.out; have := HXn.out; have := HNS.out; show ix.length + nm.size ≤ _; omega⟩
          have HSE : Aside0 (startB l x = ix ++ nm.data.toList.map (fun b => (b.toNat : Int))) := ⟨by unfold startB indexB namesB; rw [if_neg hxe, tb_len, HNX.out, HHN.out, HHD.out, ← HIX.out, ← HQ0.out, ← HT1.out, ← HBN.out]; unfold idxB; rw [List.take_length]; simp only [List.append_assoc]; rfl⟩
          go_wp2_with (first | ((with_reducible refine gate_builtin (b := .append) (xs := #[.tmp 144, .tmp 145]) rfl ?_); at_builtin; refine App.R_append_str (w0 := w) w.heap.size rfl (.tmp 144) (.tmp 145) 24 9 5 rfl Tryd.underlying24 Tryd.underlying9 info5 (u16) (ix) nm (fun _ => True) rfl rfl (fun _ _ => trivial) ?aO ?aB ?aS ?aL ?_; (case aO => exact HOQ.out); (case aB => exact HBQ.out); (case aS => exact HBQ.out.size); (case aL => have := HIXL.out; have := HXn.out; have := HNS.out; omega); intro v20 w10 ho hb hg; have HB10 := Aside0.mk hb; have HO10 := Aside0.mk ho; have HP10 := Aside0.mk (Kd.R_over HPQ.out HOQ.out (by decide) hg); clear ho hb hg))
          obtain ⟨s0, hs0⟩ : ∃ s, ix ++ nm.data.toList.map (fun b => (b.toNat : Int)) = s := ⟨_, rfl⟩
          rw [hs0] at HO10 HSE HS0
          clear hs0 HP10 HPLS HPLL HBQ HOQ HPQ
          go_loopw [16, 149] (fun v16 v149 wr => ∃ k : Nat, v149 = .int .i64 k ∧ Aside0 (k ≤ l.length) ∧ Aside0 (Below w.heap.size w wr) ∧ Aside0 (Out wr w.heap.size v16 ((l.take k).foldl addM s0))) (fun _ v149 _ => l.length - (intOf v149).toNat)
          case atStart => exact ⟨0, rfl, ⟨Nat.zero_le _⟩, HB10, ⟨.inl HO10.out⟩⟩
          case round =>
            obtain ⟨wt, rfl⟩ : ∃ q, q = wr := ⟨_, rfl⟩
            obtain ⟨k2, rfl, HK2, HBT, HOT⟩ := hrel
            clear HB10 HO10
            have hlen := HLn.out
            have hfl := fold_len l s0 (by have := HM.out; omega) k2 HK2.out
            obtain ⟨os, hos⟩ : ∃ o, (l.take k2).foldl addM s0 = o := ⟨_, rfl⟩
            rw [hos] at hfl HOT
            have HOF := Aside0.mk hos
            have HOL : Aside0 (os.length ≤ 40000000000000) := ⟨by have h1 := mM_take l k2; have h2 := HM.out; have h3 := HS0.out; omega⟩
            clear hfl hos
            by_cases hk2 : k2 < l.length
            · have hkI : (k2 : Int) < (l.length : Int) := by omega
              have HWT : Aside0 (wrap64 ((k2 : Int) + 1) = ((k2 + 1 : Nat) : Int)) := ⟨by unfold wrap64; omega⟩
              obtain ⟨ad, A2, c2, rfl, e0w, e1w, _, hcy⟩ := at_T39 HR.out (k2 : Int) (by omega) hkI
              obtain ⟨y, hy⟩ : ∃ y, rd_T39 l (k2 : Int) = y := ⟨_, rfl⟩
              rw [hy] at e0w e1w hcy
              rw [Int.toNat_natCast] at e0w e1w
              have e0 := pw_cell_below HBT.out e0w
              have e1 := pw_cell_below HBT.out e1w
              clear e0w e1w
              have hyg : l.getD k2 z39 = y := by rw [← hy]; unfold rd_T39; rw [Int.toNat_natCast]
              have HYG := Aside0.mk hyg
              have hyz := mem_mM l k2 hk2
              rw [hyg] at hyz
              have HCY := Aside0.mk hcy
              have HLZ2 : Aside0 (y.f1.length ≤ 1099511627776) := ⟨by have := HM.out; omega⟩
              have HLZ : Aside0 (y.f1.length ≤ 9223372036854775807) := ⟨by have := HLZ2.out; omega⟩
              have hfs : y.f0.size ≤ 1099511627776 := by have := HM.out; omega
              have HFS := Aside0.mk hfs
              have HSZ : Aside0 ((y.f0 ++ (⟨#[47]⟩ : ByteArray)).size ≤ 140737488351233) := ⟨by rw [ByteArray.size_append, show (⟨#[47]⟩ : ByteArray).size = 1 from rfl]; omega⟩
              have nq1 : ¬ (9223372036854775807 < y.f0.size + 1) := by omega
              have hhs := headS_size (y.f0 ++ (⟨#[47]⟩ : ByteArray)) y.f1.length HLZ.out
              have hhp := headS_pos (y.f0 ++ (⟨#[47]⟩ : ByteArray)) y.f1.length
              obtain ⟨hd, hhd⟩ : ∃ h, headS (y.f0 ++ (⟨#[47]⟩ : ByteArray)) y.f1.length = h := ⟨_, rfl⟩
              rw [hhd] at hhs hhp
              have HHDX : Aside0 (headS (y.f0 ++ (⟨#[47]⟩ : ByteArray)) y.f1.length = hd) := ⟨hhd⟩
              have HHP := Aside0.mk hhp
              have HHS : Aside0 (hd.size ≤ 1099511629000) := ⟨by rw [ByteArray.size_append, show (⟨#[47]⟩ : ByteArray).size = 1 from rfl] at hhs; omega⟩
              clear hy hyg hyz hlen hcy hhd hhs hhp hfs
              skip
              go_upto_region 43 with fail
              clear e0 e1
              generalize hwz : wt.alloc (.cells #[.string y.f0, .slice A2 y.f1.length c2] 39 (0, 0)) = wz
              have HBZ : Aside0 (Below w.heap.size w wz) := ⟨by rw [← hwz]; exact below_alloc HBT.out _⟩
              have HOZ := Aside0.mk (show Out wz w.heap.size u16 os by rw [← hwz]; exact HOT.out.below (below_alloc (Below.refl _ _) _))
              have b0 : wz.cell? ⟨wt.heap.size, 0, none⟩ = some (.string y.f0) := by rw [← hwz]; exact blk_cell (heap_alloc_new _ _) 0
              have b1 : wz.cell? ⟨wt.heap.size, 1, none⟩ = some (.slice A2 y.f1.length c2) := by rw [← hwz]; exact blk_cell (heap_alloc_new _ _) 1
              have HBK : Aside0 (wz.heap[wt.heap.size]? = some (.cells #[.string y.f0, .slice A2 y.f1.length c2] 39 (0, 0))) := ⟨by rw [← hwz]; exact heap_alloc_new _ _⟩
              clear hwz HBT HOT
              obtain ⟨A16, c16, hu16, hle16, _⟩ := HOZ.out.reads
              subst hu16
              clear hle16
              by_cases hodd : os.length % 2 = 1
              · have HRZ : Aside0 ((Kd.int .u8).R 5 wz w.heap.size (fun _ => True) (.slice A16 os.length c16) os) := ⟨by rcases HOZ.out with h | ⟨h, _⟩; exact h; rw [h] at hodd; exact absurd hodd (by decide)⟩
                have ho1 : ¬ ((os.length : Int) % 2 = 0) := by omega
                have HAD : Aside0 (addM os y = ((os ++ [10]) ++ tb hd) ++ y.f1) := ⟨by unfold addM; rw [if_pos hodd, HHDX.out]⟩
                have HOL2 : Aside0 ((os ++ [10]).length ≤ 40000000000001) := ⟨by rw [List.length_append]; show os.length + 1 ≤ _; have := HOL.out; omega⟩
                clear b0 b1 HOZ
                go_upto_region 44 with fail
                go_upto_region 45 with (first | ((with_reducible refine gate_builtin (b := .append) (xs := #[.tmp 157, .tmp 158]) rfl ?_); at_builtin; refine Kd.R_append (Kd.int .u8) (w0 := w) w.heap.size rfl (.tmp 157) (.tmp 158) 24 5 (.int .u8 0) 1 rfl Tryd.underlying24 info5 rfl (by decide) (by omega) (.slice A16 os.length c16) os 10 [.int .u8 10] (fun _ => True) (fun _ => False) rfl rfl ?aP (fun _ hk => hk.elim) ?aF ?aO ?aB ?aS ?aL ?_; (case aP => exact rfl); (case aB => exact HBZ.out); (case aF => exact (fun _ _ => trivial)); (case aO => exact HRZ.out); (case aS => exact HBZ.out.size); (case aL => have := HOL.out; omega); intro v20 wy ho hb hg hat; have hbx := (hg.block _ (Array.getElem?_eq_some_iff.1 HBK.out).1 (Kd.R_ne HRZ.out HBK.out (by decide))).trans HBK.out; have b0 := blk_cell hbx 0; have b1 := blk_cell hbx 1; have HBY := Aside0.mk hb; have HOY := Aside0.mk ho; clear ho hb hg hat))
                have HBX := Aside0.mk hbx
                clear HBZ HRZ HBK hodd ho1 hbx
                refine start_ (n := 13) (S := fun w' => w'.heap[wt.heap.size]? = some (.cells #[.string y.f0, .slice A2 y.f1.length c2] 39 (0, 0)) ∧ w'.cell? ⟨wt.heap.size, 0, none⟩ = some (.string y.f0) ∧ w'.cell? ⟨wt.heap.size, 1, none⟩ = some (.slice A2 y.f1.length c2)) (ds := [11, 12]) #[false, false, false, false, false, false, false, false, false, false, false, false, false] (by kernel_rfl) rfl rfl ⟨HBX.out, b0, b1⟩ (fun hHeld => ?_)
                refine with_tabW tab8_45 bits8_45 (fun HT_ HW_ => ?_)
                have HBD : Aside0 (Below w.heap.size w wy.drew) := ⟨pw_below_grown HBY.out none HBY.out.size ⟨rfl, rfl, rfl, Nat.le_refl _, fun _ _ _ => rfl⟩ (fun q hq => by cases hq)⟩
                have HOD := Aside0.mk (show Out wy.drew w.heap.size (v20) (os ++ [10]) from .inl (Kd.R_below HOY.out (below_drew (Below.refl wy.heap.size wy))))
                generalize wy.drew = wd at HBD HOD hHeld ⊢
                clear b0 b1 HBX HBY HOY
                refine pure_ (i := 0) (N := some 160) (v := ?_) (a' := ?_) #[true, false, false, false, false, false, false, false, false, false, false, false, false] rfl rfl (any_of HT_.out (by kernel_rfl)) (fun _ _ _ h => h) (Or.inl ⟨by rfl, ?_⟩) ?_ ?_
                rotate_left
                · intro w'
                  go_simp
                  with_reducible rfl
                rotate_left
                · skip
                  simp only [Act.put, List.setIfInBounds_toArray, List.set_cons_zero, List.set_cons_succ, i64_w, i32_w]
                  rfl
                refine pure_ (i := 1) (N := some 161) (v := ?_) (a' := ?_) #[true, true, false, false, false, false, false, false, false, false, false, false, false] rfl rfl (any_of HT_.out (by kernel_rfl)) (fun _ _ _ h => h) (Or.inl ⟨by rfl, ?_⟩) ?_ ?_
                rotate_left
                · intro w'
                  go_simp
                  with_reducible rfl
                rotate_left
                · skip
                  simp only [Act.put, List.setIfInBounds_toArray, List.set_cons_zero, List.set_cons_succ, i64_w, i32_w]
                  rfl
                refine take_ (i := 2) (N := some 162) (v := ?_) (a' := ?_) #[true, true, true, false, false, false, false, false, false, false, false, false, false] rfl rfl (take_ofW HT_.out HW_.out (by kernel_rfl)) (fun _ _ _ h => h) (Or.inl ⟨by rfl, ?_⟩) hHeld ?_ ?_
                rotate_left
                · rintro w' ⟨s0, s1, s2⟩
                  go_simp
                  with_reducible rfl
                rotate_left
                · skip
                  simp only [Act.put, List.setIfInBounds_toArray, List.set_cons_zero, List.set_cons_succ, i64_w, i32_w]
                  rfl
                refine pure_ (i := 3) (N := some 163) (v := ?_) (a' := ?_) #[true, true, true, true, false, false, false, false, false, false, false, false, false] rfl rfl (any_of HT_.out (by kernel_rfl)) (fun _ _ _ h => h) (Or.inl ⟨by rfl, ?_⟩) ?_ ?_
                rotate_left
                · intro w'
                  go_simp
                  with_reducible rfl
                rotate_left
                · skip
                  simp only [Act.put, List.setIfInBounds_toArray, List.set_cons_zero, List.set_cons_succ, i64_w, i32_w]
                  rfl
                refine pure_ (i := 4) (N := some 164) (v := ?_) (a' := ?_) #[true, true, true, true, true, false, false, false, false, false, false, false, false] rfl rfl (any_of HT_.out (by kernel_rfl)) (fun _ _ _ h => h) (Or.inl ⟨by rfl, ?_⟩) ?_ ?_
                rotate_left
                · intro w'
                  go_simp
                  with_reducible rfl
                rotate_left
                · skip
                  simp only [Act.put, List.setIfInBounds_toArray, List.set_cons_zero, List.set_cons_succ, i64_w, i32_w]
                  rfl
                refine take_ (i := 5) (N := some 165) (v := ?_) (a' := ?_) #[true, true, true, true, true, true, false, false, false, false, false, false, false] rfl rfl (take_ofW HT_.out HW_.out (by kernel_rfl)) (fun _ _ _ h => h) (Or.inl ⟨by rfl, ?_⟩) hHeld ?_ ?_
                rotate_left
                · rintro w' ⟨s0, s1, s2⟩
                  go_simp
                  with_reducible rfl
                rotate_left
                · skip
                  simp only [Act.put, List.setIfInBounds_toArray, List.set_cons_zero, List.set_cons_succ, i64_w, i32_w]
                  rfl
                refine pure_ (i := 6) (N := some 166) (v := ?_) (a' := ?_) #[true, true, true, true, true, true, true, false, false, false, false, false, false] rfl rfl (any_of HT_.out (by kernel_rfl)) (fun _ _ _ h => h) (Or.inl ⟨by rfl, ?_⟩) ?_ ?_
                rotate_left
                · intro w'
                  go_simp
                  with_reducible rfl
                rotate_left
                · skip
                  simp only [Act.put, List.setIfInBounds_toArray, List.set_cons_zero, List.set_cons_succ, i64_w, i32_w]
                  rfl
                refine pure_ (i := 9) (N := some 169) (v := ?_) (a' := ?_) #[true, true, true, true, true, true, true, false, false, true, false, false, false] rfl rfl (any_of HT_.out (by kernel_rfl)) (fun _ _ _ h => h) (Or.inl ⟨by rfl, ?_⟩) ?_ ?_
                rotate_left
                · intro w'
                  go_simp
                  with_reducible rfl
                rotate_left
                · skip
                  simp only [Act.put, List.setIfInBounds_toArray, List.set_cons_zero, List.set_cons_succ, i64_w, i32_w]
                  rfl
                refine take_ (i := 10) (N := some 170) (v := ?_) (a' := ?_) #[true, true, true, true, true, true, true, false, false, true, true, false, false] rfl rfl (take_ofW HT_.out HW_.out (by kernel_rfl)) (fun _ _ _ h => h) (Or.inl ⟨by rfl, ?_⟩) hHeld ?_ ?_
                rotate_left
                · rintro w' ⟨s0, s1, s2⟩
                  go_simp
                  with_reducible rfl
                rotate_left
                · skip
                  simp only [Act.put, List.setIfInBounds_toArray, List.set_cons_zero, List.set_cons_succ, i64_w, i32_w]
                  rfl
                refine one_ (i := 7) (N := some 167) #[true, true, true, true, true, true, true, true, false, true, true, false, false] rfl rfl (one_of HT_.out (by kernel_rfl)) (by decide) (fun K hK => ?_)
                refine goes_ Tryd.func22 (by kernel_rfl) rfl #[.string (y.f0 ++ (⟨#[47]⟩ : ByteArray)), .int .i64 ((y.f1.length : Nat) : Int)] (by rfl) rfl rfl (by (try simp only [List.map_toArray, List.map_cons, List.map_nil]); first | done | rfl) ?_
                refine (head_calls (y.f0 ++ (⟨#[47]⟩ : ByteArray)) y.f1.length HSZ.out HLZ.out wd (HV.out.below HBD.out)).mono ?_
                intro e w2 h2
                obtain ⟨h2, hb2⟩ := h2
                subst h2
                refine ⟨_, rfl, ?_⟩
                rw [HHDX.out]
                refine hK.out _ _ ⟨(hb2.block _ (Array.getElem?_eq_some_iff.1 hHeld.1).1).trans hHeld.1, pw_cell_below hb2 hHeld.2.1, pw_cell_below hb2 hHeld.2.2⟩ (fun hS1 => ?_)
                clear hK K
                refine norm_ (a' := ?_) ?_ ?_
                rotate_left
                · show Act.put _ (some 167) _ = _
                  simp only [Act.put, List.setIfInBounds_toArray, List.set_cons_zero, List.set_cons_succ, i64_w, i32_w]
                  rfl
                have HBE : Aside0 (Below w.heap.size w w2) := ⟨HBD.out.trans (hb2.mono HBD.out.size)⟩
                have HOE := Aside0.mk (HOD.out.below hb2)
                clear HBD HOD hHeld hb2
                refine one_ (i := 8) (N := some 168) #[true, true, true, true, true, true, true, true, true, true, true, false, false] rfl rfl (one_of HT_.out (by kernel_rfl)) (by decide) (fun K hK => ?_)
                refine Out_append_str_step (w0 := w) w.heap.size (by rfl) (.tmp 160) (.tmp 167) 24 9 rfl Tryd.underlying24 Tryd.underlying9 info5 (v20) (os ++ [10]) hd rfl rfl HHP.out HOE.out HBE.out HBE.out.size (by have := HOL2.out; have := HHS.out; omega) ?_
                intro v21 w11 row ho hb hg hrow
                have hbk := blk_keep hg hrow hS1.1
                have HBG := Aside0.mk hb
                have HOG := Aside0.mk ho
                clear ho hb HBE HOE hg hrow
                refine hK.out _ _ ⟨hbk, blk_cell hbk 0, blk_cell hbk 1⟩ (fun hS2 => ?_)
                clear hK K
                refine norm_ (a' := ?_) ?_ ?_
                rotate_left
                · show Act.put _ (some 168) _ = _
                  simp only [Act.put, List.setIfInBounds_toArray, List.set_cons_zero, List.set_cons_succ, i64_w, i32_w]
                  rfl
                clear hS1 hbk hS2
                refine last_ (i := 11) (N := some 171) #[true, true, true, true, true, true, true, true, true, true, true, true, false] rfl rfl (one_of HT_.out (by kernel_rfl)) (by decide) (fun K hK => ?_)
                refine Kd.R_append_rows_step (Kd.int .u8) (w0 := w) w.heap.size (by rfl) (.tmp 168) (.tmp 170) 24 5 (.int .u8 0) 1 rfl Tryd.underlying24 info5 rfl (by decide) (by omega) v21 (os ++ [10] ++ tb hd) y.f1 _ _ _ (fun _ => True) (fun _ => False) rfl rfl HOG.out (Kd.C_below HCY.out HBG.out) (fun _ _ h => h) (fun _ h => h.elim) (fun _ _ => trivial) HBG.out HBG.out.size (by rw [List.length_append, tb_len]; have := HOL2.out; have := HHS.out; have := HLZ2.out; omega) ?_
                intro v22 w12 ho hb hg hat
                have HBH := Aside0.mk hb
                have HOH := Aside0.mk ho
                clear ho hb hg hat HBG HOG
                refine hK.out _ _ ?_
                clear hK K
                refine norm_ (a' := ?_) ?_ ?_
                rotate_left
                · show Act.put _ (some 171) _ = _
                  simp only [Act.put, List.setIfInBounds_toArray, List.set_cons_zero, List.set_cons_succ, i64_w, i32_w]
                  rfl
                refine last_ (i := 12) (N := some 16) #[true, true, true, true, true, true, true, true, true, true, true, true, true] rfl rfl (one_of HT_.out (by kernel_rfl)) (by decide) (fun K hK => ?_)
                refine value_ (w1 := ?_) (v := ?_) (by rfl) rfl ?_ ?_
                rotate_left 2
                · go_simp
                  constructor
                  · rfl
                  rfl
                refine hK.out _ _ ?_
                clear hK K
                refine norm_ (a' := ?_) ?_ ?_
                rotate_left
                · show Act.put _ (some 16) _ = _
                  simp only [Act.put, List.setIfInBounds_toArray, List.set_cons_zero, List.set_cons_succ, i64_w, i32_w]
                  rfl
                refine done_ (done_of HT_.out (by kernel_rfl)) ?_
                go_wp2_with fail
                refine ⟨?_, meas hk2 (by first | exact HWT.out | omega)⟩
                refine Exists.intro (k2 + 1) ?_
                exact ⟨by first | rfl | (rw [HWT.out]; done) | exact int_eq (by omega), ⟨hk2⟩, HBH, ⟨by rw [fold_take l s0 k2 hk2, HOF.out, HYG.out, HAD.out]; exact .inl HOH.out⟩⟩
              have ho1 : (os.length : Int) % 2 = 0 := by omega
              have HAD : Aside0 (addM os y = (os ++ tb hd) ++ y.f1) := ⟨by unfold addM; rw [if_neg hodd, HHDX.out]⟩
              go_upto_region 45 with fail
              have HBX := HBK
              clear HBK hodd ho1
              refine start_ (n := 13) (S := fun w' => w'.heap[wt.heap.size]? = some (.cells #[.string y.f0, .slice A2 y.f1.length c2] 39 (0, 0)) ∧ w'.cell? ⟨wt.heap.size, 0, none⟩ = some (.string y.f0) ∧ w'.cell? ⟨wt.heap.size, 1, none⟩ = some (.slice A2 y.f1.length c2)) (ds := [11, 12]) #[false, false, false, false, false, false, false, false, false, false, false, false, false] (by kernel_rfl) rfl rfl ⟨HBX.out, b0, b1⟩ (fun hHeld => ?_)
              refine with_tabW tab8_45 bits8_45 (fun HT_ HW_ => ?_)
              have HBD : Aside0 (Below w.heap.size w wz.drew) := ⟨pw_below_grown HBZ.out none HBZ.out.size ⟨rfl, rfl, rfl, Nat.le_refl _, fun _ _ _ => rfl⟩ (fun q hq => by cases hq)⟩
              have HOD := Aside0.mk (HOZ.out.below (below_drew (Below.refl wz.heap.size wz)))
              generalize wz.drew = wd at HBD HOD hHeld ⊢
              clear b0 b1 HBX HBZ HOZ
              refine pure_ (i := 0) (N := some 160) (v := ?_) (a' := ?_) #[true, false, false, false, false, false, false, false, false, false, false, false, false] rfl rfl (any_of HT_.out (by kernel_rfl)) (fun _ _ _ h => h) (Or.inl ⟨by rfl, ?_⟩) ?_ ?_
              rotate_left
              · intro w'
                go_simp
                with_reducible rfl
              rotate_left
              · skip
                simp only [Act.put, List.setIfInBounds_toArray, List.set_cons_zero, List.set_cons_succ, i64_w, i32_w]
                rfl
              refine pure_ (i := 1) (N := some 161) (v := ?_) (a' := ?_) #[true, true, false, false, false, false, false, false, false, false, false, false, false] rfl rfl (any_of HT_.out (by kernel_rfl)) (fun _ _ _ h => h) (Or.inl ⟨by rfl, ?_⟩) ?_ ?_
              rotate_left
              · intro w'
                go_simp
                with_reducible rfl
              rotate_left
              · skip
                simp only [Act.put, List.setIfInBounds_toArray, List.set_cons_zero, List.set_cons_succ, i64_w, i32_w]
                rfl
              refine take_ (i := 2) (N := some 162) (v := ?_) (a' := ?_) #[true, true, true, false, false, false, false, false, false, false, false, false, false] rfl rfl (take_ofW HT_.out HW_.out (by kernel_rfl)) (fun _ _ _ h => h) (Or.inl ⟨by rfl, ?_⟩) hHeld ?_ ?_
              rotate_left
              · rintro w' ⟨s0, s1, s2⟩
                go_simp
                with_reducible rfl
              rotate_left
              · skip
                simp only [Act.put, List.setIfInBounds_toArray, List.set_cons_zero, List.set_cons_succ, i64_w, i32_w]
                rfl
              refine pure_ (i := 3) (N := some 163) (v := ?_) (a' := ?_) #[true, true, true, true, false, false, false, false, false, false, false, false, false] rfl rfl (any_of HT_.out (by kernel_rfl)) (fun _ _ _ h => h) (Or.inl ⟨by rfl, ?_⟩) ?_ ?_
              rotate_left
              · intro w'
                go_simp
                with_reducible rfl
              rotate_left
              · skip
                simp only [Act.put, List.setIfInBounds_toArray, List.set_cons_zero, List.set_cons_succ, i64_w, i32_w]
                rfl
              refine pure_ (i := 4) (N := some 164) (v := ?_) (a' := ?_) #[true, true, true, true, true, false, false, false, false, false, false, false, false] rfl rfl (any_of HT_.out (by kernel_rfl)) (fun _ _ _ h => h) (Or.inl ⟨by rfl, ?_⟩) ?_ ?_
              rotate_left
              · intro w'
                go_simp
                with_reducible rfl
              rotate_left
              · skip
                simp only [Act.put, List.setIfInBounds_toArray, List.set_cons_zero, List.set_cons_succ, i64_w, i32_w]
                rfl
              refine take_ (i := 5) (N := some 165) (v := ?_) (a' := ?_) #[true, true, true, true, true, true, false, false, false, false, false, false, false] rfl rfl (take_ofW HT_.out HW_.out (by kernel_rfl)) (fun _ _ _ h => h) (Or.inl ⟨by rfl, ?_⟩) hHeld ?_ ?_
              rotate_left
              · rintro w' ⟨s0, s1, s2⟩
                go_simp
                with_reducible rfl
              rotate_left
              · skip
                simp only [Act.put, List.setIfInBounds_toArray, List.set_cons_zero, List.set_cons_succ, i64_w, i32_w]
                rfl
              refine pure_ (i := 6) (N := some 166) (v := ?_) (a' := ?_) #[true, true, true, true, true, true, true, false, false, false, false, false, false] rfl rfl (any_of HT_.out (by kernel_rfl)) (fun _ _ _ h => h) (Or.inl ⟨by rfl, ?_⟩) ?_ ?_
              rotate_left
              · intro w'
                go_simp
                with_reducible rfl
              rotate_left
              · skip
                simp only [Act.put, List.setIfInBounds_toArray, List.set_cons_zero, List.set_cons_succ, i64_w, i32_w]
                rfl
              refine pure_ (i := 9) (N := some 169) (v := ?_) (a' := ?_) #[true, true, true, true, true, true, true, false, false, true, false, false, false] rfl rfl (any_of HT_.out (by kernel_rfl)) (fun _ _ _ h => h) (Or.inl ⟨by rfl, ?_⟩) ?_ ?_
              rotate_left
              · intro w'
                go_simp
                with_reducible rfl
              rotate_left
              · skip
                simp only [Act.put, List.setIfInBounds_toArray, List.set_cons_zero, List.set_cons_succ, i64_w, i32_w]
                rfl
              refine take_ (i := 10) (N := some 170) (v := ?_) (a' := ?_) #[true, true, true, true, true, true, true, false, false, true, true, false, false] rfl rfl (take_ofW HT_.out HW_.out (by kernel_rfl)) (fun _ _ _ h => h) (Or.inl ⟨by rfl, ?_⟩) hHeld ?_ ?_
              rotate_left
              · rintro w' ⟨s0, s1, s2⟩
                go_simp
                with_reducible rfl
              rotate_left
              · skip
                simp only [Act.put, List.setIfInBounds_toArray, List.set_cons_zero, List.set_cons_succ, i64_w, i32_w]
                rfl
              refine one_ (i := 7) (N := some 167) #[true, true, true, true, true, true, true, true, false, true, true, false, false] rfl rfl (one_of HT_.out (by kernel_rfl)) (by decide) (fun K hK => ?_)
              refine goes_ Tryd.func22 (by kernel_rfl) rfl #[.string (y.f0 ++ (⟨#[47]⟩ : ByteArray)), .int .i64 ((y.f1.length : Nat) : Int)] (by rfl) rfl rfl (by (try simp only [List.map_toArray, List.map_cons, List.map_nil]); first | done | rfl) ?_
              refine (head_calls (y.f0 ++ (⟨#[47]⟩ : ByteArray)) y.f1.length HSZ.out HLZ.out wd (HV.out.below HBD.out)).mono ?_
              intro e w2 h2
              obtain ⟨h2, hb2⟩ := h2
              subst h2
              refine ⟨_, rfl, ?_⟩
              rw [HHDX.out]
              refine hK.out _ _ ⟨(hb2.block _ (Array.getElem?_eq_some_iff.1 hHeld.1).1).trans hHeld.1, pw_cell_below hb2 hHeld.2.1, pw_cell_below hb2 hHeld.2.2⟩ (fun hS1 => ?_)
              clear hK K
              refine norm_ (a' := ?_) ?_ ?_
              rotate_left
              · show Act.put _ (some 167) _ = _
                simp only [Act.put, List.setIfInBounds_toArray, List.set_cons_zero, List.set_cons_succ, i64_w, i32_w]
                rfl
              have HBE : Aside0 (Below w.heap.size w w2) := ⟨HBD.out.trans (hb2.mono HBD.out.size)⟩
              have HOE := Aside0.mk (HOD.out.below hb2)
              clear HBD HOD hHeld hb2
              refine one_ (i := 8) (N := some 168) #[true, true, true, true, true, true, true, true, true, true, true, false, false] rfl rfl (one_of HT_.out (by kernel_rfl)) (by decide) (fun K hK => ?_)
              refine Out_append_str_step (w0 := w) w.heap.size (by rfl) (.tmp 160) (.tmp 167) 24 9 rfl Tryd.underlying24 Tryd.underlying9 info5 (.slice A16 os.length c16) (os) hd rfl rfl HHP.out HOE.out HBE.out HBE.out.size (by have := HOL.out; have := HHS.out; omega) ?_
              intro v21 w11 row ho hb hg hrow
              have hbk := blk_keep hg hrow hS1.1
              have HBG := Aside0.mk hb
              have HOG := Aside0.mk ho
              clear ho hb HBE HOE hg hrow
              refine hK.out _ _ ⟨hbk, blk_cell hbk 0, blk_cell hbk 1⟩ (fun hS2 => ?_)
              clear hK K
              refine norm_ (a' := ?_) ?_ ?_
              rotate_left
              · show Act.put _ (some 168) _ = _
                simp only [Act.put, List.setIfInBounds_toArray, List.set_cons_zero, List.set_cons_succ, i64_w, i32_w]
                rfl
              clear hS1 hbk hS2
              refine last_ (i := 11) (N := some 171) #[true, true, true, true, true, true, true, true, true, true, true, true, false] rfl rfl (one_of HT_.out (by kernel_rfl)) (by decide) (fun K hK => ?_)
              refine Kd.R_append_rows_step (Kd.int .u8) (w0 := w) w.heap.size (by rfl) (.tmp 168) (.tmp 170) 24 5 (.int .u8 0) 1 rfl Tryd.underlying24 info5 rfl (by decide) (by omega) v21 (os ++ tb hd) y.f1 _ _ _ (fun _ => True) (fun _ => False) rfl rfl HOG.out (Kd.C_below HCY.out HBG.out) (fun _ _ h => h) (fun _ h => h.elim) (fun _ _ => trivial) HBG.out HBG.out.size (by rw [List.length_append, tb_len]; have := HOL.out; have := HHS.out; have := HLZ2.out; omega) ?_
              intro v22 w12 ho hb hg hat
              have HBH := Aside0.mk hb
              have HOH := Aside0.mk ho
              clear ho hb hg hat HBG HOG
              refine hK.out _ _ ?_
              clear hK K
              refine norm_ (a' := ?_) ?_ ?_
              rotate_left
              · show Act.put _ (some 171) _ = _
                simp only [Act.put, List.setIfInBounds_toArray, List.set_cons_zero, List.set_cons_succ, i64_w, i32_w]
                rfl
              refine last_ (i := 12) (N := some 16) #[true, true, true, true, true, true, true, true, true, true, true, true, true] rfl rfl (one_of HT_.out (by kernel_rfl)) (by decide) (fun K hK => ?_)
              refine value_ (w1 := ?_) (v := ?_) (by rfl) rfl ?_ ?_
              rotate_left 2
              · go_simp
                constructor
                · rfl
                rfl
              refine hK.out _ _ ?_
              clear hK K
              refine norm_ (a' := ?_) ?_ ?_
              rotate_left
              · show Act.put _ (some 16) _ = _
                simp only [Act.put, List.setIfInBounds_toArray, List.set_cons_zero, List.set_cons_succ, i64_w, i32_w]
                rfl
              refine done_ (done_of HT_.out (by kernel_rfl)) ?_
              go_wp2_with fail
              refine ⟨?_, meas hk2 (by first | exact HWT.out | omega)⟩
              refine Exists.intro (k2 + 1) ?_
              exact ⟨by first | rfl | (rw [HWT.out]; done) | exact int_eq (by omega), ⟨hk2⟩, HBH, ⟨by rw [fold_take l s0 k2 hk2, HOF.out, HYG.out, HAD.out]; exact .inl HOH.out⟩⟩
            have hkn : k2 = l.length := by have := HK2.out; omega
            have hkI : ¬ ((k2 : Int) < (l.length : Int)) := by omega
            obtain rfl : r = (os, 0) := by rw [HFIN.out, HSE.out, ← HOF.out, hkn, List.take_length]
            go_wp2_with fail
            obtain ⟨A16, c16, hu16, _, _⟩ := HOT.out.reads
            subst hu16
            refine bodyPost_ret (v := .tuple #[.slice A16 os.length c16, .int .i64 0]) (by simp [results, Tryd.results8, go_sem]) rfl ?_
            exact ⟨_, rfl, HOT.out, HBT.out⟩
end Go.Proofs.YtdjmahmbofhnpaaDoor.Ar
