/- ref.Put by contract: putS. Written by wip/r4/arq.py. -/
import Derived.Test.YtdjmahmbofhnpaaDoorQArH
import Derived.Test.YtdjmahmbofhnpaaDoorQArOM
namespace Go.Proofs.YtdjmahmbofhnpaaDoor.Ar
open Go.RowKit Go.Maps Go.WideMaps Go.Proofs.YtdjmahmbofhnpaaDoorW.PrintWords Go.Proofs.YtdjmahmbofhnpaaDoorW.PrintLast Go.Proofs.YtdjmahmbofhnpaaDoor.QAr
set_option linter.unusedVariables false
set_option linter.unusedSimpArgs false
def OutC (w : World) (v : Value) (bs : List Int) : Prop := ∃ A c, v = .slice A bs.length c ∧ bs.length ≤ c ∧ (Kd.int .u8).C w A bs.length bs
theorem outC_nil (w : World) : OutC w (.slice none 0 0) [] := ⟨none, 0, rfl, Nat.le_refl _, rfl, by decide, fun h => absurd h (by decide)⟩
theorem src_str (W : World) (y : ByteArray) : Src Tryd.prog 1 9 (.string y) (tb y).length (nums .u8 (tb y)) W := by
  rw [tb_len, show nums .u8 (tb y) = byteCells y from App.nums_tb y]
  exact Src.ofString W Tryd.underlying9 y
theorem ne_toList {s t : ByteArray} (h : ¬ s = t) : ¬ s.toList = t.toList := fun e => h (by rw [Lib.toList_data, Lib.toList_data] at e; rw [← Lib.mk_data s, e, Lib.mk_data])
theorem take_names (l : List S39) (k : Nat) (h : k < l.length) : (l.take (k + 1)).map S39.f0 = (l.take k).map S39.f0 ++ [(l.getD k z39).f0] := by
  rw [List.take_succ_eq_append_getElem h, List.map_append, List.getD_eq_getElem?_getD, List.getElem?_eq_getElem h]; rfl
theorem seen_snoc (ns : List ByteArray) (a s : ByteArray) : seenB (ns ++ [a]) s = (seenB ns s || decide (a = s)) := by unfold seenB; simp
theorem seen_in (l : List S39) (k i : Nat) (s : ByteArray) (hk : k < i) (hi : i ≤ l.length) (he : (l.getD k z39).f0 = s) : seenB ((l.take i).map S39.f0) s = true := by
  unfold seenB
  rw [List.any_eq_true]
  refine ⟨s, ?_, decide_eq_true rfl⟩
  rw [← he, List.getD_eq_getElem?_getD, List.getElem?_eq_getElem (by omega)]
  refine List.mem_map_of_mem ?_
  have h2 : k < (l.take i).length := by rw [List.length_take]; omega
  have h3 : (l.take i)[k] = l[k] := List.getElem_take
  show l[k] ∈ _
  rw [← h3]
  exact List.getElem_mem h2
def T9_9 : Bool × List (List Nat × List Nat) := (true, [([], []), ([], []), ([0, 1], [0, 1]), ([2], [2]), ([3], [3]), ([], []), ([], []), ([5, 6], [5, 6]), ([7], [7]), ([8], [8]), ([4, 9], [4, 9])])
theorem tab9_9 : rtab .any (opsOf Tryd.f9 9) = T9_9 := by kernel_rfl
def B9_9 : List Nat := [0, 0, 3, 7, 15, 0, 0, 96, 224, 480, 1023]
theorem bits9_9 : waitsOk T9_9.2 B9_9 = true := by kernel_rfl
def T9_51 : Bool × List (List Nat × List Nat) := (true, [([], []), ([], []), ([], []), ([1, 2], [1, 2]), ([3], [3]), ([4], [4]), ([5], [5]), ([], []), ([], []), ([7, 8], [7, 8]), ([9], [9]), ([10], [10]), ([11], [11]), ([6, 12], [6, 12]), ([0, 13, 13], [0, 13]), ([14, 14, 0, 1, 2, 3, 4, 5, 6, 7, 8, 9, 10, 11, 12, 13, 14], [0, 14])])
theorem tab9_51 : rtab .any (opsOf Tryd.f9 51) = T9_51 := by kernel_rfl
def B9_51 : List Nat := [0, 0, 0, 6, 14, 30, 62, 0, 0, 384, 896, 1920, 3968, 8190, 16383, 32767]
theorem bits9_51 : waitsOk T9_51.2 B9_51 = true := by kernel_rfl
set_option maxRecDepth 100000 in
set_option maxHeartbeats 16000000 in
theorem rput_calls (A : Option Addr) (c : Nat) (l : List S39) (hc : l.length ≤ c) (A1 : Option Addr) (c1 : Nat) (x : List S43) (hc1 : x.length ≤ c1) (hm : mM l ≤ 1099511627776) (hx : mX x ≤ 1099511627776) (w : World) (hr : Kd.C k39 w A l.length l) (hr1 : Kd.C k43 w A1 x.length x) :
    Calls Tryd.prog 9 #[.slice A l.length c, .slice A1 x.length c1] w fun e w' => ∃ v, e = .returned (.tuple #[v, .int .i64 (putS l x).2]) ∧ OutC w' v (putS l x).1 ∧ Below w.heap.size w w' := by
  have HR := Aside0.mk hr
  have HR1 := Aside0.mk hr1
  have HM := Aside0.mk hm
  have HX := Aside0.mk hx
  have hLL := len_mM l
  have hXX := len_mX x
  have hLn : l.length ≤ 5497558139 := by omega
  have hXn : x.length ≤ 5497558139 := by omega
  have HLn := Aside0.mk hLn
  have HXn := Aside0.mk hXn
  obtain ⟨r, hrr⟩ : ∃ r, putS l x = r := ⟨_, rfl⟩
  rw [hrr]
  have HRr := Aside0.mk hrr
  clear hr hr1 hm hx hLL hXX hLn hXn hrr hc hc1
  go_enter Tryd.func9, Tryd.ntmps9
  go_wp2_with fail
  go_loopw [6] (fun v6 wr => ∃ i : Nat, v6 = .int .i64 i ∧ Aside0 (i ≤ l.length) ∧ Aside0 (nSt l i = some ((l.take i).map S39.f0)) ∧ Aside0 (Below w.heap.size w wr)) (fun v6 _ => l.length - (intOf v6).toNat)
  case atStart => exact ⟨0, rfl, ⟨Nat.zero_le _⟩, ⟨rfl⟩, ⟨Below.refl _ _⟩⟩
  case round =>
    obtain ⟨wo, rfl⟩ : ∃ q, q = wr := ⟨_, rfl⟩
    obtain ⟨i, rfl, HI, HN, HB⟩ := hrel
    have hlen := HLn.out
    by_cases hi : i < l.length
    · have hiI : (i : Int) < (l.length : Int) := by omega
      have HWI : Aside0 (wrap64 ((i : Int) + 1) = ((i + 1 : Nat) : Int)) := ⟨by unfold wrap64; omega⟩
      obtain ⟨ad, A2, c2, rfl, e0, _, _, _⟩ := at_T39 (Kd.C_below HR.out HB.out) (i : Int) (by omega) hiI
      obtain ⟨y, hy⟩ : ∃ y, rd_T39 l (i : Int) = y := ⟨_, rfl⟩
      rw [hy] at e0
      have hyg : l.getD i z39 = y := by rw [← hy]; unfold rd_T39; rw [Int.toNat_natCast]
      have HYG := Aside0.mk hyg
      have hyz := mem_mM l i hi
      rw [hyg] at hyz
      have hyz2 : y.f0.size ≤ 9223372036854775807 := by have := HM.out; omega
      have HYZ := Aside0.mk hyz2
      rw [Int.toNat_natCast] at e0
      obtain ⟨nm, hnm⟩ : ∃ s, y.f0 = s := ⟨_, rfl⟩
      rw [hnm] at e0 HYZ
      have HNM := Aside0.mk hnm
      have hstep : nSt l (i + 1) = nst (some ((l.take i).map S39.f0)) y := by rw [nSt_succ l i hi, HN.out, hyg]
      have HST := Aside0.mk hstep
      clear hy hyg hyz hyz2 hlen hnm hstep
      obtain ⟨ok, hok⟩ : ∃ b, nameOk nm = b := ⟨_, rfl⟩
      have HOK := Aside0.mk hok
      have NC := Aside0.mk (fun w => rname_calls nm HYZ.out w)
      simp only [hok] at NC
      clear hok
      go_wp2_with fail
      refine (NC.out _).mono ?_
      clear NC
      intro e w2 h2
      obtain ⟨h2, hb2⟩ := h2
      subst h2
      have e2 := pw_cell_below hb2 e0
      have HB2 : Aside0 (Below w.heap.size w w2) := ⟨HB.out.trans (hb2.mono HB.out.size)⟩
      clear hb2 HB e0
      simp only []
      cases ok with
      | false =>
        obtain rfl : r = ([], 2) := HRr.out.symm.trans (by exact putS_names l x (nSt_stop l (i + 1) (by rw [HST.out, nst_some, HNM.out, HOK.out]; rfl) hi))
        go_wp2_with fail
        refine bodyPost_ret (v := .tuple #[.slice none 0 0, .int .i64 2]) (by simp [results, Tryd.results9, go_sem]) rfl ?_
        exact ⟨_, rfl, outC_nil _, HB2.out⟩
      | true =>
        go_wp2_with fail
        go_loopw [7] (fun v7 wr => ∃ k : Nat, v7 = .int .i64 k ∧ Aside0 (k ≤ i) ∧ Aside0 (seenB ((l.take k).map S39.f0) nm = false) ∧ Aside0 (Below w2.heap.size w2 wr)) (fun v7 _ => i - (intOf v7).toNat)
        case atStart => exact ⟨0, rfl, ⟨Nat.zero_le _⟩, ⟨rfl⟩, ⟨Below.refl _ _⟩⟩
        case round =>
          obtain ⟨wk, rfl⟩ : ∃ q, q = wr := ⟨_, rfl⟩
          obtain ⟨k, rfl, HK, HS, HBK⟩ := hrel
          have hlen := HLn.out
          have HB3 : Aside0 (Below w.heap.size w wk) := ⟨HB2.out.trans (HBK.out.mono HB2.out.size)⟩
          by_cases hk : k < i
          · have hkI : (k : Int) < (i : Int) := by omega
            have hkl : k < l.length := by omega
            have HWK : Aside0 (wrap64 ((k : Int) + 1) = ((k + 1 : Nat) : Int)) := ⟨by unfold wrap64; omega⟩
            have hklI : (k : Int) < (l.length : Int) := by omega
            obtain ⟨ad3, A3, c3, hA3, f0, _, _, _⟩ := at_T39 (Kd.C_below HR.out HB3.out) (k : Int) (by omega) hklI
            cases hA3
            obtain ⟨on, hon⟩ : ∃ s, (rd_T39 l (k : Int)).f0 = s := ⟨_, rfl⟩
            rw [hon, Int.toNat_natCast] at f0
            have HON : Aside0 ((l.getD k z39).f0 = on) := ⟨by rw [← hon]; unfold rd_T39; rw [Int.toNat_natCast]⟩
            have e3 := pw_cell_below HBK.out e2
            clear hon hlen
            go_upto_region 9 with fail
            refine start_ (n := 11) (S := fun w' => w'.cell? (ad.add (k * 2)) = some (.string on) ∧ w'.cell? (ad.add (i * 2)) = some (.string nm)) (ds := []) #[false, false, false, false, false, false, false, false, false, false, false] (by kernel_rfl) rfl rfl ⟨f0, e3⟩ (fun hHeld => ?_)
            refine with_tabW tab9_9 bits9_9 (fun HT_ HW_ => ?_)
            have HB4 : Aside0 (Below w.heap.size w wk.drew) := ⟨below_drew HB3.out⟩
            have HBK4 : Aside0 (Below w2.heap.size w2 wk.drew) := ⟨below_drew HBK.out⟩
            generalize wk.drew = wd at HB4 HBK4 hHeld ⊢
            clear f0 e3 HB3 HBK
            refine pure_ (i := 0) (N := some 36) (v := ?_) (a' := ?_) #[true, false, false, false, false, false, false, false, false, false, false] rfl rfl (any_of HT_.out (by kernel_rfl)) (fun _ _ _ h => h) (Or.inl ⟨by rfl, ?_⟩) ?_ ?_
            rotate_left
            · intro w'
              go_simp
              with_reducible rfl
            rotate_left
            · skip
              simp only [Act.put, List.setIfInBounds_toArray, List.set_cons_zero, List.set_cons_succ, i64_w, i32_w]
              rfl
            refine pure_ (i := 1) (N := some 37) (v := ?_) (a' := ?_) #[true, true, false, false, false, false, false, false, false, false, false] rfl rfl (any_of HT_.out (by kernel_rfl)) (fun _ _ _ h => h) (Or.inl ⟨by rfl, ?_⟩) ?_ ?_
            rotate_left
            · intro w'
              go_simp
              with_reducible rfl
            rotate_left
            · skip
              simp only [Act.put, List.setIfInBounds_toArray, List.set_cons_zero, List.set_cons_succ, i64_w, i32_w]
              rfl
            refine pure_ (i := 2) (N := some 38) (v := ?_) (a' := ?_) #[true, true, true, false, false, false, false, false, false, false, false] rfl rfl (any_of HT_.out (by kernel_rfl)) (fun _ _ _ h => h) (Or.inl ⟨by rfl, ?_⟩) ?_ ?_
            rotate_left
            · intro w'
              go_simp
              with_reducible rfl
            rotate_left
            · skip
              simp only [Act.put, List.setIfInBounds_toArray, List.set_cons_zero, List.set_cons_succ, i64_w, i32_w]
              rfl
            refine pure_ (i := 3) (N := some 39) (v := ?_) (a' := ?_) #[true, true, true, true, false, false, false, false, false, false, false] rfl rfl (any_of HT_.out (by kernel_rfl)) (fun _ _ _ h => h) (Or.inl ⟨by rfl, ?_⟩) ?_ ?_
            rotate_left
            · intro w'
              go_simp
              with_reducible rfl
            rotate_left
            · skip
              simp only [Act.put, List.setIfInBounds_toArray, List.set_cons_zero, List.set_cons_succ, i64_w, i32_w]
              rfl
            refine take_ (i := 4) (N := some 40) (v := ?_) (a' := ?_) #[true, true, true, true, true, false, false, false, false, false, false] rfl rfl (take_ofW HT_.out HW_.out (by kernel_rfl)) (fun _ _ _ h => h) (Or.inl ⟨by rfl, ?_⟩) hHeld ?_ ?_
            rotate_left
            · rintro w' ⟨s0, s1⟩
              go_simp
              with_reducible rfl
            rotate_left
            · skip
              simp only [Act.put, List.setIfInBounds_toArray, List.set_cons_zero, List.set_cons_succ, i64_w, i32_w]
              rfl
            refine pure_ (i := 5) (N := some 41) (v := ?_) (a' := ?_) #[true, true, true, true, true, true, false, false, false, false, false] rfl rfl (any_of HT_.out (by kernel_rfl)) (fun _ _ _ h => h) (Or.inl ⟨by rfl, ?_⟩) ?_ ?_
            rotate_left
            · intro w'
              go_simp
              with_reducible rfl
            rotate_left
            · skip
              simp only [Act.put, List.setIfInBounds_toArray, List.set_cons_zero, List.set_cons_succ, i64_w, i32_w]
              rfl
            refine pure_ (i := 6) (N := some 42) (v := ?_) (a' := ?_) #[true, true, true, true, true, true, true, false, false, false, false] rfl rfl (any_of HT_.out (by kernel_rfl)) (fun _ _ _ h => h) (Or.inl ⟨by rfl, ?_⟩) ?_ ?_
            rotate_left
            · intro w'
              go_simp
              with_reducible rfl
            rotate_left
            · skip
              simp only [Act.put, List.setIfInBounds_toArray, List.set_cons_zero, List.set_cons_succ, i64_w, i32_w]
              rfl
            refine pure_ (i := 7) (N := some 43) (v := ?_) (a' := ?_) #[true, true, true, true, true, true, true, true, false, false, false] rfl rfl (any_of HT_.out (by kernel_rfl)) (fun _ _ _ h => h) (Or.inl ⟨by rfl, ?_⟩) ?_ ?_
            rotate_left
            · intro w'
              go_simp
              with_reducible rfl
            rotate_left
            · skip
              simp only [Act.put, List.setIfInBounds_toArray, List.set_cons_zero, List.set_cons_succ, i64_w, i32_w]
              rfl
            refine pure_ (i := 8) (N := some 44) (v := ?_) (a' := ?_) #[true, true, true, true, true, true, true, true, true, false, false] rfl rfl (any_of HT_.out (by kernel_rfl)) (fun _ _ _ h => h) (Or.inl ⟨by rfl, ?_⟩) ?_ ?_
            rotate_left
            · intro w'
              go_simp
              with_reducible rfl
            rotate_left
            · skip
              simp only [Act.put, List.setIfInBounds_toArray, List.set_cons_zero, List.set_cons_succ, i64_w, i32_w]
              rfl
            refine take_ (i := 9) (N := some 45) (v := ?_) (a' := ?_) #[true, true, true, true, true, true, true, true, true, true, false] rfl rfl (take_ofW HT_.out HW_.out (by kernel_rfl)) (fun _ _ _ h => h) (Or.inl ⟨by rfl, ?_⟩) hHeld ?_ ?_
            rotate_left
            · rintro w' ⟨s0, s1⟩
              go_simp
              with_reducible rfl
            rotate_left
            · skip
              simp only [Act.put, List.setIfInBounds_toArray, List.set_cons_zero, List.set_cons_succ, i64_w, i32_w]
              rfl
            refine pure_ (i := 10) (N := some 46) (v := ?_) (a' := ?_) #[true, true, true, true, true, true, true, true, true, true, true] rfl rfl (any_of HT_.out (by kernel_rfl)) (fun _ _ _ h => h) (Or.inl ⟨by rfl, ?_⟩) ?_ ?_
            rotate_left
            · intro w'
              go_simp
              with_reducible rfl
            rotate_left
            · skip
              simp only [Act.put, List.setIfInBounds_toArray, List.set_cons_zero, List.set_cons_succ, i64_w, i32_w]
              rfl
            refine done_ (done_of HT_.out (by kernel_rfl)) ?_
            by_cases heq : on = nm
            · have HEQ := Aside0.mk heq
              subst heq
              rw [show (on.toList == on.toList) = true by simp]
              obtain rfl : r = ([], 2) := HRr.out.symm.trans (by exact putS_names l x (nSt_stop l (i + 1) (by rw [HST.out, nst_some, HNM.out, HOK.out, seen_in l k i _ hk (by omega) HON.out]; rfl) hi))
              go_wp2_with fail
              refine bodyPost_ret (v := .tuple #[.slice none 0 0, .int .i64 2]) (by simp [results, Tryd.results9, go_sem]) rfl ?_
              exact ⟨_, rfl, outC_nil _, HB4.out⟩
            · have h1 := ne_toList heq
              have h2 : (on.toList == nm.toList) = false := beq_eq_false_iff_ne.2 h1
              rw [h2]
              go_wp2_with fail
              refine ⟨⟨k + 1, by rw [HWK.out], ⟨hk⟩, ⟨by rw [take_names l k hkl, seen_snoc, HS.out, HON.out, decide_eq_false heq]; rfl⟩, HBK4⟩, meas hk HWK.out⟩
          · have hkI : ¬ (k : Int) < (i : Int) := by omega
            have hkn : k = i := by have := HK.out; omega
            have HSI : Aside0 (seenB ((l.take i).map S39.f0) nm = false) := ⟨by rw [← hkn]; exact HS.out⟩
            have HNN : Aside0 (nSt l (i + 1) = some ((l.take (i + 1)).map S39.f0)) := ⟨by rw [HST.out, nst_some, HNM.out, HOK.out, HSI.out, take_names l i hi, HYG.out, HNM.out]; rfl⟩
            clear hkn hlen
            go_wp2_with fail
            refine ⟨⟨i + 1, by rw [HWI.out], ⟨hi⟩, HNN, HB3⟩, meas hi HWI.out⟩
    · have hin : i = l.length := by have := HI.out; omega
      have hiI : ¬ ((i : Int) < (l.length : Int)) := by omega
      have HNO : Aside0 (namesOk l = true) := ⟨by unfold namesOk; rw [← hin, HN.out]; rfl⟩
      have HBL : Aside0 (Below w.heap.size w wo) := ⟨HB.out⟩
      clear HB HI HN hin hi hlen
      go_wp2_with fail
      go_loopw [8, 9] (fun v8 v9 wr => ∃ j : Nat, v9 = .int .i64 j ∧ v8 = .int .i64 (((nmS (x.take j)).size : Nat) : Int) ∧ Aside0 (j ≤ x.length) ∧ Aside0 ((x.take j).all (idxOk l) = true) ∧ Aside0 (Below w.heap.size w wr)) (fun _ v9 _ => x.length - (intOf v9).toNat)
      case atStart => exact ⟨0, rfl, rfl, ⟨Nat.zero_le _⟩, ⟨rfl⟩, HBL⟩
      case round =>
        obtain ⟨wl, rfl⟩ : ∃ q, q = wr := ⟨_, rfl⟩
        obtain ⟨j, rfl, rfl, HJ, HA, HB⟩ := hrel
        have hlen := HXn.out
        obtain ⟨ns, hns0⟩ : ∃ n, (nmS (x.take j)).size = n := ⟨_, rfl⟩
        rw [hns0]
        have hns : ns ≤ 1099511627776 := by have h1 := nmS_size (x.take j); have h2 := mX_take x j; have h3 := HX.out; rw [hns0] at h1; omega
        have HNM := Aside0.mk hns0
        have HNS := Aside0.mk hns
        clear hns hns0 HBL
        by_cases hj : j < x.length
        · have hjI : (j : Int) < (x.length : Int) := by omega
          have HWJ : Aside0 (wrap64 ((j : Int) + 1) = ((j + 1 : Nat) : Int)) := ⟨by unfold wrap64; omega⟩
          obtain ⟨ad, rfl, e0, e1⟩ := at_T43 (Kd.C_below HR1.out HB.out) (j : Int) (by omega) hjI
          obtain ⟨y, hy⟩ : ∃ y, rd_T43 x (j : Int) = y := ⟨_, rfl⟩
          rw [hy] at e0 e1
          rw [Int.toNat_natCast] at e0 e1
          have hyg : x.getD j z43 = y := by rw [← hy]; unfold rd_T43; rw [Int.toNat_natCast]
          have HYG := Aside0.mk hyg
          have hyz := mem_mX x j hj
          rw [hyg] at hyz
          have hys : y.f0.size ≤ 1099511627776 := by have := HX.out; omega
          have HYS := Aside0.mk hys
          have HCC := Aside0.mk (fun w => rzero_calls y.f0 (by have := HYS.out; omega) w)
          clear hy hyg hyz hlen hys
          rcases idx_cases l y with ⟨h1, hbad⟩ | ⟨h1, h2, hbad⟩ | ⟨h1, h2, h3, hbad⟩ | ⟨h1, h2, h3, hbad⟩
          · obtain rfl : r = ([], 2) := HRr.out.symm.trans (putS_index l x HNO.out (all_at (idxOk l) x j hj (by rw [HYG.out]; exact hbad)))
            clear hbad
            go_wp2_with fail
            refine bodyPost_ret (v := .tuple #[.slice none 0 0, .int .i64 2]) (by simp [results, Tryd.results9, go_sem]) rfl ?_
            exact ⟨_, rfl, outC_nil _, HB.out⟩
          · obtain rfl : r = ([], 2) := HRr.out.symm.trans (putS_index l x HNO.out (all_at (idxOk l) x j hj (by rw [HYG.out]; exact hbad)))
            clear hbad
            go_wp2_with fail
            refine bodyPost_ret (v := .tuple #[.slice none 0 0, .int .i64 2]) (by simp [results, Tryd.results9, go_sem]) rfl ?_
            exact ⟨_, rfl, outC_nil _, HB.out⟩
          · rw [h3] at e0
            clear h3
            obtain rfl : r = ([], 2) := HRr.out.symm.trans (putS_index l x HNO.out (all_at (idxOk l) x j hj (by rw [HYG.out]; exact hbad)))
            clear hbad
            go_wp2_with fail
            refine bodyPost_ret (v := .tuple #[.slice none 0 0, .int .i64 2]) (by simp [results, Tryd.results9, go_sem]) rfl ?_
            exact ⟨_, rfl, outC_nil _, HB.out⟩
          · have h5 := toList_ne h3
            have h6 : y.f0.toList.isEmpty = false := by simpa using h5
            have h7 : (y.f0.toList == []) = false := by simpa using h5
            obtain ⟨zz, hzz⟩ : ∃ b, zeroIn y.f0 = b := ⟨_, rfl⟩
            rw [hzz] at hbad
            simp only [hzz] at HCC
            clear hzz
            have HID := Aside0.mk hbad
            clear hbad
            go_wp2_with fail
            refine (HCC.out _).mono ?_
            rintro e w2 ⟨h9, hb2⟩
            subst h9
            have HB2 : Aside0 (Below w.heap.size w w2) := ⟨HB.out.trans (hb2.mono HB.out.size)⟩
            replace e0 := pw_cell_below hb2 e0
            clear hb2 HCC e1
            simp only []
            cases zz with
            | true =>
              have hbad := HID.out
              obtain rfl : r = ([], 2) := HRr.out.symm.trans (putS_index l x HNO.out (all_at (idxOk l) x j hj (by rw [HYG.out]; exact hbad)))
              clear hbad
              go_wp2_with fail
              refine bodyPost_ret (v := .tuple #[.slice none 0 0, .int .i64 2]) (by simp [results, Tryd.results9, go_sem]) rfl ?_
              exact ⟨_, rfl, outC_nil _, HB2.out⟩
            | false =>
              go_wp2_with fail
              refine ⟨?_, meas hj HWJ.out⟩
              refine Exists.intro (j + 1) ?_
              rw [nmS_take x j hj, HYG.out, HWJ.out]
              exact ⟨rfl, int_eq (by have h1 := HNM.out; have h2 := HNS.out; have h3 := HYS.out; rw [ByteArray.size_append, ByteArray.size_append, h1, show (⟨#[0]⟩ : ByteArray).size = 1 from rfl]; first | (rw [w64 (z := (ns : Int) + (y.f0.size : Int)) (by omega) (by omega), w64 (by omega) (by omega)]; omega) | (rw [w64 (by omega) (by omega)]; omega)), ⟨hj⟩, ⟨all_take (idxOk l) x j hj HA.out (by rw [HYG.out]; exact HID.out)⟩, HB2⟩
        · have hjn : j = x.length := by have := HJ.out; omega
          have hjI : ¬ ((j : Int) < (x.length : Int)) := by omega
          have HAL : Aside0 (x.all (idxOk l) = true) := ⟨by have := HA.out; rwa [hjn, List.take_length] at this⟩
          have HNX : Aside0 ((nmS x).size = ns) := ⟨by rw [← HNM.out, hjn, List.take_length]⟩
          clear HA HNM HJ hjn hj hlen
          have HF0 : Aside0 (first x ≤ 40000000000000) := ⟨by have h1 := nmS_size x; have h2 := len_mX x; have h3 := HX.out; unfold first namesB; rw [tb_len]; split <;> omega⟩
          by_cases hxe : x = []
          · have hgt : ¬ (0 : Int) < (x.length : Int) := by rw [hxe]; simp
            have HFX : Aside0 (first x = 8) := ⟨by unfold first; rw [if_pos hxe]⟩
            go_wp2_with fail
            go_loopw [11, 12, 13] (fun v11 v12 v13 wr => ∃ i : Nat, v13 = .int .i64 i ∧ v11 = .int .i64 ((after (first x) (l.take i) : Nat) : Int) ∧ Aside0 (i ≤ l.length) ∧ Aside0 (Below w.heap.size w wr) ∧ Aside0 ((Kd.int .i64).R 3 wr w.heap.size (fun _ => True) v12 ((places (first x) (l.take i)).map fun (n : Nat) => (n : Int)))) (fun _ _ v13 _ => l.length - (intOf v13).toNat)
            case atStart => exact ⟨0, rfl, int_eq (by show _ = ((first x : Nat) : Int); have := HX.out; have := HNS.out; have := HXn.out; rw [HFX.out]; omega), ⟨Nat.zero_le _⟩, HB, ⟨Kd.R_nil _ _ _ _ _⟩⟩
            case round =>
              obtain ⟨wp, rfl⟩ : ∃ q, q = wr := ⟨_, rfl⟩
              obtain ⟨k, rfl, rfl, HKI, HBP, HPL⟩ := hrel
              have hlen := HLn.out
              obtain ⟨a, ha⟩ : ∃ a, after (first x) (l.take k) = a := ⟨_, rfl⟩
              rw [ha]
              have hal : a ≤ 42000000000000 := by have h1 := after_le (first x) (l.take k); have h2 := mM_take l k; have h3 := HM.out; have h4 := HF0.out; omega
              have HAA := Aside0.mk ha
              have HAL2 := Aside0.mk hal
              clear ha HB
              by_cases hk : k < l.length
              · have hkI : (k : Int) < (l.length : Int) := by omega
                have HWK : Aside0 (wrap64 ((k : Int) + 1) = ((k + 1 : Nat) : Int)) := ⟨by unfold wrap64; omega⟩
                obtain ⟨ad, A2, c2, rfl, e0w, e1w, _, _⟩ := at_T39 HR.out (k : Int) (by omega) hkI
                obtain ⟨y, hy⟩ : ∃ y, rd_T39 l (k : Int) = y := ⟨_, rfl⟩
                rw [hy] at e1w
                rw [Int.toNat_natCast] at e1w
                have hyg : l.getD k z39 = y := by rw [← hy]; unfold rd_T39; rw [Int.toNat_natCast]
                have HYG := Aside0.mk hyg
                have hyz := mem_mM l k hk
                rw [hyg] at hyz
                have HYZ : Aside0 (y.f1.length ≤ 1099511627776) := ⟨by have := HM.out; omega⟩
                have HAE : Aside0 (after (first x) (l.take (k + 1)) = even a + (60 + y.f1.length)) := ⟨by rw [after_take _ _ _ hk, HAA.out, HYG.out]⟩
                have HPA : Aside0 ((places (first x) (l.take (k + 1))).map (fun (n : Nat) => (n : Int)) = (places (first x) (l.take k)).map (fun (n : Nat) => (n : Int)) ++ [((even a : Nat) : Int)]) := ⟨by rw [places_take _ _ _ hk, List.map_append, HAA.out]; rfl⟩
                have hpl : ((places (first x) (l.take k)).map (fun (n : Nat) => (n : Int))).length ≤ 5497558139 := by have := HLn.out; rw [List.length_map, places_len, List.length_take]; omega
                obtain ⟨ps, hps⟩ : ∃ p, (places (first x) (l.take k)).map (fun (n : Nat) => (n : Int)) = p := ⟨_, rfl⟩
                rw [hps] at HPL HPA hpl
                have HPN := Aside0.mk hpl
                clear hy hyg hyz hlen hal hps hpl e0w
                by_cases hod : a % 2 = 1
                · have ho1 : (a : Int) % 2 = 1 := by omega
                  have he : wrap64 ((a : Int) + 1) = ((a + 1 : Nat) : Int) := by have := HAL2.out; unfold wrap64; omega
                  have hev : even a = a + 1 := by unfold even; omega
                  rw [hev] at HAE HPA
                  go_upto_region 28 with fail
                  rw [he]
                  clear he hev ho1
                  go_wp2_with (first | ((with_reducible refine gate_builtin (b := .append) (xs := #[.tmp 116, .tmp 118]) rfl ?_); at_builtin; refine Kd.R_append (Kd.int .i64) (w0 := w) w.heap.size rfl (.tmp 116) (.tmp 118) 45 3 (.int .i64 0) 8 rfl Tryd.underlying45 info3 rfl (by decide) (by omega) u12 ps (((a + 1) : Nat) : Int) [.int .i64 (((a + 1) : Nat) : Int)] (fun _ => True) (fun _ => False) rfl rfl ?aP (fun _ hk => hk.elim) ?aF ?aO ?aB ?aS ?aL ?_; (case aP => exact rfl); (case aB => exact HBP.out); (case aF => exact (fun _ _ => trivial)); (case aO => exact HPL.out); (case aS => exact HBP.out.size); (case aL => have := HPN.out; omega); intro v5 w9 ho hb hg hat; have b1 := pw_cell_below hb e1w; have HB9 := Aside0.mk hb; have HP9 := Aside0.mk ho; clear ho hb hg hat))
                  refine ⟨?_, meas hk (by first | exact HWK.out | omega)⟩
                  refine Exists.intro (k + 1) ?_
                  rw [HAE.out, HPA.out]
                  exact ⟨by first | rfl | (rw [HWK.out]; done) | exact int_eq (by have := HWK.out; omega), int_eq (by have := HAL2.out; have := HYZ.out; rw [w64 (z := (a : Int) + 1 + 60) (by omega) (by omega), w64 (by omega) (by omega)]; omega), ⟨hk⟩, HB9, HP9⟩
                · have ho1 : ¬ (a : Int) % 2 = 1 := by omega
                  have ho2 : (a : Int) % 2 = 0 := by omega
                  have hev : even a = a := by unfold even; omega
                  rw [hev] at HAE HPA
                  go_upto_region 28 with fail
                  clear hev ho1 ho2
                  go_wp2_with (first | ((with_reducible refine gate_builtin (b := .append) (xs := #[.tmp 116, .tmp 118]) rfl ?_); at_builtin; refine Kd.R_append (Kd.int .i64) (w0 := w) w.heap.size rfl (.tmp 116) (.tmp 118) 45 3 (.int .i64 0) 8 rfl Tryd.underlying45 info3 rfl (by decide) (by omega) u12 ps ((a : Nat) : Int) [.int .i64 ((a : Nat) : Int)] (fun _ => True) (fun _ => False) rfl rfl ?aP (fun _ hk => hk.elim) ?aF ?aO ?aB ?aS ?aL ?_; (case aP => exact rfl); (case aB => exact HBP.out); (case aF => exact (fun _ _ => trivial)); (case aO => exact HPL.out); (case aS => exact HBP.out.size); (case aL => have := HPN.out; omega); intro v5 w9 ho hb hg hat; have b1 := pw_cell_below hb e1w; have HB9 := Aside0.mk hb; have HP9 := Aside0.mk ho; clear ho hb hg hat))
                  refine ⟨?_, meas hk (by first | exact HWK.out | omega)⟩
                  refine Exists.intro (k + 1) ?_
                  rw [HAE.out, HPA.out]
                  exact ⟨by first | rfl | (rw [HWK.out]; done) | exact int_eq (by have := HWK.out; omega), int_eq (by have := HAL2.out; have := HYZ.out; rw [w64 (z := (a : Int) + 60) (by omega) (by omega), w64 (by omega) (by omega)]; omega), ⟨hk⟩, HB9, HP9⟩
              · have hkn : k = l.length := by have := HKI.out; omega
                have hkI : ¬ ((k : Int) < (l.length : Int)) := by omega
                have HAF : Aside0 (after (first x) l = a) := ⟨by rw [← HAA.out, hkn, List.take_length]⟩
                have HPF : Aside0 ((Kd.int .i64).R 3 wp w.heap.size (fun _ => True) u12 ((places (first x) l).map fun (n : Nat) => (n : Int))) := ⟨by have := HPL.out; rwa [hkn, List.take_length] at this⟩
                clear HPL HAA HKI hkn hk hlen hal
                by_cases hat : 65536 < a
                · obtain rfl : r = ([], 3) := HRr.out.symm.trans (putS_long l x HNO.out HAL.out (by rw [HAF.out]; exact hat))
                  have hat2 : (65536 : Int) < (a : Int) := by omega
                  go_wp2_with fail
                  refine bodyPost_ret (v := .tuple #[.slice none 0 0, .int .i64 3]) (by simp [results, Tryd.results9, go_sem]) rfl ?_
                  exact ⟨_, rfl, outC_nil _, HBP.out⟩
                · have hat2 : ¬ (65536 : Int) < (a : Int) := by omega
                  have HFIN : Aside0 (r = (l.foldl addM (startB l x), 0)) := ⟨HRr.out.symm.trans (putS_fine l x HNO.out HAL.out (by rw [HAF.out]; exact hat))⟩
                  have HAT : Aside0 (a ≤ 65536) := ⟨by omega⟩
                  clear hat
                  obtain ⟨pls, hpls⟩ : ∃ p, (places (first x) l).map (fun (n : Nat) => (n : Int)) = p := ⟨_, rfl⟩
                  rw [hpls] at HPF
                  have HPLS := Aside0.mk hpls
                  have hpll : pls.length = l.length := by rw [← hpls, List.length_map, places_len]
                  have HPLL := Aside0.mk hpll
                  clear hpls hpll
                  go_wp2_with fail
                  refine (rmagic_calls _).mono ?_
                  intro e w2 h2
                  obtain ⟨h2, hb2⟩ := h2
                  subst h2
                  have HB2 : Aside0 (Below w.heap.size w w2) := ⟨HBP.out.trans (hb2.mono HBP.out.size)⟩
                  have HP2 := Aside0.mk (Kd.R_below HPF.out hb2)
                  clear hb2 HPF HBP
                  simp only []
                  have kc := Lib.run_convert_string_bytes (P := Tryd.prog) w2 9 24 5 magS Tryd.underlying9 Tryd.underlying24 Tryd.underlying5
                  have ho := OutM_bytes w2 magS w.heap.size HB2.out.size (by decide)
                  have hb3 := bytesWorld_below w2 magS
                  have hz3 := Lib.bytesWorld_size w2 5 magS
                  obtain ⟨w3, hw3⟩ : ∃ q, Lib.bytesWorld w2 5 magS = q := ⟨_, rfl⟩
                  rw [show magS.size = 8 from rfl] at kc ho
                  obtain ⟨cm, hcm⟩ : ∃ c, grownCap w2 8 0 5 = c := ⟨_, rfl⟩
                  rw [hw3, hcm] at kc ho
                  rw [hw3] at hb3 hz3
                  obtain ⟨gm, hgm⟩ : ∃ g, w2.heap.size = g := ⟨_, rfl⟩
                  have HB3 : Aside0 (Below w.heap.size w w3) := ⟨HB2.out.trans (hb3.mono HB2.out.size)⟩
                  have HP3 := Aside0.mk (Kd.R_below HP2.out hb3)
                  rw [hgm] at kc ho hz3
                  rw [tb_magS] at ho
                  have HO3 := Aside0.mk ho
                  have HG3 : Aside0 (gm < w3.heap.size) := ⟨by omega⟩
                  clear hw3 hcm hgm ho hb3 hz3 HB2 HP2
                  go_upto_region 33 with fail
                  clear kc
                  have HSE : Aside0 (startB l x = magicB) := ⟨by unfold startB; rw [if_pos hxe]⟩
                  obtain ⟨s0, hs0⟩ : ∃ s, magicB = s := ⟨_, rfl⟩
                  have HL0 : Aside0 (8 = s0.length) := ⟨by rw [← hs0]; rfl⟩
                  rw [hs0] at HO3 HSE
                  have HS0 : Aside0 (s0.length ≤ 30000000000000) := ⟨by rw [← hs0]; decide⟩
                  clear hs0 HP3 HPLS HPLL
                  go_wp2_with fail
                  go_loopw [14, 17] (fun v14 v17 wr => ∃ k : Nat, v17 = .int .i64 k ∧ Aside0 (k ≤ l.length) ∧ Aside0 (Below w.heap.size w wr) ∧ Aside0 (OutM wr w.heap.size v14 ((l.take k).foldl addM s0))) (fun _ v17 _ => l.length - (intOf v17).toNat)
                  case atStart => exact ⟨0, rfl, ⟨Nat.zero_le _⟩, HB3, ⟨HO3.out⟩⟩
                  case round =>
                    obtain ⟨wt, rfl⟩ : ∃ q, q = wr := ⟨_, rfl⟩
                    obtain ⟨k2, rfl, HK2, HBT, HOT⟩ := hrel
                    clear HB3 HO3
                    have hlen := HLn.out
                    have hfl := fold_len l s0 (by have := HM.out; omega) k2 HK2.out
                    obtain ⟨os, hos⟩ : ∃ o, (l.take k2).foldl addM s0 = o := ⟨_, rfl⟩
                    rw [hos] at hfl HOT
                    have HOF := Aside0.mk hos
                    have HOL : Aside0 (os.length ≤ 40000000000000) := ⟨by have h1 := mM_take l k2; have h2 := HM.out; have h3 := HS0.out; omega⟩
                    clear hfl hos
                    obtain ⟨A16, c16, hu16, _, _⟩ := HOT.out.reads
                    subst hu16
                    by_cases hk2 : k2 < l.length
                    · have hkI : (k2 : Int) < (l.length : Int) := by omega
                      have HWT : Aside0 (wrap64 ((k2 : Int) + 1) = ((k2 + 1 : Nat) : Int)) := ⟨by unfold wrap64; omega⟩
                      obtain ⟨ad, A2, c2, rfl, e0w, e1w, _, hcy⟩ := at_T39 HR.out (k2 : Int) (by omega) hkI
                      obtain ⟨y, hy⟩ : ∃ y, rd_T39 l (k2 : Int) = y := ⟨_, rfl⟩
                      rw [hy] at e0w e1w hcy
                      rw [Int.toNat_natCast] at e0w e1w
                      have hyg : l.getD k2 z39 = y := by rw [← hy]; unfold rd_T39; rw [Int.toNat_natCast]
                      have HYG := Aside0.mk hyg
                      have hyz := mem_mM l k2 hk2
                      rw [hyg] at hyz
                      have HCY := Aside0.mk hcy
                      have HE0 := Aside0.mk e0w
                      have HE1 := Aside0.mk e1w
                      have HLZ2 : Aside0 (y.f1.length ≤ 1099511627776) := ⟨by have := HM.out; omega⟩
                      have HLZ : Aside0 (y.f1.length ≤ 9223372036854775807) := ⟨by have := HLZ2.out; omega⟩
                      have hfs : y.f0.size ≤ 1099511627776 := by have := HM.out; omega
                      have HFS2 := Aside0.mk hfs
                      have HSZ : Aside0 ((y.f0 ++ (⟨#[47]⟩ : ByteArray)).size ≤ 140737488351233) := ⟨by rw [ByteArray.size_append, show (⟨#[47]⟩ : ByteArray).size = 1 from rfl]; omega⟩
                      have nq1 : ¬ (9223372036854775807 < y.f0.size + 1) := by omega
                      have hhs := headS_size (y.f0 ++ (⟨#[47]⟩ : ByteArray)) y.f1.length HLZ.out
                      obtain ⟨hd2, hhd⟩ : ∃ h, headS (y.f0 ++ (⟨#[47]⟩ : ByteArray)) y.f1.length = h := ⟨_, rfl⟩
                      rw [hhd] at hhs
                      have HHDX : Aside0 (headS (y.f0 ++ (⟨#[47]⟩ : ByteArray)) y.f1.length = hd2) := ⟨hhd⟩
                      have HHS2 : Aside0 (hd2.size ≤ 1099511629000) := ⟨by rw [ByteArray.size_append, show (⟨#[47]⟩ : ByteArray).size = 1 from rfl] at hhs; omega⟩
                      clear hy hyg hyz hlen hcy hhd hhs hfs e0w e1w
                      by_cases hodd : os.length % 2 = 1
                      · have ho1 : ((os.length : Int) % 2) = 1 := by omega
                        have HAD : Aside0 (addM os y = ((os ++ [10]) ++ tb hd2) ++ y.f1) := ⟨by unfold addM; rw [if_pos hodd, HHDX.out]⟩
                        have HOL2 : Aside0 ((os ++ [10]).length ≤ 40000000000001) := ⟨by rw [List.length_append]; show os.length + 1 ≤ _; have := HOL.out; omega⟩
                        go_upto_region 51 with (first | ((with_reducible refine gate_builtin (b := .append) (xs := #[.tmp 190, .tmp 191]) rfl ?_); at_builtin; refine OutM_append_val (w0 := w) w.heap.size rfl (.tmp 190) (.tmp 191) 24 rfl Tryd.underlying24 info5 (.slice A16 os.length c16) os 10 rfl rfl ?aO ?aB ?aS ?aL ?_; (case aO => exact HOT.out); (case aB => exact HBT.out); (case aS => exact HBT.out.size); (case aL => have := HOL.out; omega); intro v20 wy row ho hb hg hrow; have HBY := Aside0.mk hb; have HOY := Aside0.mk ho; clear ho hb hg hrow))
                        clear HBT HOT hodd ho1
                        have f0 := pw_cell_below HBY.out HE0.out
                        have f1 := pw_cell_below HBY.out HE1.out
                        refine start_ (n := 16) (S := fun w' => w'.cell? (ad.add (k2 * 2)) = some (.string y.f0) ∧ w'.cell? ⟨(ad.add (k2 * 2)).block, (ad.add (k2 * 2)).off + 1, none⟩ = some (.slice A2 y.f1.length c2)) (ds := [14, 15]) #[false, false, false, false, false, false, false, false, false, false, false, false, false, false, false, false] (by kernel_rfl) rfl rfl ⟨f0, f1⟩ (fun hHeld => ?_)
                        refine with_tabW tab9_51 bits9_51 (fun HT_ HW_ => ?_)
                        have HBD : Aside0 (Below w.heap.size w wy.drew) := ⟨below_drew HBY.out⟩
                        have HOD := Aside0.mk (HOY.out.below (below_drew (Below.refl wy.heap.size wy)))
                        generalize wy.drew = wd at HBD HOD hHeld ⊢
                        clear f0 f1 HBY HOY
                        refine pure_ (i := 0) (N := some 193) (v := ?_) (a' := ?_) #[true, false, false, false, false, false, false, false, false, false, false, false, false, false, false, false] rfl rfl (any_of HT_.out (by kernel_rfl)) (fun _ _ _ h => h) (Or.inl ⟨by rfl, ?_⟩) ?_ ?_
                        rotate_left
                        · intro w'
                          go_simp
                          with_reducible rfl
                        rotate_left
                        · skip
                          simp only [Act.put, List.setIfInBounds_toArray, List.set_cons_zero, List.set_cons_succ, i64_w, i32_w]
                          rfl
                        refine pure_ (i := 1) (N := some 194) (v := ?_) (a' := ?_) #[true, true, false, false, false, false, false, false, false, false, false, false, false, false, false, false] rfl rfl (any_of HT_.out (by kernel_rfl)) (fun _ _ _ h => h) (Or.inl ⟨by rfl, ?_⟩) ?_ ?_
                        rotate_left
                        · intro w'
                          go_simp
                          with_reducible rfl
                        rotate_left
                        · skip
                          simp only [Act.put, List.setIfInBounds_toArray, List.set_cons_zero, List.set_cons_succ, i64_w, i32_w]
                          rfl
                        refine pure_ (i := 2) (N := some 195) (v := ?_) (a' := ?_) #[true, true, true, false, false, false, false, false, false, false, false, false, false, false, false, false] rfl rfl (any_of HT_.out (by kernel_rfl)) (fun _ _ _ h => h) (Or.inl ⟨by rfl, ?_⟩) ?_ ?_
                        rotate_left
                        · intro w'
                          go_simp
                          with_reducible rfl
                        rotate_left
                        · skip
                          simp only [Act.put, List.setIfInBounds_toArray, List.set_cons_zero, List.set_cons_succ, i64_w, i32_w]
                          rfl
                        refine pure_ (i := 3) (N := some 196) (v := ?_) (a' := ?_) #[true, true, true, true, false, false, false, false, false, false, false, false, false, false, false, false] rfl rfl (any_of HT_.out (by kernel_rfl)) (fun _ _ _ h => h) (Or.inl ⟨by rfl, ?_⟩) ?_ ?_
                        rotate_left
                        · intro w'
                          go_simp
                          with_reducible rfl
                        rotate_left
                        · skip
                          simp only [Act.put, List.setIfInBounds_toArray, List.set_cons_zero, List.set_cons_succ, i64_w, i32_w]
                          rfl
                        refine pure_ (i := 4) (N := some 197) (v := ?_) (a' := ?_) #[true, true, true, true, true, false, false, false, false, false, false, false, false, false, false, false] rfl rfl (any_of HT_.out (by kernel_rfl)) (fun _ _ _ h => h) (Or.inl ⟨by rfl, ?_⟩) ?_ ?_
                        rotate_left
                        · intro w'
                          go_simp
                          with_reducible rfl
                        rotate_left
                        · skip
                          simp only [Act.put, List.setIfInBounds_toArray, List.set_cons_zero, List.set_cons_succ, i64_w, i32_w]
                          rfl
                        refine take_ (i := 5) (N := some 198) (v := ?_) (a' := ?_) #[true, true, true, true, true, true, false, false, false, false, false, false, false, false, false, false] rfl rfl (take_ofW HT_.out HW_.out (by kernel_rfl)) (fun _ _ _ h => h) (Or.inl ⟨by rfl, ?_⟩) hHeld ?_ ?_
                        rotate_left
                        · rintro w' ⟨s0, s1⟩
                          go_simp
                          with_reducible rfl
                        rotate_left
                        · skip
                          simp only [Act.put, List.setIfInBounds_toArray, List.set_cons_zero, List.set_cons_succ, i64_w, i32_w]
                          rfl
                        refine pure_ (i := 6) (N := some 199) (v := ?_) (a' := ?_) #[true, true, true, true, true, true, true, false, false, false, false, false, false, false, false, false] rfl rfl (any_of HT_.out (by kernel_rfl)) (fun _ _ _ h => h) (Or.inl ⟨by rfl, ?_⟩) ?_ ?_
                        rotate_left
                        · intro w'
                          go_simp
                          with_reducible rfl
                        rotate_left
                        · skip
                          simp only [Act.put, List.setIfInBounds_toArray, List.set_cons_zero, List.set_cons_succ, i64_w, i32_w]
                          rfl
                        refine pure_ (i := 7) (N := some 200) (v := ?_) (a' := ?_) #[true, true, true, true, true, true, true, true, false, false, false, false, false, false, false, false] rfl rfl (any_of HT_.out (by kernel_rfl)) (fun _ _ _ h => h) (Or.inl ⟨by rfl, ?_⟩) ?_ ?_
                        rotate_left
                        · intro w'
                          go_simp
                          with_reducible rfl
                        rotate_left
                        · skip
                          simp only [Act.put, List.setIfInBounds_toArray, List.set_cons_zero, List.set_cons_succ, i64_w, i32_w]
                          rfl
                        refine pure_ (i := 8) (N := some 201) (v := ?_) (a' := ?_) #[true, true, true, true, true, true, true, true, true, false, false, false, false, false, false, false] rfl rfl (any_of HT_.out (by kernel_rfl)) (fun _ _ _ h => h) (Or.inl ⟨by rfl, ?_⟩) ?_ ?_
                        rotate_left
                        · intro w'
                          go_simp
                          with_reducible rfl
                        rotate_left
                        · skip
                          simp only [Act.put, List.setIfInBounds_toArray, List.set_cons_zero, List.set_cons_succ, i64_w, i32_w]
                          rfl
                        refine pure_ (i := 9) (N := some 202) (v := ?_) (a' := ?_) #[true, true, true, true, true, true, true, true, true, true, false, false, false, false, false, false] rfl rfl (any_of HT_.out (by kernel_rfl)) (fun _ _ _ h => h) (Or.inl ⟨by rfl, ?_⟩) ?_ ?_
                        rotate_left
                        · intro w'
                          go_simp
                          with_reducible rfl
                        rotate_left
                        · skip
                          simp only [Act.put, List.setIfInBounds_toArray, List.set_cons_zero, List.set_cons_succ, i64_w, i32_w]
                          rfl
                        refine pure_ (i := 10) (N := some 203) (v := ?_) (a' := ?_) #[true, true, true, true, true, true, true, true, true, true, true, false, false, false, false, false] rfl rfl (any_of HT_.out (by kernel_rfl)) (fun _ _ _ h => h) (Or.inl ⟨by rfl, ?_⟩) ?_ ?_
                        rotate_left
                        · intro w'
                          go_simp
                          with_reducible rfl
                        rotate_left
                        · skip
                          simp only [Act.put, List.setIfInBounds_toArray, List.set_cons_zero, List.set_cons_succ, i64_w, i32_w]
                          rfl
                        refine take_ (i := 11) (N := some 204) (v := ?_) (a' := ?_) #[true, true, true, true, true, true, true, true, true, true, true, true, false, false, false, false] rfl rfl (take_ofW HT_.out HW_.out (by kernel_rfl)) (fun _ _ _ h => h) (Or.inl ⟨by rfl, ?_⟩) hHeld ?_ ?_
                        rotate_left
                        · rintro w' ⟨s0, s1⟩
                          go_simp
                          with_reducible rfl
                        rotate_left
                        · skip
                          simp only [Act.put, List.setIfInBounds_toArray, List.set_cons_zero, List.set_cons_succ, i64_w, i32_w]
                          rfl
                        refine pure_ (i := 12) (N := some 205) (v := ?_) (a' := ?_) #[true, true, true, true, true, true, true, true, true, true, true, true, true, false, false, false] rfl rfl (any_of HT_.out (by kernel_rfl)) (fun _ _ _ h => h) (Or.inl ⟨by rfl, ?_⟩) ?_ ?_
                        rotate_left
                        · intro w'
                          go_simp
                          with_reducible rfl
                        rotate_left
                        · skip
                          simp only [Act.put, List.setIfInBounds_toArray, List.set_cons_zero, List.set_cons_succ, i64_w, i32_w]
                          rfl
                        refine one_ (i := 13) (N := some 206) #[true, true, true, true, true, true, true, true, true, true, true, true, true, true, false, false] rfl rfl (one_of HT_.out (by kernel_rfl)) (by decide) (fun K hK => ?_)
                        refine goes_ Tryd.func28 (by kernel_rfl) rfl #[.string (y.f0 ++ (⟨#[47]⟩ : ByteArray)), .int .i64 ((y.f1.length : Nat) : Int)] (by rfl) rfl rfl (by (try simp only [List.map_toArray, List.map_cons, List.map_nil]); first | done | rfl) ?_
                        refine (rhead_calls (y.f0 ++ (⟨#[47]⟩ : ByteArray)) y.f1.length (by have := HSZ.out; omega) (by have := HLZ2.out; omega) wd).mono ?_
                        intro e w2 h2
                        obtain ⟨h2, hb2⟩ := h2
                        subst h2
                        refine ⟨_, rfl, ?_⟩
                        rw [HHDX.out]
                        refine hK.out _ _ ⟨pw_cell_below hb2 hHeld.1, pw_cell_below hb2 hHeld.2⟩ (fun hS1 => ?_)
                        clear hK K
                        refine norm_ (a' := ?_) ?_ ?_
                        rotate_left
                        · show Act.put _ (some 206) _ = _
                          simp only [Act.put, List.setIfInBounds_toArray, List.set_cons_zero, List.set_cons_succ, i64_w, i32_w]
                          rfl
                        have HBE : Aside0 (Below w.heap.size w w2) := ⟨HBD.out.trans (hb2.mono HBD.out.size)⟩
                        have HOE := Aside0.mk (HOD.out.below hb2)
                        clear HBD HOD hHeld hb2 hS1
                        refine last_ (i := 14) (N := some 207) #[true, true, true, true, true, true, true, true, true, true, true, true, true, true, true, false] rfl rfl (one_of HT_.out (by kernel_rfl)) (by decide) (fun K hK => ?_)
                        refine OutM_append_step (w0 := w) w.heap.size (by rfl) (.tmp 193) (.tmp 206) 24 9 rfl Tryd.underlying24 info5 (v20) (os ++ [10]) (tb hd2) (.string hd2) rfl rfl (src_str _ hd2) HOE.out HBE.out HBE.out.size (by rw [tb_len]; have := HOL2.out; have := HHS2.out; omega) ?_
                        intro v21 w11 row ho hb hg hrow
                        have HBG := Aside0.mk hb
                        have HOG := Aside0.mk ho
                        clear ho hb HBE HOE hg hrow
                        refine hK.out _ _ ?_
                        clear hK K
                        refine norm_ (a' := ?_) ?_ ?_
                        rotate_left
                        · show Act.put _ (some 207) _ = _
                          simp only [Act.put, List.setIfInBounds_toArray, List.set_cons_zero, List.set_cons_succ, i64_w, i32_w]
                          rfl
                        refine last_ (i := 15) (N := some 14) #[true, true, true, true, true, true, true, true, true, true, true, true, true, true, true, true] rfl rfl (one_of HT_.out (by kernel_rfl)) (by decide) (fun K hK => ?_)
                        refine value_ (w1 := ?_) (v := ?_) (by rfl) rfl ?_ ?_
                        rotate_left 2
                        · go_simp
                          constructor
                          · rfl
                          · rfl
                        refine hK.out _ _ ?_
                        clear hK K
                        refine norm_ (a' := ?_) ?_ ?_
                        rotate_left
                        · show Act.put _ (some 14) _ = _
                          simp only [Act.put, List.setIfInBounds_toArray, List.set_cons_zero, List.set_cons_succ, i64_w, i32_w]
                          rfl
                        refine done_ (done_of HT_.out (by kernel_rfl)) ?_
                        have e1 := pw_cell_below HBG.out HE1.out
                        have HCZ := Aside0.mk (Kd.C_below HCY.out HBG.out)
                        go_wp2_with (first | ((with_reducible refine gate_builtin (b := .append) (xs := #[.tmp 208, .tmp 213]) rfl ?_); at_builtin; refine OutM_append (w0 := w) w.heap.size rfl (.tmp 208) (.tmp 213) 24 24 rfl Tryd.underlying24 info5 (v21) (os ++ [10] ++ tb hd2) (y.f1) (.slice A2 y.f1.length c2) rfl rfl ?aX ?aO ?aB ?aS ?aL ?_; (case aX => exact src_of_C c2 Tryd.underlying24 HCZ.out (C_nil HCZ.out)); (case aO => exact HOG.out); (case aB => exact HBG.out); (case aS => exact HBG.out.size); (case aL => rw [List.length_append, tb_len]; have := HOL2.out; have := HHS2.out; have := HLZ2.out; omega); intro v22 w12 row ho hb hg hrow; have HBH := Aside0.mk hb; have HOH := Aside0.mk ho; clear ho hb hg hrow))
                        refine ⟨?_, meas hk2 (by first | exact HWT.out | omega)⟩
                        refine Exists.intro (k2 + 1) ?_
                        exact ⟨by first | rfl | (rw [HWT.out]; done) | exact int_eq (by omega), ⟨hk2⟩, HBH, ⟨by rw [fold_take l s0 k2 hk2, HOF.out, HYG.out, HAD.out]; exact HOH.out⟩⟩
                      · have ho1 : ¬ ((os.length : Int) % 2 = 1) := by omega
                        have ho2 : (os.length : Int) % 2 = 0 := by omega
                        have HAD : Aside0 (addM os y = (os ++ tb hd2) ++ y.f1) := ⟨by unfold addM; rw [if_neg hodd, HHDX.out]⟩
                        go_upto_region 51 with fail
                        clear hodd ho1 ho2
                        have f0 := pw_cell_below HBT.out HE0.out
                        have f1 := pw_cell_below HBT.out HE1.out
                        refine start_ (n := 16) (S := fun w' => w'.cell? (ad.add (k2 * 2)) = some (.string y.f0) ∧ w'.cell? ⟨(ad.add (k2 * 2)).block, (ad.add (k2 * 2)).off + 1, none⟩ = some (.slice A2 y.f1.length c2)) (ds := [14, 15]) #[false, false, false, false, false, false, false, false, false, false, false, false, false, false, false, false] (by kernel_rfl) rfl rfl ⟨f0, f1⟩ (fun hHeld => ?_)
                        refine with_tabW tab9_51 bits9_51 (fun HT_ HW_ => ?_)
                        have HBD : Aside0 (Below w.heap.size w wt.drew) := ⟨below_drew HBT.out⟩
                        have HOD := Aside0.mk (HOT.out.below (below_drew (Below.refl wt.heap.size wt)))
                        generalize wt.drew = wd at HBD HOD hHeld ⊢
                        clear f0 f1 HBT HOT
                        refine pure_ (i := 0) (N := some 193) (v := ?_) (a' := ?_) #[true, false, false, false, false, false, false, false, false, false, false, false, false, false, false, false] rfl rfl (any_of HT_.out (by kernel_rfl)) (fun _ _ _ h => h) (Or.inl ⟨by rfl, ?_⟩) ?_ ?_
                        rotate_left
                        · intro w'
                          go_simp
                          with_reducible rfl
                        rotate_left
                        · skip
                          simp only [Act.put, List.setIfInBounds_toArray, List.set_cons_zero, List.set_cons_succ, i64_w, i32_w]
                          rfl
                        refine pure_ (i := 1) (N := some 194) (v := ?_) (a' := ?_) #[true, true, false, false, false, false, false, false, false, false, false, false, false, false, false, false] rfl rfl (any_of HT_.out (by kernel_rfl)) (fun _ _ _ h => h) (Or.inl ⟨by rfl, ?_⟩) ?_ ?_
                        rotate_left
                        · intro w'
                          go_simp
                          with_reducible rfl
                        rotate_left
                        · skip
                          simp only [Act.put, List.setIfInBounds_toArray, List.set_cons_zero, List.set_cons_succ, i64_w, i32_w]
                          rfl
                        refine pure_ (i := 2) (N := some 195) (v := ?_) (a' := ?_) #[true, true, true, false, false, false, false, false, false, false, false, false, false, false, false, false] rfl rfl (any_of HT_.out (by kernel_rfl)) (fun _ _ _ h => h) (Or.inl ⟨by rfl, ?_⟩) ?_ ?_
                        rotate_left
                        · intro w'
                          go_simp
                          with_reducible rfl
                        rotate_left
                        · skip
                          simp only [Act.put, List.setIfInBounds_toArray, List.set_cons_zero, List.set_cons_succ, i64_w, i32_w]
                          rfl
                        refine pure_ (i := 3) (N := some 196) (v := ?_) (a' := ?_) #[true, true, true, true, false, false, false, false, false, false, false, false, false, false, false, false] rfl rfl (any_of HT_.out (by kernel_rfl)) (fun _ _ _ h => h) (Or.inl ⟨by rfl, ?_⟩) ?_ ?_
                        rotate_left
                        · intro w'
                          go_simp
                          with_reducible rfl
                        rotate_left
                        · skip
                          simp only [Act.put, List.setIfInBounds_toArray, List.set_cons_zero, List.set_cons_succ, i64_w, i32_w]
                          rfl
                        refine pure_ (i := 4) (N := some 197) (v := ?_) (a' := ?_) #[true, true, true, true, true, false, false, false, false, false, false, false, false, false, false, false] rfl rfl (any_of HT_.out (by kernel_rfl)) (fun _ _ _ h => h) (Or.inl ⟨by rfl, ?_⟩) ?_ ?_
                        rotate_left
                        · intro w'
                          go_simp
                          with_reducible rfl
                        rotate_left
                        · skip
                          simp only [Act.put, List.setIfInBounds_toArray, List.set_cons_zero, List.set_cons_succ, i64_w, i32_w]
                          rfl
                        refine take_ (i := 5) (N := some 198) (v := ?_) (a' := ?_) #[true, true, true, true, true, true, false, false, false, false, false, false, false, false, false, false] rfl rfl (take_ofW HT_.out HW_.out (by kernel_rfl)) (fun _ _ _ h => h) (Or.inl ⟨by rfl, ?_⟩) hHeld ?_ ?_
                        rotate_left
                        · rintro w' ⟨s0, s1⟩
                          go_simp
                          with_reducible rfl
                        rotate_left
                        · skip
                          simp only [Act.put, List.setIfInBounds_toArray, List.set_cons_zero, List.set_cons_succ, i64_w, i32_w]
                          rfl
                        refine pure_ (i := 6) (N := some 199) (v := ?_) (a' := ?_) #[true, true, true, true, true, true, true, false, false, false, false, false, false, false, false, false] rfl rfl (any_of HT_.out (by kernel_rfl)) (fun _ _ _ h => h) (Or.inl ⟨by rfl, ?_⟩) ?_ ?_
                        rotate_left
                        · intro w'
                          go_simp
                          with_reducible rfl
                        rotate_left
                        · skip
                          simp only [Act.put, List.setIfInBounds_toArray, List.set_cons_zero, List.set_cons_succ, i64_w, i32_w]
                          rfl
                        refine pure_ (i := 7) (N := some 200) (v := ?_) (a' := ?_) #[true, true, true, true, true, true, true, true, false, false, false, false, false, false, false, false] rfl rfl (any_of HT_.out (by kernel_rfl)) (fun _ _ _ h => h) (Or.inl ⟨by rfl, ?_⟩) ?_ ?_
                        rotate_left
                        · intro w'
                          go_simp
                          with_reducible rfl
                        rotate_left
                        · skip
                          simp only [Act.put, List.setIfInBounds_toArray, List.set_cons_zero, List.set_cons_succ, i64_w, i32_w]
                          rfl
                        refine pure_ (i := 8) (N := some 201) (v := ?_) (a' := ?_) #[true, true, true, true, true, true, true, true, true, false, false, false, false, false, false, false] rfl rfl (any_of HT_.out (by kernel_rfl)) (fun _ _ _ h => h) (Or.inl ⟨by rfl, ?_⟩) ?_ ?_
                        rotate_left
                        · intro w'
                          go_simp
                          with_reducible rfl
                        rotate_left
                        · skip
                          simp only [Act.put, List.setIfInBounds_toArray, List.set_cons_zero, List.set_cons_succ, i64_w, i32_w]
                          rfl
                        refine pure_ (i := 9) (N := some 202) (v := ?_) (a' := ?_) #[true, true, true, true, true, true, true, true, true, true, false, false, false, false, false, false] rfl rfl (any_of HT_.out (by kernel_rfl)) (fun _ _ _ h => h) (Or.inl ⟨by rfl, ?_⟩) ?_ ?_
                        rotate_left
                        · intro w'
                          go_simp
                          with_reducible rfl
                        rotate_left
                        · skip
                          simp only [Act.put, List.setIfInBounds_toArray, List.set_cons_zero, List.set_cons_succ, i64_w, i32_w]
                          rfl
                        refine pure_ (i := 10) (N := some 203) (v := ?_) (a' := ?_) #[true, true, true, true, true, true, true, true, true, true, true, false, false, false, false, false] rfl rfl (any_of HT_.out (by kernel_rfl)) (fun _ _ _ h => h) (Or.inl ⟨by rfl, ?_⟩) ?_ ?_
                        rotate_left
                        · intro w'
                          go_simp
                          with_reducible rfl
                        rotate_left
                        · skip
                          simp only [Act.put, List.setIfInBounds_toArray, List.set_cons_zero, List.set_cons_succ, i64_w, i32_w]
                          rfl
                        refine take_ (i := 11) (N := some 204) (v := ?_) (a' := ?_) #[true, true, true, true, true, true, true, true, true, true, true, true, false, false, false, false] rfl rfl (take_ofW HT_.out HW_.out (by kernel_rfl)) (fun _ _ _ h => h) (Or.inl ⟨by rfl, ?_⟩) hHeld ?_ ?_
                        rotate_left
                        · rintro w' ⟨s0, s1⟩
                          go_simp
                          with_reducible rfl
                        rotate_left
                        · skip
                          simp only [Act.put, List.setIfInBounds_toArray, List.set_cons_zero, List.set_cons_succ, i64_w, i32_w]
                          rfl
                        refine pure_ (i := 12) (N := some 205) (v := ?_) (a' := ?_) #[true, true, true, true, true, true, true, true, true, true, true, true, true, false, false, false] rfl rfl (any_of HT_.out (by kernel_rfl)) (fun _ _ _ h => h) (Or.inl ⟨by rfl, ?_⟩) ?_ ?_
                        rotate_left
                        · intro w'
                          go_simp
                          with_reducible rfl
                        rotate_left
                        · skip
                          simp only [Act.put, List.setIfInBounds_toArray, List.set_cons_zero, List.set_cons_succ, i64_w, i32_w]
                          rfl
                        refine one_ (i := 13) (N := some 206) #[true, true, true, true, true, true, true, true, true, true, true, true, true, true, false, false] rfl rfl (one_of HT_.out (by kernel_rfl)) (by decide) (fun K hK => ?_)
                        refine goes_ Tryd.func28 (by kernel_rfl) rfl #[.string (y.f0 ++ (⟨#[47]⟩ : ByteArray)), .int .i64 ((y.f1.length : Nat) : Int)] (by rfl) rfl rfl (by (try simp only [List.map_toArray, List.map_cons, List.map_nil]); first | done | rfl) ?_
                        refine (rhead_calls (y.f0 ++ (⟨#[47]⟩ : ByteArray)) y.f1.length (by have := HSZ.out; omega) (by have := HLZ2.out; omega) wd).mono ?_
                        intro e w2 h2
                        obtain ⟨h2, hb2⟩ := h2
                        subst h2
                        refine ⟨_, rfl, ?_⟩
                        rw [HHDX.out]
                        refine hK.out _ _ ⟨pw_cell_below hb2 hHeld.1, pw_cell_below hb2 hHeld.2⟩ (fun hS1 => ?_)
                        clear hK K
                        refine norm_ (a' := ?_) ?_ ?_
                        rotate_left
                        · show Act.put _ (some 206) _ = _
                          simp only [Act.put, List.setIfInBounds_toArray, List.set_cons_zero, List.set_cons_succ, i64_w, i32_w]
                          rfl
                        have HBE : Aside0 (Below w.heap.size w w2) := ⟨HBD.out.trans (hb2.mono HBD.out.size)⟩
                        have HOE := Aside0.mk (HOD.out.below hb2)
                        clear HBD HOD hHeld hb2 hS1
                        refine last_ (i := 14) (N := some 207) #[true, true, true, true, true, true, true, true, true, true, true, true, true, true, true, false] rfl rfl (one_of HT_.out (by kernel_rfl)) (by decide) (fun K hK => ?_)
                        refine OutM_append_step (w0 := w) w.heap.size (by rfl) (.tmp 193) (.tmp 206) 24 9 rfl Tryd.underlying24 info5 (.slice A16 os.length c16) (os) (tb hd2) (.string hd2) rfl rfl (src_str _ hd2) HOE.out HBE.out HBE.out.size (by rw [tb_len]; have := HOL.out; have := HHS2.out; omega) ?_
                        intro v21 w11 row ho hb hg hrow
                        have HBG := Aside0.mk hb
                        have HOG := Aside0.mk ho
                        clear ho hb HBE HOE hg hrow
                        refine hK.out _ _ ?_
                        clear hK K
                        refine norm_ (a' := ?_) ?_ ?_
                        rotate_left
                        · show Act.put _ (some 207) _ = _
                          simp only [Act.put, List.setIfInBounds_toArray, List.set_cons_zero, List.set_cons_succ, i64_w, i32_w]
                          rfl
                        refine last_ (i := 15) (N := some 14) #[true, true, true, true, true, true, true, true, true, true, true, true, true, true, true, true] rfl rfl (one_of HT_.out (by kernel_rfl)) (by decide) (fun K hK => ?_)
                        refine value_ (w1 := ?_) (v := ?_) (by rfl) rfl ?_ ?_
                        rotate_left 2
                        · go_simp
                          constructor
                          · rfl
                          · rfl
                        refine hK.out _ _ ?_
                        clear hK K
                        refine norm_ (a' := ?_) ?_ ?_
                        rotate_left
                        · show Act.put _ (some 14) _ = _
                          simp only [Act.put, List.setIfInBounds_toArray, List.set_cons_zero, List.set_cons_succ, i64_w, i32_w]
                          rfl
                        refine done_ (done_of HT_.out (by kernel_rfl)) ?_
                        have e1 := pw_cell_below HBG.out HE1.out
                        have HCZ := Aside0.mk (Kd.C_below HCY.out HBG.out)
                        go_wp2_with (first | ((with_reducible refine gate_builtin (b := .append) (xs := #[.tmp 208, .tmp 213]) rfl ?_); at_builtin; refine OutM_append (w0 := w) w.heap.size rfl (.tmp 208) (.tmp 213) 24 24 rfl Tryd.underlying24 info5 (v21) (os ++ tb hd2) (y.f1) (.slice A2 y.f1.length c2) rfl rfl ?aX ?aO ?aB ?aS ?aL ?_; (case aX => exact src_of_C c2 Tryd.underlying24 HCZ.out (C_nil HCZ.out)); (case aO => exact HOG.out); (case aB => exact HBG.out); (case aS => exact HBG.out.size); (case aL => rw [List.length_append, tb_len]; have := HOL.out; have := HHS2.out; have := HLZ2.out; omega); intro v22 w12 row ho hb hg hrow; have HBH := Aside0.mk hb; have HOH := Aside0.mk ho; clear ho hb hg hrow))
                        refine ⟨?_, meas hk2 (by first | exact HWT.out | omega)⟩
                        refine Exists.intro (k2 + 1) ?_
                        exact ⟨by first | rfl | (rw [HWT.out]; done) | exact int_eq (by omega), ⟨hk2⟩, HBH, ⟨by rw [fold_take l s0 k2 hk2, HOF.out, HYG.out, HAD.out]; exact HOH.out⟩⟩
                    · have hkn : k2 = l.length := by have := HK2.out; omega
                      have hkI : ¬ ((k2 : Int) < (l.length : Int)) := by omega
                      obtain rfl : r = (os, 0) := by rw [HFIN.out, HSE.out, ← HOF.out, hkn, List.take_length]
                      go_wp2_with fail
                      refine bodyPost_ret (v := .tuple #[.slice A16 os.length c16, .int .i64 0]) (by simp [results, Tryd.results9, go_sem]) rfl ?_
                      exact ⟨_, rfl, HOT.out.reads, HBT.out⟩
          · have hgx : 0 < x.length := by cases x with | nil => exact absurd rfl hxe | cons z t => exact Nat.succ_pos _
            have hgt : (0 : Int) < (x.length : Int) := by omega
            have HFX : Aside0 (first x = 8 + (64 + 4 * x.length + ns)) := ⟨by unfold first namesB; rw [if_neg hxe, tb_len, HNX.out]⟩
            clear hgx
            go_wp2_with fail
            go_loopw [11, 12, 13] (fun v11 v12 v13 wr => ∃ i : Nat, v13 = .int .i64 i ∧ v11 = .int .i64 ((after (first x) (l.take i) : Nat) : Int) ∧ Aside0 (i ≤ l.length) ∧ Aside0 (Below w.heap.size w wr) ∧ Aside0 ((Kd.int .i64).R 3 wr w.heap.size (fun _ => True) v12 ((places (first x) (l.take i)).map fun (n : Nat) => (n : Int)))) (fun _ _ v13 _ => l.length - (intOf v13).toNat)
            case atStart => exact ⟨0, rfl, int_eq (by show _ = ((first x : Nat) : Int); have := HX.out; have := HNS.out; have := HXn.out; rw [HFX.out]; rw [w64 (z := 4 * (x.length : Int)) (by omega) (by omega), w64 (z := 72 + 4 * (x.length : Int)) (by omega) (by omega), w64 (by omega) (by omega)]; omega), ⟨Nat.zero_le _⟩, HB, ⟨Kd.R_nil _ _ _ _ _⟩⟩
            case round =>
              obtain ⟨wp, rfl⟩ : ∃ q, q = wr := ⟨_, rfl⟩
              obtain ⟨k, rfl, rfl, HKI, HBP, HPL⟩ := hrel
              have hlen := HLn.out
              obtain ⟨a, ha⟩ : ∃ a, after (first x) (l.take k) = a := ⟨_, rfl⟩
              rw [ha]
              have hal : a ≤ 42000000000000 := by have h1 := after_le (first x) (l.take k); have h2 := mM_take l k; have h3 := HM.out; have h4 := HF0.out; omega
              have HAA := Aside0.mk ha
              have HAL2 := Aside0.mk hal
              clear ha HB
              by_cases hk : k < l.length
              · have hkI : (k : Int) < (l.length : Int) := by omega
                have HWK : Aside0 (wrap64 ((k : Int) + 1) = ((k + 1 : Nat) : Int)) := ⟨by unfold wrap64; omega⟩
                obtain ⟨ad, A2, c2, rfl, e0w, e1w, _, _⟩ := at_T39 HR.out (k : Int) (by omega) hkI
                obtain ⟨y, hy⟩ : ∃ y, rd_T39 l (k : Int) = y := ⟨_, rfl⟩
                rw [hy] at e1w
                rw [Int.toNat_natCast] at e1w
                have hyg : l.getD k z39 = y := by rw [← hy]; unfold rd_T39; rw [Int.toNat_natCast]
                have HYG := Aside0.mk hyg
                have hyz := mem_mM l k hk
                rw [hyg] at hyz
                have HYZ : Aside0 (y.f1.length ≤ 1099511627776) := ⟨by have := HM.out; omega⟩
                have HAE : Aside0 (after (first x) (l.take (k + 1)) = even a + (60 + y.f1.length)) := ⟨by rw [after_take _ _ _ hk, HAA.out, HYG.out]⟩
                have HPA : Aside0 ((places (first x) (l.take (k + 1))).map (fun (n : Nat) => (n : Int)) = (places (first x) (l.take k)).map (fun (n : Nat) => (n : Int)) ++ [((even a : Nat) : Int)]) := ⟨by rw [places_take _ _ _ hk, List.map_append, HAA.out]; rfl⟩
                have hpl : ((places (first x) (l.take k)).map (fun (n : Nat) => (n : Int))).length ≤ 5497558139 := by have := HLn.out; rw [List.length_map, places_len, List.length_take]; omega
                obtain ⟨ps, hps⟩ : ∃ p, (places (first x) (l.take k)).map (fun (n : Nat) => (n : Int)) = p := ⟨_, rfl⟩
                rw [hps] at HPL HPA hpl
                have HPN := Aside0.mk hpl
                clear hy hyg hyz hlen hal hps hpl e0w
                by_cases hod : a % 2 = 1
                · have ho1 : (a : Int) % 2 = 1 := by omega
                  have he : wrap64 ((a : Int) + 1) = ((a + 1 : Nat) : Int) := by have := HAL2.out; unfold wrap64; omega
                  have hev : even a = a + 1 := by unfold even; omega
                  rw [hev] at HAE HPA
                  go_upto_region 28 with fail
                  rw [he]
                  clear he hev ho1
                  go_wp2_with (first | ((with_reducible refine gate_builtin (b := .append) (xs := #[.tmp 116, .tmp 118]) rfl ?_); at_builtin; refine Kd.R_append (Kd.int .i64) (w0 := w) w.heap.size rfl (.tmp 116) (.tmp 118) 45 3 (.int .i64 0) 8 rfl Tryd.underlying45 info3 rfl (by decide) (by omega) u12 ps (((a + 1) : Nat) : Int) [.int .i64 (((a + 1) : Nat) : Int)] (fun _ => True) (fun _ => False) rfl rfl ?aP (fun _ hk => hk.elim) ?aF ?aO ?aB ?aS ?aL ?_; (case aP => exact rfl); (case aB => exact HBP.out); (case aF => exact (fun _ _ => trivial)); (case aO => exact HPL.out); (case aS => exact HBP.out.size); (case aL => have := HPN.out; omega); intro v5 w9 ho hb hg hat; have b1 := pw_cell_below hb e1w; have HB9 := Aside0.mk hb; have HP9 := Aside0.mk ho; clear ho hb hg hat))
                  refine ⟨?_, meas hk (by first | exact HWK.out | omega)⟩
                  refine Exists.intro (k + 1) ?_
                  rw [HAE.out, HPA.out]
                  exact ⟨by first | rfl | (rw [HWK.out]; done) | exact int_eq (by have := HWK.out; omega), int_eq (by have := HAL2.out; have := HYZ.out; rw [w64 (z := (a : Int) + 1 + 60) (by omega) (by omega), w64 (by omega) (by omega)]; omega), ⟨hk⟩, HB9, HP9⟩
                · have ho1 : ¬ (a : Int) % 2 = 1 := by omega
                  have ho2 : (a : Int) % 2 = 0 := by omega
                  have hev : even a = a := by unfold even; omega
                  rw [hev] at HAE HPA
                  go_upto_region 28 with fail
                  clear hev ho1 ho2
                  go_wp2_with (first | ((with_reducible refine gate_builtin (b := .append) (xs := #[.tmp 116, .tmp 118]) rfl ?_); at_builtin; refine Kd.R_append (Kd.int .i64) (w0 := w) w.heap.size rfl (.tmp 116) (.tmp 118) 45 3 (.int .i64 0) 8 rfl Tryd.underlying45 info3 rfl (by decide) (by omega) u12 ps ((a : Nat) : Int) [.int .i64 ((a : Nat) : Int)] (fun _ => True) (fun _ => False) rfl rfl ?aP (fun _ hk => hk.elim) ?aF ?aO ?aB ?aS ?aL ?_; (case aP => exact rfl); (case aB => exact HBP.out); (case aF => exact (fun _ _ => trivial)); (case aO => exact HPL.out); (case aS => exact HBP.out.size); (case aL => have := HPN.out; omega); intro v5 w9 ho hb hg hat; have b1 := pw_cell_below hb e1w; have HB9 := Aside0.mk hb; have HP9 := Aside0.mk ho; clear ho hb hg hat))
                  refine ⟨?_, meas hk (by first | exact HWK.out | omega)⟩
                  refine Exists.intro (k + 1) ?_
                  rw [HAE.out, HPA.out]
                  exact ⟨by first | rfl | (rw [HWK.out]; done) | exact int_eq (by have := HWK.out; omega), int_eq (by have := HAL2.out; have := HYZ.out; rw [w64 (z := (a : Int) + 60) (by omega) (by omega), w64 (by omega) (by omega)]; omega), ⟨hk⟩, HB9, HP9⟩
              · have hkn : k = l.length := by have := HKI.out; omega
                have hkI : ¬ ((k : Int) < (l.length : Int)) := by omega
                have HAF : Aside0 (after (first x) l = a) := ⟨by rw [← HAA.out, hkn, List.take_length]⟩
                have HPF : Aside0 ((Kd.int .i64).R 3 wp w.heap.size (fun _ => True) u12 ((places (first x) l).map fun (n : Nat) => (n : Int))) := ⟨by have := HPL.out; rwa [hkn, List.take_length] at this⟩
                clear HPL HAA HKI hkn hk hlen hal
                by_cases hat : 65536 < a
                · obtain rfl : r = ([], 3) := HRr.out.symm.trans (putS_long l x HNO.out HAL.out (by rw [HAF.out]; exact hat))
                  have hat2 : (65536 : Int) < (a : Int) := by omega
                  go_wp2_with fail
                  refine bodyPost_ret (v := .tuple #[.slice none 0 0, .int .i64 3]) (by simp [results, Tryd.results9, go_sem]) rfl ?_
                  exact ⟨_, rfl, outC_nil _, HBP.out⟩
                · have hat2 : ¬ (65536 : Int) < (a : Int) := by omega
                  have HFIN : Aside0 (r = (l.foldl addM (startB l x), 0)) := ⟨HRr.out.symm.trans (putS_fine l x HNO.out HAL.out (by rw [HAF.out]; exact hat))⟩
                  have HAT : Aside0 (a ≤ 65536) := ⟨by omega⟩
                  clear hat
                  obtain ⟨pls, hpls⟩ : ∃ p, (places (first x) l).map (fun (n : Nat) => (n : Int)) = p := ⟨_, rfl⟩
                  rw [hpls] at HPF
                  have HPLS := Aside0.mk hpls
                  have hpll : pls.length = l.length := by rw [← hpls, List.length_map, places_len]
                  have HPLL := Aside0.mk hpll
                  clear hpls hpll
                  go_wp2_with fail
                  refine (rmagic_calls _).mono ?_
                  intro e w2 h2
                  obtain ⟨h2, hb2⟩ := h2
                  subst h2
                  have HB2 : Aside0 (Below w.heap.size w w2) := ⟨HBP.out.trans (hb2.mono HBP.out.size)⟩
                  have HP2 := Aside0.mk (Kd.R_below HPF.out hb2)
                  clear hb2 HPF HBP
                  simp only []
                  have kc := Lib.run_convert_string_bytes (P := Tryd.prog) w2 9 24 5 magS Tryd.underlying9 Tryd.underlying24 Tryd.underlying5
                  have ho := OutM_bytes w2 magS w.heap.size HB2.out.size (by decide)
                  have hb3 := bytesWorld_below w2 magS
                  have hz3 := Lib.bytesWorld_size w2 5 magS
                  obtain ⟨w3, hw3⟩ : ∃ q, Lib.bytesWorld w2 5 magS = q := ⟨_, rfl⟩
                  rw [show magS.size = 8 from rfl] at kc ho
                  obtain ⟨cm, hcm⟩ : ∃ c, grownCap w2 8 0 5 = c := ⟨_, rfl⟩
                  rw [hw3, hcm] at kc ho
                  rw [hw3] at hb3 hz3
                  obtain ⟨gm, hgm⟩ : ∃ g, w2.heap.size = g := ⟨_, rfl⟩
                  have HB3 : Aside0 (Below w.heap.size w w3) := ⟨HB2.out.trans (hb3.mono HB2.out.size)⟩
                  have HP3 := Aside0.mk (Kd.R_below HP2.out hb3)
                  rw [hgm] at kc ho hz3
                  rw [tb_magS] at ho
                  have HO3 := Aside0.mk ho
                  have HG3 : Aside0 (gm < w3.heap.size) := ⟨by omega⟩
                  clear hw3 hcm hgm ho hb3 hz3 HB2 HP2
                  go_upto_region 33 with fail
                  clear kc
                  have hxl : x.length ≤ 65536 := by have h1 := le_after (first x) l; have h2 := HAF.out; have h3 := HFX.out; have h4 := HAT.out; omega
                  have HXL := Aside0.mk hxl
                  obtain ⟨A12, c12, hu12, _, hC12⟩ := Kd.R_reads HP3.out
                  subst hu12
                  have HC12 := Aside0.mk hC12
                  clear hxl hC12 HP3
                  go_wp2_with fail
                  have BC := rfour_calls x.length (by have := HXL.out; omega) w3
                  refine BC.mono ?_
                  clear BC
                  intro e w4 h4
                  obtain ⟨vb, h4, hr4, hb4⟩ := h4
                  subst h4
                  simp only []
                  obtain ⟨bn, hbn⟩ : ∃ b, bigB x.length = b := ⟨_, rfl⟩
                  rw [hbn] at hr4
                  have HBN := Aside0.mk hbn
                  have hbl : bn.length = 4 := by rw [← hbn]; rfl
                  have HBL4 := Aside0.mk hbl
                  have HB4 := Aside0.mk hb4
                  have HR4 := Aside0.mk hr4
                  clear hbn hbl hb4 hr4
                  go_wp2_with fail
                  go_loopw [10, 15] (fun v10 v15 wr => ∃ q : Nat, v15 = .int .i64 q ∧ Aside0 (q ≤ x.length) ∧ Aside0 (Below w3.heap.size w3 wr) ∧ Aside0 ((Kd.int .u8).R 5 wr w3.heap.size (fun _ => True) v10 (bn ++ idxB l x q))) (fun _ v15 _ => x.length - (intOf v15).toNat)
                  case atStart => exact ⟨0, rfl, ⟨Nat.zero_le _⟩, HB4, ⟨by rw [idxB_zero, List.append_nil]; exact HR4.out⟩⟩
                  case round =>
                    obtain ⟨wq, rfl⟩ : ∃ q, q = wr := ⟨_, rfl⟩
                    obtain ⟨q, rfl, HQ, HBQ, HOQ⟩ := hrel
                    clear HB4 HR4
                    have hlen := HXn.out
                    obtain ⟨ix, hix⟩ : ∃ s, bn ++ idxB l x q = s := ⟨_, rfl⟩
                    rw [hix] at HOQ
                    have hixl : ix.length ≤ 4 + 4 * x.length := by rw [← hix, List.length_append, idxB_len l x q HQ.out]; have := HBL4.out; have := HQ.out; omega
                    have HIX := Aside0.mk hix
                    have HIXL := Aside0.mk hixl
                    clear hix hixl
                    have HBW : Aside0 (Below w.heap.size w wq) := ⟨HB3.out.trans (HBQ.out.mono HB3.out.size)⟩
                    by_cases hq : q < x.length
                    · have hqI : (q : Int) < (x.length : Int) := by omega
                      have HWQ : Aside0 (wrap64 ((q : Int) + 1) = ((q + 1 : Nat) : Int)) := ⟨by unfold wrap64; omega⟩
                      obtain ⟨ad, rfl, e0, e1⟩ := at_T43 (Kd.C_below HR1.out HBW.out) (q : Int) (by omega) hqI
                      obtain ⟨y, hy⟩ : ∃ y, rd_T43 x (q : Int) = y := ⟨_, rfl⟩
                      rw [hy] at e1
                      clear e0
                      rw [Int.toNat_natCast] at e1
                      have hyg : x.getD q z43 = y := by rw [← hy]; unfold rd_T43; rw [Int.toNat_natCast]
                      obtain ⟨j2, hj2, hj3⟩ : ∃ j : Nat, y.f1 = (j : Int) ∧ j < l.length := by have h := idx_at l x q hq HAL.out; rw [hyg] at h; exact ⟨y.f1.toNat, by omega, by omega⟩
                      rw [hj2] at e1
                      have hxs : idxB l x (q + 1) = idxB l x q ++ bigB ((places (first x) l).getD j2 0) := by rw [idxB_succ l x q hq, hyg, hj2, Int.toNat_natCast]
                      have HXS := Aside0.mk hxs
                      have hpm : (places (first x) l).getD j2 0 ≤ 65536 := by have h1 := place_le (first x) l j2 hj3; have h2 := HAF.out; have h4 := HAT.out; omega
                      obtain ⟨ap, hA12, a0⟩ := at_N (Kd.C_below HC12.out HBQ.out) j2 (by rw [HPLL.out]; exact hj3)
                      subst hA12
                      rw [← HPLS.out, getD_map _ _ (by rw [places_len]; exact hj3)] at a0
                      obtain ⟨pj, hpj⟩ : ∃ p, (places (first x) l).getD j2 0 = p := ⟨_, rfl⟩
                      rw [hpj] at a0 HXS hpm
                      have hj3I : (j2 : Int) < (pls.length : Int) := by rw [HPLL.out]; omega
                      have HPM := Aside0.mk hpm
                      have hj4 : j2 < pls.length := by rw [HPLL.out]; exact hj3
                      clear hpj hy hyg hlen hxs hj2 hpm
                      go_wp2_with fail
                      have BC := rfour_calls pj (by have := HPM.out; omega) wq
                      refine BC.mono ?_
                      clear BC a0 e1
                      intro e w8 h8
                      obtain ⟨vb2, h8, hr8, hb8⟩ := h8
                      subst h8
                      have HB8 : Aside0 (Below w3.heap.size w3 w8) := ⟨HBQ.out.trans (hb8.mono HBQ.out.size)⟩
                      have HO8 := Aside0.mk (Kd.R_below HOQ.out hb8)
                      obtain ⟨Ab2, cb2, hvb, _, hCb⟩ := Kd.R_reads hr8
                      subst hvb
                      have HCB := Aside0.mk hCb
                      clear hb8 hr8 hCb HBW HOQ HBQ
                      simp only []
                      obtain ⟨bj, hbj⟩ : ∃ b, bigB pj = b := ⟨_, rfl⟩
                      rw [hbj] at HCB HXS ⊢
                      have hbl : bj.length = 4 := by rw [← hbj]; rfl
                      have HBJ4 := Aside0.mk hbl
                      clear hbj hbl
                      go_wp2_with (first | ((with_reducible refine gate_builtin (b := .append) (xs := #[.tmp 145, .tmp 154]) rfl ?_); at_builtin; refine Kd.R_append_rows (Kd.int .u8) (w0 := w3) w3.heap.size rfl (.tmp 145) (.tmp 154) 24 5 (.int .u8 0) 1 rfl Tryd.underlying24 info5 rfl (by decide) (by omega) (u10) (ix) (bj) _ _ _ (fun _ => True) (fun _ => False) rfl rfl ?aO ?aR (fun _ _ h => h) (fun _ h => h.elim) (fun _ _ => trivial) ?aB ?aS ?aL ?_; (case aR => exact HCB.out); (case aO => exact HO8.out); (case aB => exact HB8.out); (case aS => exact HB8.out.size); (case aL => have := HIXL.out; have := HBJ4.out; have := HXn.out; omega); intro v19 w9 ho hb hg hat; have HB9 := Aside0.mk hb; have HO9 := Aside0.mk ho; clear ho hb hg hat))
                      refine ⟨?_, meas hq (by first | exact HWQ.out | omega)⟩
                      refine Exists.intro (q + 1) ?_
                      exact ⟨by first | rfl | (rw [HWQ.out]; done) | exact int_eq (by omega), ⟨hq⟩, HB9, ⟨by rw [HXS.out, ← List.append_assoc, HIX.out]; exact HO9.out⟩⟩
                    · have hqn : q = x.length := by have := HQ.out; omega
                      have hqI : ¬ ((q : Int) < (x.length : Int)) := by omega
                      rw [hqn] at HIX
                      clear HQ hqn hq hlen HC12 HBW
                      go_wp2_with fail
                      go_loopw [10, 16] (fun v10 v16 wr => ∃ q : Nat, v16 = .int .i64 q ∧ Aside0 (q ≤ x.length) ∧ Aside0 (Below w3.heap.size w3 wr) ∧ Aside0 ((Kd.int .u8).R 5 wr w3.heap.size (fun _ => True) v10 (ix ++ tb (nmS (x.take q))))) (fun _ v16 _ => x.length - (intOf v16).toNat)
                      case atStart => exact ⟨0, rfl, ⟨Nat.zero_le _⟩, HBQ, ⟨by rw [show tb (nmS (x.take 0)) = [] from rfl, List.append_nil]; exact HOQ.out⟩⟩
                      case round =>
                        obtain ⟨wn, rfl⟩ : ∃ q, q = wr := ⟨_, rfl⟩
                        obtain ⟨p, rfl, HQ, HBN5, HON⟩ := hrel
                        clear HBQ HOQ
                        have hlen := HXn.out
                        obtain ⟨fs, hfs⟩ : ∃ s, ix ++ tb (nmS (x.take p)) = s := ⟨_, rfl⟩
                        rw [hfs] at HON
                        have hfl : fs.length ≤ 1099511900000 := by rw [← hfs, List.length_append, tb_len]; have := HIXL.out; have := HXL.out; have h1 := nmS_size (x.take p); have h2 := mX_take x p; have h3 := HX.out; omega
                        have HFS := Aside0.mk hfs
                        have HFL := Aside0.mk hfl
                        clear hfs hfl
                        have HBW : Aside0 (Below w.heap.size w wn) := ⟨HB3.out.trans (HBN5.out.mono HB3.out.size)⟩
                        by_cases hq : p < x.length
                        · have hqI : (p : Int) < (x.length : Int) := by omega
                          have HWQ : Aside0 (wrap64 ((p : Int) + 1) = ((p + 1 : Nat) : Int)) := ⟨by unfold wrap64; omega⟩
                          obtain ⟨ad, rfl, e0, e1⟩ := at_T43 (Kd.C_below HR1.out HBW.out) (p : Int) (by omega) hqI
                          obtain ⟨y, hy⟩ : ∃ y, rd_T43 x (p : Int) = y := ⟨_, rfl⟩
                          rw [hy] at e0
                          clear e1
                          rw [Int.toNat_natCast] at e0
                          have hyg : x.getD p z43 = y := by rw [← hy]; unfold rd_T43; rw [Int.toNat_natCast]
                          have hyz := mem_mX x p hq
                          rw [hyg] at hyz
                          have HYS : Aside0 (y.f0.size ≤ 1099511627776) := ⟨by have := HX.out; omega⟩
                          obtain ⟨yn, hyn⟩ : ∃ s, y.f0 = s := ⟨_, rfl⟩
                          rw [hyn] at e0 HYS
                          have HXS : Aside0 (ix ++ tb (nmS (x.take (p + 1))) = (fs ++ tb yn) ++ [0]) := ⟨by rw [nmS_take x p hq, hyg, hyn, tb_append, tb_append, ← List.append_assoc, ← List.append_assoc, HFS.out]; rfl⟩
                          clear hy hyg hyz hyn hlen HBW
                          go_wp2_with (first | ((with_reducible refine gate_builtin (b := .append) (xs := #[.tmp 162, .tmp 167]) rfl ?_); at_builtin; refine App.R_append_str (w0 := w3) w3.heap.size rfl (.tmp 162) (.tmp 167) 24 9 5 rfl Tryd.underlying24 Tryd.underlying9 info5 (u10) (fs) yn (fun _ => True) rfl rfl (fun _ _ => trivial) ?aO ?aB ?aS ?aL ?_; (case aO => exact HON.out); (case aB => exact HBN5.out); (case aS => exact HBN5.out.size); (case aL => have := HFL.out; have := HYS.out; omega); intro v20 w10 ho hb hg; have HB10 := Aside0.mk hb; have HO10 := Aside0.mk (show (Kd.int .u8).R 5 _ w3.heap.size (fun _ => True) _ (fs ++ tb yn) from ho); clear ho hb hg) | ((with_reducible refine gate_builtin (b := .append) (xs := #[.tmp 169, .tmp 170]) rfl ?_); at_builtin; refine Kd.R_append (Kd.int .u8) (w0 := w3) w3.heap.size rfl (.tmp 169) (.tmp 170) 24 5 (.int .u8 0) 1 rfl Tryd.underlying24 info5 rfl (by decide) (by omega) (v20) (fs ++ tb yn) 0 [.int .u8 0] (fun _ => True) (fun _ => False) rfl rfl ?aP (fun _ hk => hk.elim) ?aF ?aO ?aB ?aS ?aL ?_; (case aP => exact rfl); (case aB => exact HB10.out); (case aF => exact (fun _ _ => trivial)); (case aO => exact HO10.out); (case aS => exact HB10.out.size); (case aL => have := HFL.out; have := HYS.out; rw [List.length_append, tb_len]; omega); intro v21 w11 ho hb hg hat; have HB11 := Aside0.mk hb; have HO11 := Aside0.mk ho; clear ho hb hg hat))
                          refine ⟨?_, meas hq (by first | exact HWQ.out | omega)⟩
                          refine Exists.intro (p + 1) ?_
                          exact ⟨by first | rfl | (rw [HWQ.out]; done) | exact int_eq (by omega), ⟨hq⟩, HB11, ⟨by rw [HXS.out]; exact HO11.out⟩⟩
                        · have hqn : p = x.length := by have := HQ.out; omega
                          have hqI : ¬ ((p : Int) < (x.length : Int)) := by omega
                          rw [hqn, List.take_length] at HFS
                          clear HQ hqn hq hlen
                          obtain ⟨A10, c10, hu10, hle10, hC10⟩ := Kd.R_reads HON.out
                          subst hu10
                          have HNA : Aside0 (A10 = none → fs.length = 0) := ⟨C_nil hC10⟩
                          clear hle10 hC10
                          obtain ⟨hd, hhd⟩ : ∃ h, headS (⟨#[47]⟩ : ByteArray) fs.length = h := ⟨_, rfl⟩
                          have HC := rhead_calls (⟨#[47]⟩ : ByteArray) fs.length (by decide) (by have := HFL.out; omega) wn
                          have hhs := headS_size (⟨#[47]⟩ : ByteArray) fs.length (by have := HFL.out; omega)
                          rw [hhd] at HC hhs
                          have HHD := Aside0.mk hhd
                          have HHS : Aside0 (hd.size ≤ 91) := ⟨hhs⟩
                          have HCC := Aside0.mk HC
                          clear hhd hhs HC
                          go_wp2_with fail
                          refine HCC.out.mono ?_
                          clear HCC
                          intro e w6 h6
                          obtain ⟨h6, hb6⟩ := h6
                          subst h6
                          have HB6 : Aside0 (Below w3.heap.size w3 w6) := ⟨HBN5.out.trans (hb6.mono HBN5.out.size)⟩
                          have HF6 := Aside0.mk (Kd.R_below HON.out hb6)
                          have HBW6 : Aside0 (Below w.heap.size w w6) := ⟨HB3.out.trans (HB6.out.mono HB3.out.size)⟩
                          have HO6 := Aside0.mk (HO3.out.below HB6.out)
                          clear hb6 HBN5 HON HBW
                          simp only []
                          go_wp2_with (first | ((with_reducible refine gate_builtin (b := .append) (xs := #[.tmp 172, .tmp 175]) rfl ?_); at_builtin; refine OutM_append (w0 := w) w.heap.size rfl (.tmp 172) (.tmp 175) 24 9 rfl Tryd.underlying24 info5 (.slice (some ⟨gm, 0, none⟩) 8 cm) (magicB) (tb hd) (.string hd) rfl rfl ?aX ?aO ?aB ?aS ?aL ?_; (case aX => exact (src_str _ hd)); (case aO => exact HO6.out); (case aB => exact HBW6.out); (case aS => exact HBW6.out.size); (case aL => rw [tb_len]; have := HHS.out; show 8 + _ ≤ _; omega); intro v22 w7 row ho hb hg hrow; have HB7 := Aside0.mk hb; have HO7 := Aside0.mk ho; have HF7 := Aside0.mk (R_keep_young (v := .slice (some ⟨gm, 0, none⟩) 8 cm) (n := 8) HF6.out ⟨gm, cm, rfl, HG3.out⟩ hg hrow); have HC7 := Aside0.mk (Kd.R_reads' HF7.out).2.2; clear ho hb hg hrow) | ((with_reducible refine gate_builtin (b := .append) (xs := #[.tmp 177, .tmp 178]) rfl ?_); at_builtin; refine OutM_append (w0 := w) w.heap.size rfl (.tmp 177) (.tmp 178) 24 24 rfl Tryd.underlying24 info5 (v22) (magicB ++ tb hd) (fs) (.slice A10 fs.length c10) rfl rfl ?aX ?aO ?aB ?aS ?aL ?_; (case aX => exact src_of_C c10 Tryd.underlying24 HC7.out HNA.out); (case aO => exact HO7.out); (case aB => exact HB7.out); (case aS => exact HB7.out.size); (case aL => rw [List.length_append, tb_len]; have := HHS.out; have := HFL.out; show 8 + _ + _ ≤ _; omega); intro v23 w12 row ho hb hg hrow; have HB12 := Aside0.mk hb; have HO12 := Aside0.mk ho; clear ho hb hg hrow))
                          have e1 : fs.length = 4 + 4 * x.length + (namesB x).length := by rw [← HFS.out, ← HIX.out, List.length_append, List.length_append, idxB_len l x x.length (Nat.le_refl _), HBL4.out]; rfl
                          have HSE : Aside0 (startB l x = (magicB ++ tb hd) ++ fs) := ⟨by rw [startB, if_neg hxe, ← e1, HHD.out, ← HFS.out, ← HIX.out, ← HBN.out]; unfold indexB idxB namesB; rw [List.take_length]⟩
                          clear e1
                          have HS0 : Aside0 (((magicB ++ tb hd) ++ fs).length ≤ 30000000000000) := ⟨by rw [List.length_append, List.length_append, tb_len]; have := HHS.out; have := HFL.out; show 8 + _ + _ ≤ _; omega⟩
                          obtain ⟨s0, hs0⟩ : ∃ s, (magicB ++ tb hd) ++ fs = s := ⟨_, rfl⟩
                          rw [hs0] at HO12 HSE HS0
                          clear hs0 HC7 HF7 HF6 HO6 HO7 HB7 HBW6 HB6 HO3 HB3 HG3
                          go_wp2_with fail
                          go_loopw [14, 17] (fun v14 v17 wr => ∃ k : Nat, v17 = .int .i64 k ∧ Aside0 (k ≤ l.length) ∧ Aside0 (Below w.heap.size w wr) ∧ Aside0 (OutM wr w.heap.size v14 ((l.take k).foldl addM s0))) (fun _ v17 _ => l.length - (intOf v17).toNat)
                          case atStart => exact ⟨0, rfl, ⟨Nat.zero_le _⟩, HB12, ⟨HO12.out⟩⟩
                          case round =>
                            obtain ⟨wt, rfl⟩ : ∃ q, q = wr := ⟨_, rfl⟩
                            obtain ⟨k2, rfl, HK2, HBT, HOT⟩ := hrel
                            clear HB12 HO12
                            have hlen := HLn.out
                            have hfl := fold_len l s0 (by have := HM.out; omega) k2 HK2.out
                            obtain ⟨os, hos⟩ : ∃ o, (l.take k2).foldl addM s0 = o := ⟨_, rfl⟩
                            rw [hos] at hfl HOT
                            have HOF := Aside0.mk hos
                            have HOL : Aside0 (os.length ≤ 40000000000000) := ⟨by have h1 := mM_take l k2; have h2 := HM.out; have h3 := HS0.out; omega⟩
                            clear hfl hos
                            obtain ⟨A16, c16, hu16, _, _⟩ := HOT.out.reads
                            subst hu16
                            by_cases hk2 : k2 < l.length
                            · have hkI : (k2 : Int) < (l.length : Int) := by omega
                              have HWT : Aside0 (wrap64 ((k2 : Int) + 1) = ((k2 + 1 : Nat) : Int)) := ⟨by unfold wrap64; omega⟩
                              obtain ⟨ad, A2, c2, rfl, e0w, e1w, _, hcy⟩ := at_T39 HR.out (k2 : Int) (by omega) hkI
                              obtain ⟨y, hy⟩ : ∃ y, rd_T39 l (k2 : Int) = y := ⟨_, rfl⟩
                              rw [hy] at e0w e1w hcy
                              rw [Int.toNat_natCast] at e0w e1w
                              have hyg : l.getD k2 z39 = y := by rw [← hy]; unfold rd_T39; rw [Int.toNat_natCast]
                              have HYG := Aside0.mk hyg
                              have hyz := mem_mM l k2 hk2
                              rw [hyg] at hyz
                              have HCY := Aside0.mk hcy
                              have HE0 := Aside0.mk e0w
                              have HE1 := Aside0.mk e1w
                              have HLZ2 : Aside0 (y.f1.length ≤ 1099511627776) := ⟨by have := HM.out; omega⟩
                              have HLZ : Aside0 (y.f1.length ≤ 9223372036854775807) := ⟨by have := HLZ2.out; omega⟩
                              have hfs : y.f0.size ≤ 1099511627776 := by have := HM.out; omega
                              have HFS2 := Aside0.mk hfs
                              have HSZ : Aside0 ((y.f0 ++ (⟨#[47]⟩ : ByteArray)).size ≤ 140737488351233) := ⟨by rw [ByteArray.size_append, show (⟨#[47]⟩ : ByteArray).size = 1 from rfl]; omega⟩
                              have nq1 : ¬ (9223372036854775807 < y.f0.size + 1) := by omega
                              have hhs := headS_size (y.f0 ++ (⟨#[47]⟩ : ByteArray)) y.f1.length HLZ.out
                              obtain ⟨hd2, hhd⟩ : ∃ h, headS (y.f0 ++ (⟨#[47]⟩ : ByteArray)) y.f1.length = h := ⟨_, rfl⟩
                              rw [hhd] at hhs
                              have HHDX : Aside0 (headS (y.f0 ++ (⟨#[47]⟩ : ByteArray)) y.f1.length = hd2) := ⟨hhd⟩
                              have HHS2 : Aside0 (hd2.size ≤ 1099511629000) := ⟨by rw [ByteArray.size_append, show (⟨#[47]⟩ : ByteArray).size = 1 from rfl] at hhs; omega⟩
                              clear hy hyg hyz hlen hcy hhd hhs hfs e0w e1w
                              by_cases hodd : os.length % 2 = 1
                              · have ho1 : ((os.length : Int) % 2) = 1 := by omega
                                have HAD : Aside0 (addM os y = ((os ++ [10]) ++ tb hd2) ++ y.f1) := ⟨by unfold addM; rw [if_pos hodd, HHDX.out]⟩
                                have HOL2 : Aside0 ((os ++ [10]).length ≤ 40000000000001) := ⟨by rw [List.length_append]; show os.length + 1 ≤ _; have := HOL.out; omega⟩
                                go_upto_region 51 with (first | ((with_reducible refine gate_builtin (b := .append) (xs := #[.tmp 190, .tmp 191]) rfl ?_); at_builtin; refine OutM_append_val (w0 := w) w.heap.size rfl (.tmp 190) (.tmp 191) 24 rfl Tryd.underlying24 info5 (.slice A16 os.length c16) os 10 rfl rfl ?aO ?aB ?aS ?aL ?_; (case aO => exact HOT.out); (case aB => exact HBT.out); (case aS => exact HBT.out.size); (case aL => have := HOL.out; omega); intro v20 wy row ho hb hg hrow; have HBY := Aside0.mk hb; have HOY := Aside0.mk ho; clear ho hb hg hrow))
                                clear HBT HOT hodd ho1
                                have f0 := pw_cell_below HBY.out HE0.out
                                have f1 := pw_cell_below HBY.out HE1.out
                                refine start_ (n := 16) (S := fun w' => w'.cell? (ad.add (k2 * 2)) = some (.string y.f0) ∧ w'.cell? ⟨(ad.add (k2 * 2)).block, (ad.add (k2 * 2)).off + 1, none⟩ = some (.slice A2 y.f1.length c2)) (ds := [14, 15]) #[false, false, false, false, false, false, false, false, false, false, false, false, false, false, false, false] (by kernel_rfl) rfl rfl ⟨f0, f1⟩ (fun hHeld => ?_)
                                refine with_tabW tab9_51 bits9_51 (fun HT_ HW_ => ?_)
                                have HBD : Aside0 (Below w.heap.size w wy.drew) := ⟨below_drew HBY.out⟩
                                have HOD := Aside0.mk (HOY.out.below (below_drew (Below.refl wy.heap.size wy)))
                                generalize wy.drew = wd at HBD HOD hHeld ⊢
                                clear f0 f1 HBY HOY
                                refine pure_ (i := 0) (N := some 193) (v := ?_) (a' := ?_) #[true, false, false, false, false, false, false, false, false, false, false, false, false, false, false, false] rfl rfl (any_of HT_.out (by kernel_rfl)) (fun _ _ _ h => h) (Or.inl ⟨by rfl, ?_⟩) ?_ ?_
                                rotate_left
                                · intro w'
                                  go_simp
                                  with_reducible rfl
                                rotate_left
                                · skip
                                  simp only [Act.put, List.setIfInBounds_toArray, List.set_cons_zero, List.set_cons_succ, i64_w, i32_w]
                                  rfl
                                refine pure_ (i := 1) (N := some 194) (v := ?_) (a' := ?_) #[true, true, false, false, false, false, false, false, false, false, false, false, false, false, false, false] rfl rfl (any_of HT_.out (by kernel_rfl)) (fun _ _ _ h => h) (Or.inl ⟨by rfl, ?_⟩) ?_ ?_
                                rotate_left
                                · intro w'
                                  go_simp
                                  with_reducible rfl
                                rotate_left
                                · skip
                                  simp only [Act.put, List.setIfInBounds_toArray, List.set_cons_zero, List.set_cons_succ, i64_w, i32_w]
                                  rfl
                                refine pure_ (i := 2) (N := some 195) (v := ?_) (a' := ?_) #[true, true, true, false, false, false, false, false, false, false, false, false, false, false, false, false] rfl rfl (any_of HT_.out (by kernel_rfl)) (fun _ _ _ h => h) (Or.inl ⟨by rfl, ?_⟩) ?_ ?_
                                rotate_left
                                · intro w'
                                  go_simp
                                  with_reducible rfl
                                rotate_left
                                · skip
                                  simp only [Act.put, List.setIfInBounds_toArray, List.set_cons_zero, List.set_cons_succ, i64_w, i32_w]
                                  rfl
                                refine pure_ (i := 3) (N := some 196) (v := ?_) (a' := ?_) #[true, true, true, true, false, false, false, false, false, false, false, false, false, false, false, false] rfl rfl (any_of HT_.out (by kernel_rfl)) (fun _ _ _ h => h) (Or.inl ⟨by rfl, ?_⟩) ?_ ?_
                                rotate_left
                                · intro w'
                                  go_simp
                                  with_reducible rfl
                                rotate_left
                                · skip
                                  simp only [Act.put, List.setIfInBounds_toArray, List.set_cons_zero, List.set_cons_succ, i64_w, i32_w]
                                  rfl
                                refine pure_ (i := 4) (N := some 197) (v := ?_) (a' := ?_) #[true, true, true, true, true, false, false, false, false, false, false, false, false, false, false, false] rfl rfl (any_of HT_.out (by kernel_rfl)) (fun _ _ _ h => h) (Or.inl ⟨by rfl, ?_⟩) ?_ ?_
                                rotate_left
                                · intro w'
                                  go_simp
                                  with_reducible rfl
                                rotate_left
                                · skip
                                  simp only [Act.put, List.setIfInBounds_toArray, List.set_cons_zero, List.set_cons_succ, i64_w, i32_w]
                                  rfl
                                refine take_ (i := 5) (N := some 198) (v := ?_) (a' := ?_) #[true, true, true, true, true, true, false, false, false, false, false, false, false, false, false, false] rfl rfl (take_ofW HT_.out HW_.out (by kernel_rfl)) (fun _ _ _ h => h) (Or.inl ⟨by rfl, ?_⟩) hHeld ?_ ?_
                                rotate_left
                                · rintro w' ⟨s0, s1⟩
                                  go_simp
                                  with_reducible rfl
                                rotate_left
                                · skip
                                  simp only [Act.put, List.setIfInBounds_toArray, List.set_cons_zero, List.set_cons_succ, i64_w, i32_w]
                                  rfl
                                refine pure_ (i := 6) (N := some 199) (v := ?_) (a' := ?_) #[true, true, true, true, true, true, true, false, false, false, false, false, false, false, false, false] rfl rfl (any_of HT_.out (by kernel_rfl)) (fun _ _ _ h => h) (Or.inl ⟨by rfl, ?_⟩) ?_ ?_
                                rotate_left
                                · intro w'
                                  go_simp
                                  with_reducible rfl
                                rotate_left
                                · skip
                                  simp only [Act.put, List.setIfInBounds_toArray, List.set_cons_zero, List.set_cons_succ, i64_w, i32_w]
                                  rfl
                                refine pure_ (i := 7) (N := some 200) (v := ?_) (a' := ?_) #[true, true, true, true, true, true, true, true, false, false, false, false, false, false, false, false] rfl rfl (any_of HT_.out (by kernel_rfl)) (fun _ _ _ h => h) (Or.inl ⟨by rfl, ?_⟩) ?_ ?_
                                rotate_left
                                · intro w'
                                  go_simp
                                  with_reducible rfl
                                rotate_left
                                · skip
                                  simp only [Act.put, List.setIfInBounds_toArray, List.set_cons_zero, List.set_cons_succ, i64_w, i32_w]
                                  rfl
                                refine pure_ (i := 8) (N := some 201) (v := ?_) (a' := ?_) #[true, true, true, true, true, true, true, true, true, false, false, false, false, false, false, false] rfl rfl (any_of HT_.out (by kernel_rfl)) (fun _ _ _ h => h) (Or.inl ⟨by rfl, ?_⟩) ?_ ?_
                                rotate_left
                                · intro w'
                                  go_simp
                                  with_reducible rfl
                                rotate_left
                                · skip
                                  simp only [Act.put, List.setIfInBounds_toArray, List.set_cons_zero, List.set_cons_succ, i64_w, i32_w]
                                  rfl
                                refine pure_ (i := 9) (N := some 202) (v := ?_) (a' := ?_) #[true, true, true, true, true, true, true, true, true, true, false, false, false, false, false, false] rfl rfl (any_of HT_.out (by kernel_rfl)) (fun _ _ _ h => h) (Or.inl ⟨by rfl, ?_⟩) ?_ ?_
                                rotate_left
                                · intro w'
                                  go_simp
                                  with_reducible rfl
                                rotate_left
                                · skip
                                  simp only [Act.put, List.setIfInBounds_toArray, List.set_cons_zero, List.set_cons_succ, i64_w, i32_w]
                                  rfl
                                refine pure_ (i := 10) (N := some 203) (v := ?_) (a' := ?_) #[true, true, true, true, true, true, true, true, true, true, true, false, false, false, false, false] rfl rfl (any_of HT_.out (by kernel_rfl)) (fun _ _ _ h => h) (Or.inl ⟨by rfl, ?_⟩) ?_ ?_
                                rotate_left
                                · intro w'
                                  go_simp
                                  with_reducible rfl
                                rotate_left
                                · skip
                                  simp only [Act.put, List.setIfInBounds_toArray, List.set_cons_zero, List.set_cons_succ, i64_w, i32_w]
                                  rfl
                                refine take_ (i := 11) (N := some 204) (v := ?_) (a' := ?_) #[true, true, true, true, true, true, true, true, true, true, true, true, false, false, false, false] rfl rfl (take_ofW HT_.out HW_.out (by kernel_rfl)) (fun _ _ _ h => h) (Or.inl ⟨by rfl, ?_⟩) hHeld ?_ ?_
                                rotate_left
                                · rintro w' ⟨s0, s1⟩
                                  go_simp
                                  with_reducible rfl
                                rotate_left
                                · skip
                                  simp only [Act.put, List.setIfInBounds_toArray, List.set_cons_zero, List.set_cons_succ, i64_w, i32_w]
                                  rfl
                                refine pure_ (i := 12) (N := some 205) (v := ?_) (a' := ?_) #[true, true, true, true, true, true, true, true, true, true, true, true, true, false, false, false] rfl rfl (any_of HT_.out (by kernel_rfl)) (fun _ _ _ h => h) (Or.inl ⟨by rfl, ?_⟩) ?_ ?_
                                rotate_left
                                · intro w'
                                  go_simp
                                  with_reducible rfl
                                rotate_left
                                · skip
                                  simp only [Act.put, List.setIfInBounds_toArray, List.set_cons_zero, List.set_cons_succ, i64_w, i32_w]
                                  rfl
                                refine one_ (i := 13) (N := some 206) #[true, true, true, true, true, true, true, true, true, true, true, true, true, true, false, false] rfl rfl (one_of HT_.out (by kernel_rfl)) (by decide) (fun K hK => ?_)
                                refine goes_ Tryd.func28 (by kernel_rfl) rfl #[.string (y.f0 ++ (⟨#[47]⟩ : ByteArray)), .int .i64 ((y.f1.length : Nat) : Int)] (by rfl) rfl rfl (by (try simp only [List.map_toArray, List.map_cons, List.map_nil]); first | done | rfl) ?_
                                refine (rhead_calls (y.f0 ++ (⟨#[47]⟩ : ByteArray)) y.f1.length (by have := HSZ.out; omega) (by have := HLZ2.out; omega) wd).mono ?_
                                intro e w2 h2
                                obtain ⟨h2, hb2⟩ := h2
                                subst h2
                                refine ⟨_, rfl, ?_⟩
                                rw [HHDX.out]
                                refine hK.out _ _ ⟨pw_cell_below hb2 hHeld.1, pw_cell_below hb2 hHeld.2⟩ (fun hS1 => ?_)
                                clear hK K
                                refine norm_ (a' := ?_) ?_ ?_
                                rotate_left
                                · show Act.put _ (some 206) _ = _
                                  simp only [Act.put, List.setIfInBounds_toArray, List.set_cons_zero, List.set_cons_succ, i64_w, i32_w]
                                  rfl
                                have HBE : Aside0 (Below w.heap.size w w2) := ⟨HBD.out.trans (hb2.mono HBD.out.size)⟩
                                have HOE := Aside0.mk (HOD.out.below hb2)
                                clear HBD HOD hHeld hb2 hS1
                                refine last_ (i := 14) (N := some 207) #[true, true, true, true, true, true, true, true, true, true, true, true, true, true, true, false] rfl rfl (one_of HT_.out (by kernel_rfl)) (by decide) (fun K hK => ?_)
                                refine OutM_append_step (w0 := w) w.heap.size (by rfl) (.tmp 193) (.tmp 206) 24 9 rfl Tryd.underlying24 info5 (v20) (os ++ [10]) (tb hd2) (.string hd2) rfl rfl (src_str _ hd2) HOE.out HBE.out HBE.out.size (by rw [tb_len]; have := HOL2.out; have := HHS2.out; omega) ?_
                                intro v21 w11 row ho hb hg hrow
                                have HBG := Aside0.mk hb
                                have HOG := Aside0.mk ho
                                clear ho hb HBE HOE hg hrow
                                refine hK.out _ _ ?_
                                clear hK K
                                refine norm_ (a' := ?_) ?_ ?_
                                rotate_left
                                · show Act.put _ (some 207) _ = _
                                  simp only [Act.put, List.setIfInBounds_toArray, List.set_cons_zero, List.set_cons_succ, i64_w, i32_w]
                                  rfl
                                refine last_ (i := 15) (N := some 14) #[true, true, true, true, true, true, true, true, true, true, true, true, true, true, true, true] rfl rfl (one_of HT_.out (by kernel_rfl)) (by decide) (fun K hK => ?_)
                                refine value_ (w1 := ?_) (v := ?_) (by rfl) rfl ?_ ?_
                                rotate_left 2
                                · go_simp
                                  constructor
                                  · rfl
                                  · rfl
                                refine hK.out _ _ ?_
                                clear hK K
                                refine norm_ (a' := ?_) ?_ ?_
                                rotate_left
                                · show Act.put _ (some 14) _ = _
                                  simp only [Act.put, List.setIfInBounds_toArray, List.set_cons_zero, List.set_cons_succ, i64_w, i32_w]
                                  rfl
                                refine done_ (done_of HT_.out (by kernel_rfl)) ?_
                                have e1 := pw_cell_below HBG.out HE1.out
                                have HCZ := Aside0.mk (Kd.C_below HCY.out HBG.out)
                                go_wp2_with (first | ((with_reducible refine gate_builtin (b := .append) (xs := #[.tmp 208, .tmp 213]) rfl ?_); at_builtin; refine OutM_append (w0 := w) w.heap.size rfl (.tmp 208) (.tmp 213) 24 24 rfl Tryd.underlying24 info5 (v21) (os ++ [10] ++ tb hd2) (y.f1) (.slice A2 y.f1.length c2) rfl rfl ?aX ?aO ?aB ?aS ?aL ?_; (case aX => exact src_of_C c2 Tryd.underlying24 HCZ.out (C_nil HCZ.out)); (case aO => exact HOG.out); (case aB => exact HBG.out); (case aS => exact HBG.out.size); (case aL => rw [List.length_append, tb_len]; have := HOL2.out; have := HHS2.out; have := HLZ2.out; omega); intro v22 w12 row ho hb hg hrow; have HBH := Aside0.mk hb; have HOH := Aside0.mk ho; clear ho hb hg hrow))
                                refine ⟨?_, meas hk2 (by first | exact HWT.out | omega)⟩
                                refine Exists.intro (k2 + 1) ?_
                                exact ⟨by first | rfl | (rw [HWT.out]; done) | exact int_eq (by omega), ⟨hk2⟩, HBH, ⟨by rw [fold_take l s0 k2 hk2, HOF.out, HYG.out, HAD.out]; exact HOH.out⟩⟩
                              · have ho1 : ¬ ((os.length : Int) % 2 = 1) := by omega
                                have ho2 : (os.length : Int) % 2 = 0 := by omega
                                have HAD : Aside0 (addM os y = (os ++ tb hd2) ++ y.f1) := ⟨by unfold addM; rw [if_neg hodd, HHDX.out]⟩
                                go_upto_region 51 with fail
                                clear hodd ho1 ho2
                                have f0 := pw_cell_below HBT.out HE0.out
                                have f1 := pw_cell_below HBT.out HE1.out
                                refine start_ (n := 16) (S := fun w' => w'.cell? (ad.add (k2 * 2)) = some (.string y.f0) ∧ w'.cell? ⟨(ad.add (k2 * 2)).block, (ad.add (k2 * 2)).off + 1, none⟩ = some (.slice A2 y.f1.length c2)) (ds := [14, 15]) #[false, false, false, false, false, false, false, false, false, false, false, false, false, false, false, false] (by kernel_rfl) rfl rfl ⟨f0, f1⟩ (fun hHeld => ?_)
                                refine with_tabW tab9_51 bits9_51 (fun HT_ HW_ => ?_)
                                have HBD : Aside0 (Below w.heap.size w wt.drew) := ⟨below_drew HBT.out⟩
                                have HOD := Aside0.mk (HOT.out.below (below_drew (Below.refl wt.heap.size wt)))
                                generalize wt.drew = wd at HBD HOD hHeld ⊢
                                clear f0 f1 HBT HOT
                                refine pure_ (i := 0) (N := some 193) (v := ?_) (a' := ?_) #[true, false, false, false, false, false, false, false, false, false, false, false, false, false, false, false] rfl rfl (any_of HT_.out (by kernel_rfl)) (fun _ _ _ h => h) (Or.inl ⟨by rfl, ?_⟩) ?_ ?_
                                rotate_left
                                · intro w'
                                  go_simp
                                  with_reducible rfl
                                rotate_left
                                · skip
                                  simp only [Act.put, List.setIfInBounds_toArray, List.set_cons_zero, List.set_cons_succ, i64_w, i32_w]
                                  rfl
                                refine pure_ (i := 1) (N := some 194) (v := ?_) (a' := ?_) #[true, true, false, false, false, false, false, false, false, false, false, false, false, false, false, false] rfl rfl (any_of HT_.out (by kernel_rfl)) (fun _ _ _ h => h) (Or.inl ⟨by rfl, ?_⟩) ?_ ?_
                                rotate_left
                                · intro w'
                                  go_simp
                                  with_reducible rfl
                                rotate_left
                                · skip
                                  simp only [Act.put, List.setIfInBounds_toArray, List.set_cons_zero, List.set_cons_succ, i64_w, i32_w]
                                  rfl
                                refine pure_ (i := 2) (N := some 195) (v := ?_) (a' := ?_) #[true, true, true, false, false, false, false, false, false, false, false, false, false, false, false, false] rfl rfl (any_of HT_.out (by kernel_rfl)) (fun _ _ _ h => h) (Or.inl ⟨by rfl, ?_⟩) ?_ ?_
                                rotate_left
                                · intro w'
                                  go_simp
                                  with_reducible rfl
                                rotate_left
                                · skip
                                  simp only [Act.put, List.setIfInBounds_toArray, List.set_cons_zero, List.set_cons_succ, i64_w, i32_w]
                                  rfl
                                refine pure_ (i := 3) (N := some 196) (v := ?_) (a' := ?_) #[true, true, true, true, false, false, false, false, false, false, false, false, false, false, false, false] rfl rfl (any_of HT_.out (by kernel_rfl)) (fun _ _ _ h => h) (Or.inl ⟨by rfl, ?_⟩) ?_ ?_
                                rotate_left
                                · intro w'
                                  go_simp
                                  with_reducible rfl
                                rotate_left
                                · skip
                                  simp only [Act.put, List.setIfInBounds_toArray, List.set_cons_zero, List.set_cons_succ, i64_w, i32_w]
                                  rfl
                                refine pure_ (i := 4) (N := some 197) (v := ?_) (a' := ?_) #[true, true, true, true, true, false, false, false, false, false, false, false, false, false, false, false] rfl rfl (any_of HT_.out (by kernel_rfl)) (fun _ _ _ h => h) (Or.inl ⟨by rfl, ?_⟩) ?_ ?_
                                rotate_left
                                · intro w'
                                  go_simp
                                  with_reducible rfl
                                rotate_left
                                · skip
                                  simp only [Act.put, List.setIfInBounds_toArray, List.set_cons_zero, List.set_cons_succ, i64_w, i32_w]
                                  rfl
                                refine take_ (i := 5) (N := some 198) (v := ?_) (a' := ?_) #[true, true, true, true, true, true, false, false, false, false, false, false, false, false, false, false] rfl rfl (take_ofW HT_.out HW_.out (by kernel_rfl)) (fun _ _ _ h => h) (Or.inl ⟨by rfl, ?_⟩) hHeld ?_ ?_
                                rotate_left
                                · rintro w' ⟨s0, s1⟩
                                  go_simp
                                  with_reducible rfl
                                rotate_left
                                · skip
                                  simp only [Act.put, List.setIfInBounds_toArray, List.set_cons_zero, List.set_cons_succ, i64_w, i32_w]
                                  rfl
                                refine pure_ (i := 6) (N := some 199) (v := ?_) (a' := ?_) #[true, true, true, true, true, true, true, false, false, false, false, false, false, false, false, false] rfl rfl (any_of HT_.out (by kernel_rfl)) (fun _ _ _ h => h) (Or.inl ⟨by rfl, ?_⟩) ?_ ?_
                                rotate_left
                                · intro w'
                                  go_simp
                                  with_reducible rfl
                                rotate_left
                                · skip
                                  simp only [Act.put, List.setIfInBounds_toArray, List.set_cons_zero, List.set_cons_succ, i64_w, i32_w]
                                  rfl
                                refine pure_ (i := 7) (N := some 200) (v := ?_) (a' := ?_) #[true, true, true, true, true, true, true, true, false, false, false, false, false, false, false, false] rfl rfl (any_of HT_.out (by kernel_rfl)) (fun _ _ _ h => h) (Or.inl ⟨by rfl, ?_⟩) ?_ ?_
                                rotate_left
                                · intro w'
                                  go_simp
                                  with_reducible rfl
                                rotate_left
                                · skip
                                  simp only [Act.put, List.setIfInBounds_toArray, List.set_cons_zero, List.set_cons_succ, i64_w, i32_w]
                                  rfl
                                refine pure_ (i := 8) (N := some 201) (v := ?_) (a' := ?_) #[true, true, true, true, true, true, true, true, true, false, false, false, false, false, false, false] rfl rfl (any_of HT_.out (by kernel_rfl)) (fun _ _ _ h => h) (Or.inl ⟨by rfl, ?_⟩) ?_ ?_
                                rotate_left
                                · intro w'
                                  go_simp
                                  with_reducible rfl
                                rotate_left
                                · skip
                                  simp only [Act.put, List.setIfInBounds_toArray, List.set_cons_zero, List.set_cons_succ, i64_w, i32_w]
                                  rfl
                                refine pure_ (i := 9) (N := some 202) (v := ?_) (a' := ?_) #[true, true, true, true, true, true, true, true, true, true, false, false, false, false, false, false] rfl rfl (any_of HT_.out (by kernel_rfl)) (fun _ _ _ h => h) (Or.inl ⟨by rfl, ?_⟩) ?_ ?_
                                rotate_left
                                · intro w'
                                  go_simp
                                  with_reducible rfl
                                rotate_left
                                · skip
                                  simp only [Act.put, List.setIfInBounds_toArray, List.set_cons_zero, List.set_cons_succ, i64_w, i32_w]
                                  rfl
                                refine pure_ (i := 10) (N := some 203) (v := ?_) (a' := ?_) #[true, true, true, true, true, true, true, true, true, true, true, false, false, false, false, false] rfl rfl (any_of HT_.out (by kernel_rfl)) (fun _ _ _ h => h) (Or.inl ⟨by rfl, ?_⟩) ?_ ?_
                                rotate_left
                                · intro w'
                                  go_simp
                                  with_reducible rfl
                                rotate_left
                                · skip
                                  simp only [Act.put, List.setIfInBounds_toArray, List.set_cons_zero, List.set_cons_succ, i64_w, i32_w]
                                  rfl
                                refine take_ (i := 11) (N := some 204) (v := ?_) (a' := ?_) #[true, true, true, true, true, true, true, true, true, true, true, true, false, false, false, false] rfl rfl (take_ofW HT_.out HW_.out (by kernel_rfl)) (fun _ _ _ h => h) (Or.inl ⟨by rfl, ?_⟩) hHeld ?_ ?_
                                rotate_left
                                · rintro w' ⟨s0, s1⟩
                                  go_simp
                                  with_reducible rfl
                                rotate_left
                                · skip
                                  simp only [Act.put, List.setIfInBounds_toArray, List.set_cons_zero, List.set_cons_succ, i64_w, i32_w]
                                  rfl
                                refine pure_ (i := 12) (N := some 205) (v := ?_) (a' := ?_) #[true, true, true, true, true, true, true, true, true, true, true, true, true, false, false, false] rfl rfl (any_of HT_.out (by kernel_rfl)) (fun _ _ _ h => h) (Or.inl ⟨by rfl, ?_⟩) ?_ ?_
                                rotate_left
                                · intro w'
                                  go_simp
                                  with_reducible rfl
                                rotate_left
                                · skip
                                  simp only [Act.put, List.setIfInBounds_toArray, List.set_cons_zero, List.set_cons_succ, i64_w, i32_w]
                                  rfl
                                refine one_ (i := 13) (N := some 206) #[true, true, true, true, true, true, true, true, true, true, true, true, true, true, false, false] rfl rfl (one_of HT_.out (by kernel_rfl)) (by decide) (fun K hK => ?_)
                                refine goes_ Tryd.func28 (by kernel_rfl) rfl #[.string (y.f0 ++ (⟨#[47]⟩ : ByteArray)), .int .i64 ((y.f1.length : Nat) : Int)] (by rfl) rfl rfl (by (try simp only [List.map_toArray, List.map_cons, List.map_nil]); first | done | rfl) ?_
                                refine (rhead_calls (y.f0 ++ (⟨#[47]⟩ : ByteArray)) y.f1.length (by have := HSZ.out; omega) (by have := HLZ2.out; omega) wd).mono ?_
                                intro e w2 h2
                                obtain ⟨h2, hb2⟩ := h2
                                subst h2
                                refine ⟨_, rfl, ?_⟩
                                rw [HHDX.out]
                                refine hK.out _ _ ⟨pw_cell_below hb2 hHeld.1, pw_cell_below hb2 hHeld.2⟩ (fun hS1 => ?_)
                                clear hK K
                                refine norm_ (a' := ?_) ?_ ?_
                                rotate_left
                                · show Act.put _ (some 206) _ = _
                                  simp only [Act.put, List.setIfInBounds_toArray, List.set_cons_zero, List.set_cons_succ, i64_w, i32_w]
                                  rfl
                                have HBE : Aside0 (Below w.heap.size w w2) := ⟨HBD.out.trans (hb2.mono HBD.out.size)⟩
                                have HOE := Aside0.mk (HOD.out.below hb2)
                                clear HBD HOD hHeld hb2 hS1
                                refine last_ (i := 14) (N := some 207) #[true, true, true, true, true, true, true, true, true, true, true, true, true, true, true, false] rfl rfl (one_of HT_.out (by kernel_rfl)) (by decide) (fun K hK => ?_)
                                refine OutM_append_step (w0 := w) w.heap.size (by rfl) (.tmp 193) (.tmp 206) 24 9 rfl Tryd.underlying24 info5 (.slice A16 os.length c16) (os) (tb hd2) (.string hd2) rfl rfl (src_str _ hd2) HOE.out HBE.out HBE.out.size (by rw [tb_len]; have := HOL.out; have := HHS2.out; omega) ?_
                                intro v21 w11 row ho hb hg hrow
                                have HBG := Aside0.mk hb
                                have HOG := Aside0.mk ho
                                clear ho hb HBE HOE hg hrow
                                refine hK.out _ _ ?_
                                clear hK K
                                refine norm_ (a' := ?_) ?_ ?_
                                rotate_left
                                · show Act.put _ (some 207) _ = _
                                  simp only [Act.put, List.setIfInBounds_toArray, List.set_cons_zero, List.set_cons_succ, i64_w, i32_w]
                                  rfl
                                refine last_ (i := 15) (N := some 14) #[true, true, true, true, true, true, true, true, true, true, true, true, true, true, true, true] rfl rfl (one_of HT_.out (by kernel_rfl)) (by decide) (fun K hK => ?_)
                                refine value_ (w1 := ?_) (v := ?_) (by rfl) rfl ?_ ?_
                                rotate_left 2
                                · go_simp
                                  constructor
                                  · rfl
                                  · rfl
                                refine hK.out _ _ ?_
                                clear hK K
                                refine norm_ (a' := ?_) ?_ ?_
                                rotate_left
                                · show Act.put _ (some 14) _ = _
                                  simp only [Act.put, List.setIfInBounds_toArray, List.set_cons_zero, List.set_cons_succ, i64_w, i32_w]
                                  rfl
                                refine done_ (done_of HT_.out (by kernel_rfl)) ?_
                                have e1 := pw_cell_below HBG.out HE1.out
                                have HCZ := Aside0.mk (Kd.C_below HCY.out HBG.out)
                                go_wp2_with (first | ((with_reducible refine gate_builtin (b := .append) (xs := #[.tmp 208, .tmp 213]) rfl ?_); at_builtin; refine OutM_append (w0 := w) w.heap.size rfl (.tmp 208) (.tmp 213) 24 24 rfl Tryd.underlying24 info5 (v21) (os ++ tb hd2) (y.f1) (.slice A2 y.f1.length c2) rfl rfl ?aX ?aO ?aB ?aS ?aL ?_; (case aX => exact src_of_C c2 Tryd.underlying24 HCZ.out (C_nil HCZ.out)); (case aO => exact HOG.out); (case aB => exact HBG.out); (case aS => exact HBG.out.size); (case aL => rw [List.length_append, tb_len]; have := HOL.out; have := HHS2.out; have := HLZ2.out; omega); intro v22 w12 row ho hb hg hrow; have HBH := Aside0.mk hb; have HOH := Aside0.mk ho; clear ho hb hg hrow))
                                refine ⟨?_, meas hk2 (by first | exact HWT.out | omega)⟩
                                refine Exists.intro (k2 + 1) ?_
                                exact ⟨by first | rfl | (rw [HWT.out]; done) | exact int_eq (by omega), ⟨hk2⟩, HBH, ⟨by rw [fold_take l s0 k2 hk2, HOF.out, HYG.out, HAD.out]; exact HOH.out⟩⟩
                            · have hkn : k2 = l.length := by have := HK2.out; omega
                              have hkI : ¬ ((k2 : Int) < (l.length : Int)) := by omega
                              obtain rfl : r = (os, 0) := by rw [HFIN.out, HSE.out, ← HOF.out, hkn, List.take_length]
                              go_wp2_with fail
                              refine bodyPost_ret (v := .tuple #[.slice A16 os.length c16, .int .i64 0]) (by simp [results, Tryd.results9, go_sem]) rfl ?_
                              exact ⟨_, rfl, HOT.out.reads, HBT.out⟩
end Go.Proofs.YtdjmahmbofhnpaaDoor.Ar
