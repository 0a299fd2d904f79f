/- The law SymsOrder walked. -/
import Derived.Test.YtchkjfokoenlnaaQSyW
import Derived.Test.YtchkjfokoenlnaaQSyPl
import Derived.Test.YtchkjfokoenlnaaQSyMM
import Derived.Deep.RegionHeld3
namespace Go.Proofs.Ytchkjfokoenlnaa.Sym
open Go.RowKit Go.Maps Go.WideMaps Go.Proofs.YtchkjfokoenlnaaW.PrintWords Go.Proofs.YtchkjfokoenlnaaW.PrintLast Go.Proofs.YtchkjfokoenlnaaW.PrintMore Go.Proofs.Ytchkjfokoenlnaa.QSy
set_option linter.unusedVariables false
set_option linter.unusedSimpArgs false
attribute [local go_sem high] eqA32 eqA37
theorem names_rev_ok {ls : List S44} (h : NamesOk ls) : NamesOk ls.reverse := by
  intro i k
  by_cases hi : i < ls.length
  · have e : ls.reverse.getD i z44 = ls.getD (ls.length - 1 - i) z44 := by
      rw [List.getD_eq_getElem?_getD, List.getD_eq_getElem?_getD, List.getElem?_reverse hi]
    rw [e]; exact h _ _
  · have e : ls.reverse.getD i z44 = ls.getD ls.length z44 := by
      rw [List.getD_eq_getElem?_getD, List.getD_eq_getElem?_getD, List.getElem?_eq_none (by simp; omega), List.getElem?_eq_none (Nat.le_refl _)]
    rw [e]; exact h _ _
def T5_11 : Bool × List (List Nat × List Nat) := (true, [([], []), ([], []), ([0, 1], [0, 1]), ([2], [2]), ([3], [3]), ([], []), ([], []), ([5, 6], [5, 6]), ([7], [7]), ([8], [8]), ([], []), ([], []), ([10, 4, 0, 1, 2, 3, 4, 10, 11], [4, 10]), ([11, 9, 12, 0, 1, 2, 3, 4, 5, 6, 7, 8, 9, 10, 11, 12], [9, 11])])
theorem tab5_11 : rtab .any (opsOf Try.f5 11) = T5_11 := by kernel_rfl
def B5_11 : List Nat := [0, 0, 3, 7, 15, 0, 0, 96, 224, 480, 0, 0, 3103, 8191]
theorem bits5_11 : waitsOk T5_11.2 B5_11 = true := by kernel_rfl
set_option maxRecDepth 100000 in
set_option maxHeartbeats 16000000 in
theorem order_walk (W : World) (A : Option Addr) (c : Nat) (ls : List S44) (hc : ls.length ≤ c) (A1 : Option Addr) (c1 : Nat) (own : List ByteArray) (hc1 : own.length ≤ c1) (hr : Kd.C k44 W A ls.length ls) (hr1 : Kd.C Kd.string W A1 own.length own) (hL : Ls ls) (hlen : ls.length ≤ 1048576) :
    Calls Try.prog 5 #[.slice A ls.length c, .slice A1 own.length c1] W fun e w' => e = .returned (.bool true) ∧ Below W.heap.size W w' := by
  have HR := Aside0.mk hr
  have HR1 := Aside0.mk hr1
  have HC := Aside0.mk hc
  have HC1 := Aside0.mk hc1
  have HL := Aside0.mk hL
  have HLEN := Aside0.mk hlen
  clear hr hr1 hc hc1 hL hlen
  have M := Aside0.mk (many_said A c ls HC.out HL.out.len HL.out.cnt W HR.out)
  obtain ⟨m, hm⟩ : ∃ m, decide (400 < cnt ls) = m := ⟨_, rfl⟩
  rw [hm] at M
  have HM := Aside0.mk hm
  clear hm
  go_enter Try.func5, Try.ntmps5
  go_wp2_with fail
  refine M.out.mono ?_
  intro e w1 h1
  obtain ⟨h1, hd1⟩ := h1
  subst h1
  have HB1 : Aside0 (Below W.heap.size W w1) := ⟨Drawn0.below hd1⟩
  clear hd1
  cases m with
  | true =>
    simp only []
    go_wp2_with fail
    refine (lives_calls _).mono ?_
    intro e w2 h2
    obtain ⟨h2, hb2⟩ := h2
    subst h2
    have HB2 : Aside0 (Below W.heap.size W w2) := ⟨HB1.out.trans (hb2.mono HB1.out.size)⟩
    clear hb2
    simp only []
    go_wp2_with fail
    go_ret
    exact ⟨rfl, HB2.out⟩
  | false =>
    have HN : Aside0 (cnt ls ≤ 400) := ⟨by have := HM.out; simp at this; exact this⟩
    obtain ⟨pl, hpl⟩ : ∃ pl, plainS ls = pl := ⟨_, rfl⟩
    have HPL := Aside0.mk hpl
    have PC := plain_calls A c ls HC.out HN.out HL.out.names w1 (Kd.C_below HR.out HB1.out)
    rw [hpl] at PC
    have PCA := Aside0.mk PC
    clear hpl PC
    simp only []
    go_wp2_with fail
    refine PCA.out.mono ?_
    intro e w2 h2
    obtain ⟨h2, hb2⟩ := h2
    subst h2
    have HB2 : Aside0 (Below W.heap.size W w2) := ⟨HB1.out.trans (hb2.mono HB1.out.size)⟩
    clear hb2
    cases pl with
    | false =>
      simp only []
      go_wp2_with fail
      refine (lives_calls _).mono ?_
      intro e w3 h3
      obtain ⟨h3, hb3⟩ := h3
      subst h3
      have HB3 : Aside0 (Below W.heap.size W w3) := ⟨HB2.out.trans (hb3.mono HB2.out.size)⟩
      clear hb3
      simp only []
      go_wp2_with fail
      go_ret
      exact ⟨rfl, HB3.out⟩
    | true =>
      simp only []
      go_wp2_with fail
      obtain ⟨K, hK⟩ := turned_f ls HLEN.out
      obtain ⟨ls2, hls2⟩ : ∃ l, ls.reverse = l := ⟨_, rfl⟩
      rw [hls2] at hK
      have hc22 : cnt ls2 ≤ 400 := by rw [← hls2, cnt_rev]; exact HN.out
      have hno2 : NamesOk ls2 := by rw [← hls2]; exact names_rev_ok HL.out.names
      have hmir := table_rev ls (by have := HN.out; omega) HPL.out own
      rw [hls2] at hmir
      have HMIR0 := Aside0.mk hmir
      have HN2 := Aside0.mk hc22
      have HNO2 := Aside0.mk hno2
      clear hls2 hc22 hno2 hmir
      refine (bulwarklaw14_turned.calls K (fun _ => True) A c ls ls2 _ (Kd.V_mk HC.out (F_of_C (Kd.C_below HR.out HB2.out))) hK).mono ?_
      clear hK
      intro e w3 h3
      obtain ⟨v, h3, hv, hb3⟩ := h3
      subst h3
      have HB3 : Aside0 (Below W.heap.size W w3) := ⟨HB2.out.trans (hb3.mono HB2.out.size)⟩
      clear hb3
      obtain ⟨A2, c2, rfl, hc2, hC2⟩ := Kd.N_reads hv
      have HC2 := Aside0.mk hc2
      have HR2 := Aside0.mk hC2
      clear hv hc2 hC2
      obtain ⟨r, hr⟩ : ∃ r, tableR ls own = r := ⟨_, rfl⟩
      obtain ⟨q, hq⟩ : ∃ q, tableR ls2 own = q := ⟨_, rfl⟩
      have hmir := HMIR0.out
      rw [hr, hq] at hmir
      have HT := Aside0.mk hr
      have HT2 := Aside0.mk hq
      have HMIR := Aside0.mk hmir
      clear hr hq hmir
      obtain ⟨t, nm, er⟩ := r
      obtain ⟨t2, nm2, er2⟩ := q
      obtain rfl : nm2 = nm := HMIR.out.name
      obtain rfl : er2 = er := HMIR.out.err
      simp only []
      go_wp2_with fail
      refine (table_said A c ls HC.out HN.out HL.out.names A1 c1 own HC1.out _ (Kd.C_below HR.out HB3.out) (Kd.C_below HR1.out HB3.out) _ HT.out).mono ?_
      intro e w4 h4
      obtain ⟨v, h4, hv, hb4⟩ := h4
      subst h4
      have HB4 : Aside0 (Below W.heap.size W w4) := ⟨HB3.out.trans (hb4.mono HB3.out.size)⟩
      have HR4 := Aside0.mk (Kd.C_below HR2.out hb4)
      clear hb4 HR2
      obtain ⟨At, ct, rfl⟩ := Kd.R_slice hv
      have HV := Aside0.mk (Kd.R_reads' hv).2
      clear hv
      simp only []
      go_wp2_with fail
      refine (table_said A2 c2 ls2 HC2.out HN2.out HNO2.out A1 c1 own HC1.out _ HR4.out (Kd.C_below HR1.out HB4.out) _ HT2.out).mono ?_
      intro e w5 h5
      obtain ⟨v, h5, hv, hb5⟩ := h5
      subst h5
      have HB5 : Aside0 (Below W.heap.size W w5) := ⟨HB4.out.trans (hb5.mono HB4.out.size)⟩
      have HV5 : Aside0 (t.length ≤ ct ∧ Kd.C k37 w5 At t.length t) := ⟨HV.out.1, Kd.C_below HV.out.2 hb5⟩
      clear hb5 HV
      obtain ⟨Au, cu, rfl⟩ := Kd.R_slice hv
      have HU := Aside0.mk (Kd.R_reads' hv).2
      clear hv
      have htl : t2.length = t.length := HMIR.out.len
      have HTL := Aside0.mk htl
      simp only [htl]
      clear htl
      go_wp2_with fail
      go_loopw [12] (fun v12 wr => ∃ i : Int, v12 = .int .i64 i ∧ Aside0 (0 ≤ i ∧ i ≤ t.length) ∧ Aside0 (Below w5.heap.size w5 wr)) (fun v12 _ => t.length - (intOf v12).toNat)
      case atStart => exact ⟨0, rfl, ⟨Int.le_refl _, by omega⟩, ⟨Below.refl _ _⟩⟩
      case round =>
        obtain ⟨i, rfl, HI, HB⟩ := hrel
        obtain ⟨wl, rfl⟩ : ∃ q, q = wr := ⟨_, rfl⟩
        by_cases hi : i < t.length
        · have hlt : t.length ≤ 9223372036854775807 := HV5.out.2.2.1
          have h0i : 0 ≤ i := HI.out.1
          have hwk : wrap64 (i + 1) = i + 1 := by unfold wrap64; omega
          have HWK := Aside0.mk hwk
          have hrow := HMIR.out.row i.toNat (by show i.toNat < t.length; omega)
          have hi2 : i < t2.length := by rw [HTL.out]; exact hi
          obtain ⟨ad, hAd, f0, f1, f2, f3⟩ := at_T37 (Kd.C_below HV5.out.2 HB.out) i h0i hi
          obtain ⟨au, hAu, g0, g1, g2, g3⟩ := at_T37 (Kd.C_below HU.out.2 HB.out) i h0i hi2
          have hb : t.getD i.toNat z37 = rd_T37 t i := rfl
          have hd : t2.getD i.toNat z37 = rd_T37 t2 i := rfl
          rw [hb, hd] at hrow
          obtain ⟨b, hb⟩ : ∃ b, rd_T37 t i = b := ⟨_, rfl⟩
          obtain ⟨d, hd⟩ : ∃ d, rd_T37 t2 i = d := ⟨_, rfl⟩
          rw [hb] at f0 f1 f2 f3 hrow
          rw [hd] at g0 g1 g2 g3 hrow
          subst hAd hAu
          obtain ⟨bn, x0, x1, x2⟩ := b
          obtain ⟨dn, y0, y1, y2⟩ := d
          obtain ⟨hnm, hmt⟩ := hrow
          have hnm : dn = bn := hnm
          subst hnm
          have HMT := Aside0.mk hmt
          have f2' : wl.cell? ⟨(ad.add (i.toNat * 4)).block, (ad.add (i.toNat * 4)).off + 1 + 1, none⟩ = some (.int .i64 x1) := f2
          have f3' : wl.cell? ⟨(ad.add (i.toNat * 4)).block, (ad.add (i.toNat * 4)).off + 1 + 2, none⟩ = some (.int .i64 x2) := f3
          have g2' : wl.cell? ⟨(au.add (i.toNat * 4)).block, (au.add (i.toNat * 4)).off + 1 + 1, none⟩ = some (.int .i64 y1) := g2
          have g3' : wl.cell? ⟨(au.add (i.toNat * 4)).block, (au.add (i.toNat * 4)).off + 1 + 2, none⟩ = some (.int .i64 y2) := g3
          clear f2 f3 g2 g3 hmt hb hd
          have hi2I : i < (t2.length : Int) := hi2
          go_upto_region 11 with fail
          refine start_ (n := 14) (S := fun w' => w'.cell? ⟨(ad.add (i.toNat * 4)).block, (ad.add (i.toNat * 4)).off + 1, none⟩ = some (.int .i64 x0) ∧ w'.cell? ⟨(ad.add (i.toNat * 4)).block, (ad.add (i.toNat * 4)).off + 1 + 1, none⟩ = some (.int .i64 x1) ∧ w'.cell? ⟨(ad.add (i.toNat * 4)).block, (ad.add (i.toNat * 4)).off + 1 + 2, none⟩ = some (.int .i64 x2) ∧ w'.cell? ⟨(au.add (i.toNat * 4)).block, (au.add (i.toNat * 4)).off + 1, none⟩ = some (.int .i64 y0) ∧ w'.cell? ⟨(au.add (i.toNat * 4)).block, (au.add (i.toNat * 4)).off + 1 + 1, none⟩ = some (.int .i64 y1) ∧ w'.cell? ⟨(au.add (i.toNat * 4)).block, (au.add (i.toNat * 4)).off + 1 + 2, none⟩ = some (.int .i64 y2)) (ds := [13]) #[false, false, false, false, false, false, false, false, false, false, false, false, false, false] (by kernel_rfl) rfl rfl ⟨f1, f2', f3', g1, g2', g3'⟩ (fun hHeld => ?_)
          refine with_tabW tab5_11 bits5_11 (fun HT_ HW_ => ?_)
          have HBD : Aside0 (Below w5.heap.size w5 wl.drew) := ⟨below_drew HB.out⟩
          have hnm1 := f0
          have hnm2 := g0
          generalize hwd : wl.drew = wd at HBD hHeld ⊢
          have f0 : wd.cell? (ad.add (i.toNat * 4)) = some (.string dn) := by rw [← hwd]; exact hnm1
          have g0 : wd.cell? (au.add (i.toNat * 4)) = some (.string dn) := by rw [← hwd]; exact hnm2
          clear hwd hnm1 hnm2 f1 f2' f3' g1 g2' g3'
          have F0 := Aside0.mk f0
          have G0 := Aside0.mk g0
          clear f0 g0
          refine pure_ (i := 0) (N := some 60) (v := ?_) (a' := ?_) #[true, false, false, false, false, false, false, false, false, false, false, false, false, false] rfl rfl (any_of HT_.out (by kernel_rfl)) (fun _ _ _ h => h) (Or.inl ⟨by rfl, ?_⟩) ?_ ?_
          rotate_left
          · intro w'
            go_simp
            with_reducible rfl
          rotate_left
          · skip
            simp only [Act.put, List.setIfInBounds_toArray, List.set_cons_zero, List.set_cons_succ, i64_w, i32_w]
            rfl
          refine pure_ (i := 1) (N := some 61) (v := ?_) (a' := ?_) #[true, true, false, false, false, false, false, false, false, false, false, false, false, false] rfl rfl (any_of HT_.out (by kernel_rfl)) (fun _ _ _ h => h) (Or.inl ⟨by rfl, ?_⟩) ?_ ?_
          rotate_left
          · intro w'
            go_simp
            with_reducible rfl
          rotate_left
          · skip
            simp only [Act.put, List.setIfInBounds_toArray, List.set_cons_zero, List.set_cons_succ, i64_w, i32_w]
            rfl
          refine pure_ (i := 2) (N := some 62) (v := ?_) (a' := ?_) #[true, true, true, false, false, false, false, false, false, false, false, false, false, false] rfl rfl (any_of HT_.out (by kernel_rfl)) (fun _ _ _ h => h) (Or.inl ⟨by rfl, ?_⟩) ?_ ?_
          rotate_left
          · intro w'
            go_simp
            with_reducible rfl
          rotate_left
          · skip
            simp only [Act.put, List.setIfInBounds_toArray, List.set_cons_zero, List.set_cons_succ, i64_w, i32_w]
            rfl
          refine pure_ (i := 3) (N := some 63) (v := ?_) (a' := ?_) #[true, true, true, true, false, false, false, false, false, false, false, false, false, false] rfl rfl (any_of HT_.out (by kernel_rfl)) (fun _ _ _ h => h) (Or.inl ⟨by rfl, ?_⟩) ?_ ?_
          rotate_left
          · intro w'
            go_simp
            with_reducible rfl
          rotate_left
          · skip
            simp only [Act.put, List.setIfInBounds_toArray, List.set_cons_zero, List.set_cons_succ, i64_w, i32_w]
            rfl
          refine take_ (i := 4) (N := some 64) (v := ?_) (a' := ?_) #[true, true, true, true, true, false, false, false, false, false, false, false, false, false] rfl rfl (take_ofW HT_.out HW_.out (by kernel_rfl)) (fun _ _ _ h => h) (Or.inl ⟨by rfl, ?_⟩) hHeld ?_ ?_
          rotate_left
          · rintro w' ⟨s0, s1, s2, s3, s4, s5⟩
            go_simp
            with_reducible rfl
          rotate_left
          · skip
            simp only [Act.put, List.setIfInBounds_toArray, List.set_cons_zero, List.set_cons_succ, i64_w, i32_w]
            rfl
          refine pure_ (i := 5) (N := some 65) (v := ?_) (a' := ?_) #[true, true, true, true, true, true, false, false, false, false, false, false, false, false] rfl rfl (any_of HT_.out (by kernel_rfl)) (fun _ _ _ h => h) (Or.inl ⟨by rfl, ?_⟩) ?_ ?_
          rotate_left
          · intro w'
            go_simp
            with_reducible rfl
          rotate_left
          · skip
            simp only [Act.put, List.setIfInBounds_toArray, List.set_cons_zero, List.set_cons_succ, i64_w, i32_w]
            rfl
          refine pure_ (i := 6) (N := some 66) (v := ?_) (a' := ?_) #[true, true, true, true, true, true, true, false, false, false, false, false, false, false] rfl rfl (any_of HT_.out (by kernel_rfl)) (fun _ _ _ h => h) (Or.inl ⟨by rfl, ?_⟩) ?_ ?_
          rotate_left
          · intro w'
            go_simp
            with_reducible rfl
          rotate_left
          · skip
            simp only [Act.put, List.setIfInBounds_toArray, List.set_cons_zero, List.set_cons_succ, i64_w, i32_w]
            rfl
          refine pure_ (i := 7) (N := some 67) (v := ?_) (a' := ?_) #[true, true, true, true, true, true, true, true, false, false, false, false, false, false] rfl rfl (any_of HT_.out (by kernel_rfl)) (fun _ _ _ h => h) (Or.inl ⟨by rfl, ?_⟩) ?_ ?_
          rotate_left
          · intro w'
            go_simp
            with_reducible rfl
          rotate_left
          · skip
            simp only [Act.put, List.setIfInBounds_toArray, List.set_cons_zero, List.set_cons_succ, i64_w, i32_w]
            rfl
          refine pure_ (i := 8) (N := some 68) (v := ?_) (a' := ?_) #[true, true, true, true, true, true, true, true, true, false, false, false, false, false] rfl rfl (any_of HT_.out (by kernel_rfl)) (fun _ _ _ h => h) (Or.inl ⟨by rfl, ?_⟩) ?_ ?_
          rotate_left
          · intro w'
            go_simp
            with_reducible rfl
          rotate_left
          · skip
            simp only [Act.put, List.setIfInBounds_toArray, List.set_cons_zero, List.set_cons_succ, i64_w, i32_w]
            rfl
          refine take_ (i := 9) (N := some 69) (v := ?_) (a' := ?_) #[true, true, true, true, true, true, true, true, true, true, false, false, false, false] rfl rfl (take_ofW HT_.out HW_.out (by kernel_rfl)) (fun _ _ _ h => h) (Or.inl ⟨by rfl, ?_⟩) hHeld ?_ ?_
          rotate_left
          · rintro w' ⟨s0, s1, s2, s3, s4, s5⟩
            go_simp
            with_reducible rfl
          rotate_left
          · skip
            simp only [Act.put, List.setIfInBounds_toArray, List.set_cons_zero, List.set_cons_succ, i64_w, i32_w]
            rfl
          refine join_ (σ := Nat × Nat) 0 #[true, true, true, true, true, true, true, true, true, true, true, true, true, true] (fun s => [(13, .pointer (some ⟨s.1, 0, none⟩)), (14, .pointer (some ⟨s.2, 0, none⟩))]) (fun s w' => w'.heap[s.1]? = some (.cells #[.int .i64 x0, .int .i64 x1, .int .i64 x2] 32 (0, 0)) ∧ w'.heap[s.2]? = some (.cells #[.int .i64 y0, .int .i64 y1, .int .i64 y2] 32 (0, 0)) ∧ Below wd.heap.size wd w') ?_ ?_
          rotate_left
          · intro hJ
            refine two_ (i := 10) (j := 11) (Ni := some 13) (Nj := some 14) #[true, true, true, true, true, true, true, true, true, true, true, false, false, false] #[true, true, true, true, true, true, true, true, true, true, false, true, false, false] rfl rfl rfl rfl (two_of HT_.out (by kernel_rfl)) (by decide) (by decide) (fun K hK => ?_) (fun K hK => ?_)
            · refine value_ (w1 := ?_) (v := ?_) (by rfl) rfl ?_ ?_
              rotate_left 2
              · go_simp
                constructor
                · rfl
                · rfl
              refine hK.out _ _ (by obtain ⟨e0, e1, e2, e3, e4, e5⟩ := hHeld; refine ⟨?_, ?_, ?_, ?_, ?_, ?_⟩ <;> (repeat (first | assumption | refine cell_alloc0 ?_ _))) (fun hS1 => ?_)
              clear hK K
              refine norm_ (a' := ?_) ?_ ?_
              rotate_left
              · show Act.put _ (some 13) _ = _
                simp only [Act.put, List.setIfInBounds_toArray, List.set_cons_zero, List.set_cons_succ, i64_w, i32_w]
                rfl
              refine one_ (i := 11) (N := some 14) #[true, true, true, true, true, true, true, true, true, true, true, true, false, false] rfl rfl (one_of HT_.out (by kernel_rfl)) (by decide) (fun K hK => ?_)
              refine value_ (w1 := ?_) (v := ?_) (by rfl) rfl ?_ ?_
              rotate_left 2
              · go_simp
                constructor
                · rfl
                · rfl
              refine hK.out _ _ (by obtain ⟨e0, e1, e2, e3, e4, e5⟩ := hHeld; refine ⟨?_, ?_, ?_, ?_, ?_, ?_⟩ <;> (repeat (first | assumption | refine cell_alloc0 ?_ _))) (fun hS2 => ?_)
              clear hK K
              refine norm_ (a' := ?_) ?_ ?_
              rotate_left
              · show Act.put _ (some 14) _ = _
                simp only [Act.put, List.setIfInBounds_toArray, List.set_cons_zero, List.set_cons_succ, i64_w, i32_w]
                rfl
              refine one_ (i := 12) (N := none) #[true, true, true, true, true, true, true, true, true, true, true, true, true, false] rfl rfl (one_of HT_.out (by kernel_rfl)) (by decide) (fun K hK => ?_)
              refine skip_ (w1 := ?_) (by rfl) rfl ?_ ?_
              rotate_left
              · go_simp
                rfl
              refine hK.out _ _ (by obtain ⟨e0, e1, e2, e3, e4, e5⟩ := hHeld; refine ⟨?_, ?_, ?_, ?_, ?_, ?_⟩ <;> (repeat (first | assumption | refine cell_alloc0 ?_ _))) (fun hS3 => ?_)
              clear hK K
              refine last_ (i := 13) (N := none) #[true, true, true, true, true, true, true, true, true, true, true, true, true, true] rfl rfl (one_of HT_.out (by kernel_rfl)) (by decide) (fun K hK => ?_)
              refine skip_ (w1 := ?_) (by rfl) rfl ?_ ?_
              rotate_left
              · go_simp
                rfl
              refine hK.out _ _ ?_
              clear hK K
              refine hJ (wd.heap.size, wd.heap.size + 1) _ ⟨?_, ?_, ?_⟩
              · first | exact old_al (heap_alloc_new _ _) _ | exact new_at1 _ _ _
              · first | exact new_at1 _ _ _ | exact old_al (heap_alloc_new _ _) _
              · exact below_alloc (below_alloc (Below.refl _ _) _) _
            · refine value_ (w1 := ?_) (v := ?_) (by rfl) rfl ?_ ?_
              rotate_left 2
              · go_simp
                constructor
                · rfl
                · rfl
              refine hK.out _ _ (by obtain ⟨e0, e1, e2, e3, e4, e5⟩ := hHeld; refine ⟨?_, ?_, ?_, ?_, ?_, ?_⟩ <;> (repeat (first | assumption | refine cell_alloc0 ?_ _))) (fun hS1 => ?_)
              clear hK K
              refine norm_ (a' := ?_) ?_ ?_
              rotate_left
              · show Act.put _ (some 14) _ = _
                simp only [Act.put, List.setIfInBounds_toArray, List.set_cons_zero, List.set_cons_succ, i64_w, i32_w]
                rfl
              refine one_ (i := 10) (N := some 13) #[true, true, true, true, true, true, true, true, true, true, true, true, false, false] rfl rfl (one_of HT_.out (by kernel_rfl)) (by decide) (fun K hK => ?_)
              refine value_ (w1 := ?_) (v := ?_) (by rfl) rfl ?_ ?_
              rotate_left 2
              · go_simp
                constructor
                · rfl
                · rfl
              refine hK.out _ _ (by obtain ⟨e0, e1, e2, e3, e4, e5⟩ := hHeld; refine ⟨?_, ?_, ?_, ?_, ?_, ?_⟩ <;> (repeat (first | assumption | refine cell_alloc0 ?_ _))) (fun hS2 => ?_)
              clear hK K
              refine norm_ (a' := ?_) ?_ ?_
              rotate_left
              · show Act.put _ (some 13) _ = _
                simp only [Act.put, List.setIfInBounds_toArray, List.set_cons_zero, List.set_cons_succ, i64_w, i32_w]
                rfl
              refine one_ (i := 12) (N := none) #[true, true, true, true, true, true, true, true, true, true, true, true, true, false] rfl rfl (one_of HT_.out (by kernel_rfl)) (by decide) (fun K hK => ?_)
              refine skip_ (w1 := ?_) (by rfl) rfl ?_ ?_
              rotate_left
              · go_simp
                rfl
              refine hK.out _ _ (by obtain ⟨e0, e1, e2, e3, e4, e5⟩ := hHeld; refine ⟨?_, ?_, ?_, ?_, ?_, ?_⟩ <;> (repeat (first | assumption | refine cell_alloc0 ?_ _))) (fun hS3 => ?_)
              clear hK K
              refine last_ (i := 13) (N := none) #[true, true, true, true, true, true, true, true, true, true, true, true, true, true] rfl rfl (one_of HT_.out (by kernel_rfl)) (by decide) (fun K hK => ?_)
              refine skip_ (w1 := ?_) (by rfl) rfl ?_ ?_
              rotate_left
              · go_simp
                rfl
              refine hK.out _ _ ?_
              clear hK K
              refine hJ (wd.heap.size + 1, wd.heap.size) _ ⟨?_, ?_, ?_⟩
              · first | exact old_al (heap_alloc_new _ _) _ | exact new_at1 _ _ _
              · first | exact new_at1 _ _ _ | exact old_al (heap_alloc_new _ _) _
              · exact below_alloc (below_alloc (Below.refl _ _) _) _
          rintro ⟨p, q⟩ w' ⟨hp, hq, hpq⟩
          refine done_ (done_of HT_.out (by kernel_rfl)) ?_
          have HBW : Aside0 (Below w5.heap.size w5 w') := ⟨HBD.out.trans (hpq.mono HBD.out.size)⟩
          have f0 : w'.cell? (ad.add (i.toNat * 4)) = some (.string dn) := pw_cell_below hpq F0.out
          have g0 : w'.cell? (au.add (i.toNat * 4)) = some (.string dn) := pw_cell_below hpq G0.out
          have p0 : w'.cell? ⟨p, 0, none⟩ = some (.int .i64 x0) := blk_cell hp 0
          have p1 : w'.cell? ⟨p, 1, none⟩ = some (.int .i64 x1) := blk_cell hp 1
          have p2 : w'.cell? ⟨p, 2, none⟩ = some (.int .i64 x2) := blk_cell hp 2
          have q0 : w'.cell? ⟨q, 0, none⟩ = some (.int .i64 y0) := blk_cell hq 0
          have q1 : w'.cell? ⟨q, 1, none⟩ = some (.int .i64 y1) := blk_cell hq 1
          have q2 : w'.cell? ⟨q, 2, none⟩ = some (.int .i64 y2) := blk_cell hq 2
          clear hp hq hpq hHeld
          simp only [putAll, Act.put, List.setIfInBounds_toArray, List.set_cons_zero, List.set_cons_succ]
          rcases HMT.out with ⟨hx0, hxy⟩ | ⟨hx0, hxl, hy0, hy1, hy2⟩
          · injection hxy with e0 e1 e2
            subst e0 e1 e2
            have hx0' : y0 < 0 := hx0
            have hx0d : decide (0 ≤ y0) = false := decide_eq_false (by omega)
            have hx0n : ¬ (0 ≤ y0) := by omega
            clear hx0
            go_wp2_with fail
            go_quiet (fail)
            go_wp2_with fail
            refine ⟨⟨i + 1, by first | rfl | (simp; done) | (rw [HWK.out]; done), ⟨by omega, by omega⟩, ⟨by repeat (first | exact HBW.out | refine pw_below_drewN ?_ _ | apply below_drew)⟩⟩, by simp only [intOf]; omega⟩
          · have hlen : ls.length ≤ 1048576 := HLEN.out
            have hx0' : 0 ≤ x0 := hx0
            have hxl' : x0 < (ls.length : Int) := hxl
            have hy0' : y0 = (ls.length : Int) - 1 - x0 := hy0
            have hy1' : y1 = x1 := hy1
            have hy2' : y2 = x2 := hy2
            subst hy0' hy1' hy2'
            have hd0 : decide (x0 < 0) = false := decide_eq_false (by omega)
            have hd1 : decide ((ls.length : Int) - 1 - x0 < 0) = false := decide_eq_false (by omega)
            have hn0 : ¬ (x0 < 0) := by omega
            have hn1 : ¬ ((ls.length : Int) - 1 - x0 < 0) := by omega
            have hw1 : IntKind.i64.wrap ((ls.length : Int) - 1) = (ls.length : Int) - 1 := IntWalk.i64_in _ (by omega)
            have hw2 : IntKind.i64.wrap ((ls.length : Int) - 1 - x0) = (ls.length : Int) - 1 - x0 := IntWalk.i64_in _ (by omega)
            clear hx0 hxl hy0 hy1 hy2
            go_wp2_with fail
            go_quiet (fail)
            go_wp2_with fail
            clear hw1 hw2
            refine ⟨⟨i + 1, by first | rfl | (simp; done) | (rw [HWK.out]; done), ⟨by omega, by omega⟩, ⟨by repeat (first | exact HBW.out | refine pw_below_drewN ?_ _ | apply below_drew)⟩⟩, by simp only [intOf]; omega⟩
        · have hi' : ¬ (i < (t.length : Int)) := hi
          go_wp2_with fail
          refine (lives_calls _).mono ?_
          intro e w9 h9
          obtain ⟨h9, hb9⟩ := h9
          subst h9
          have hB : Below W.heap.size W wl := HB5.out.trans (HB.out.mono HB5.out.size)
          have HB9 : Aside0 (Below W.heap.size W w9) := ⟨hB.trans (hb9.mono hB.size)⟩
          clear hb9 hB
          simp only []
          go_wp2_with fail
          go_ret
          exact ⟨rfl, HB9.out⟩
end Go.Proofs.Ytchkjfokoenlnaa.Sym
