/- The law SymsAll walked. -/
import Derived.Test.YtchkjfokoenlnaaQSyW
import Derived.Test.YtchkjfokoenlnaaQSyV
import Derived.Test.YtchkjfokoenlnaaQLone
import Derived.Laws.Cover1
namespace Go.Proofs.Ytchkjfokoenlnaa.Sym
open Go.RowKit Go.Maps Go.WideMaps Go.Proofs.YtchkjfokoenlnaaW.PrintWords Go.Proofs.YtchkjfokoenlnaaW.PrintLast Go.Proofs.Ytchkjfokoenlnaa.QSy
set_option linter.unusedVariables false
set_option linter.unusedSimpArgs false
attribute [local go_sem high] eqA32 eqA37
theorem cell_alloc2 {w : World} {a : Addr} {v : Value} (h : w.cell? a = some v) (ob ob2 : Obj) : ((w.alloc ob).alloc ob2).cell? a = some v := cell_alloc (cell_alloc h ob) ob2
theorem lt_bytes {a b : ByteArray} (h : ltN a b = true) : Op.bytesLess a.toList b.toList = true := by rw [less_ltN]; exact h
theorem wrap_cnt (n1 n2 k : Nat) (h1 : n1 + n2 ≤ 400) (hk : k < n2) : wrap64 ((n1 : Int) + (k : Int) + 1) = ((n1 + (k + 1) : Nat) : Int) := by unfold wrap64; omega
set_option maxRecDepth 100000 in
set_option maxHeartbeats 16000000 in
theorem all_walk (W : World) (A : Option Addr) (c : Nat) (ls : List S44) (hc : ls.length ≤ c) (A1 : Option Addr) (c1 : Nat) (own : List ByteArray) (hc1 : own.length ≤ c1) (hr : Kd.C k44 W A ls.length ls) (hr1 : Kd.C Kd.string W A1 own.length own) (hL : Ls ls) :
    Calls Try.prog 4 #[.slice A ls.length c, .slice A1 own.length c1] W fun e w' => e = .returned (.bool true) ∧ Below W.heap.size W w' := by
  have HR := Aside0.mk hr
  have HR1 := Aside0.mk hr1
  have HC := Aside0.mk hc
  have HC1 := Aside0.mk hc1
  have HL := Aside0.mk hL
  clear hr hr1 hc hc1 hL
  have M := Aside0.mk (many_said A c ls HC.out HL.out.len HL.out.cnt W HR.out)
  obtain ⟨m, hm⟩ : ∃ m, decide (400 < cnt ls) = m := ⟨_, rfl⟩
  rw [hm] at M
  have HM := Aside0.mk hm
  clear hm
  go_enter Try.func4, Try.ntmps4
  go_wp2_with fail
  refine M.out.mono ?_
  intro e w1 h1
  obtain ⟨h1, hd1⟩ := h1
  subst h1
  have HB1 : Aside0 (Below W.heap.size W w1) := ⟨Drawn0.below hd1⟩
  clear hd1
  cases m with
  | true =>
    simp only []
    go_wp2_with fail
    refine (lives_calls _).mono ?_
    intro e w2 h2
    obtain ⟨h2, hb2⟩ := h2
    subst h2
    have HB2 : Aside0 (Below W.heap.size W w2) := ⟨HB1.out.trans (hb2.mono HB1.out.size)⟩
    clear hb2
    simp only []
    go_wp2_with fail
    go_ret
    exact ⟨rfl, HB2.out⟩
  | false =>
    have HN : Aside0 (cnt ls ≤ 400) := ⟨by have := HM.out; simp at this; exact this⟩
    have hgood := table_good ls (by have := HN.out; omega) own
    obtain ⟨r, hr⟩ : ∃ r, tableR ls own = r := ⟨_, rfl⟩
    rw [hr] at hgood
    have HT := Aside0.mk hr
    clear hr
    obtain ⟨t, nm, er⟩ := r
    have HG := Aside0.mk hgood
    clear hgood
    simp only []
    go_wp2_with fail
    refine (table_said A c ls HC.out HN.out HL.out.names A1 c1 own HC1.out _ (Kd.C_below HR.out HB1.out) (Kd.C_below HR1.out HB1.out) _ HT.out).mono ?_
    intro e w2 h2
    obtain ⟨v, h2, hv, hb2⟩ := h2
    subst h2
    have HB2 : Aside0 (Below W.heap.size W w2) := ⟨HB1.out.trans (hb2.mono HB1.out.size)⟩
    clear hb2
    obtain ⟨At, ct, rfl⟩ := Kd.R_slice hv
    have HV := Aside0.mk (Kd.R_reads' hv).2
    clear hv
    simp only []
    by_cases he : er = 0
    · subst he
      have HGD : Aside0 (Good ls own t) := ⟨by rcases HG.out with ⟨h, _⟩ | ⟨_, h⟩; exact absurd rfl h; exact h⟩
      clear HG HT
      go_wp2_with fail
      go_loopw [8] (fun v8 wr => ∃ i : Int, v8 = .int .i64 i ∧ Aside0 (0 ≤ i ∧ i ≤ t.length) ∧ Aside0 (Below w2.heap.size w2 wr)) (fun v8 _ => t.length - (intOf v8).toNat)
      case atStart => exact ⟨0, rfl, ⟨Int.le_refl _, by omega⟩, ⟨Below.refl _ _⟩⟩
      case round =>
        obtain ⟨i, rfl, HI, HB⟩ := hrel
        by_cases hi : i < t.length
        · have hlt : t.length ≤ 9223372036854775807 := HV.out.2.2.1
          have h0i : 0 ≤ i := HI.out.1
          have hwk : wrap64 (i + 1) = i + 1 := by unfold wrap64; omega
          have HCT := Aside0.mk (Kd.C_below HV.out.2 HB.out)
          have htg := HGD.out.tgt i.toNat (by omega)
          obtain ⟨ad, hAd, f0, f1, f2, f3⟩ := at_T37 HCT.out i h0i hi
          obtain ⟨b, hb⟩ : ∃ b, rd_T37 t i = b := ⟨_, rfl⟩
          have hb' : t.getD i.toNat z37 = b := hb
          rw [hb'] at htg
          rw [hb] at f0 f1 f2 f3
          have HTG := Aside0.mk htg
          have HBB := Aside0.mk hb
          subst hAd
          have f2' : wr.cell? ⟨(ad.add (i.toNat * 4)).block, (ad.add (i.toNat * 4)).off + 1 + 1, none⟩ = some (.int .i64 b.f1.f1) := f2
          have f3' : wr.cell? ⟨(ad.add (i.toNat * 4)).block, (ad.add (i.toNat * 4)).off + 1 + 2, none⟩ = some (.int .i64 b.f1.f2) := f3
          clear f2 f3 htg hb hb'
          obtain ⟨bn, x0, x1, x2⟩ := b
          have F0 := Aside0.mk f0
          go_upto_region 10 with fail
          clear f0 f1 f2' f3'
          generalize hWa : wr.alloc (.cells #[.int .i64 x0, .int .i64 x1, .int .i64 x2] 32 (0, 0)) = wa
          have n0 : wa.cell? ⟨wr.heap.size, 0, none⟩ = some (.int .i64 x0) := by rw [← hWa]; simp [go_sem]
          have n1 : wa.cell? ⟨wr.heap.size, 1, none⟩ = some (.int .i64 x1) := by rw [← hWa]; simp [go_sem]
          have n2 : wa.cell? ⟨wr.heap.size, 2, none⟩ = some (.int .i64 x2) := by rw [← hWa]; simp [go_sem]
          have f0 : wa.cell? (ad.add (i.toNat * 4)) = some (.string bn) := by rw [← hWa]; exact cell_alloc F0.out _
          have HBA : Aside0 (Below w2.heap.size w2 wa) := ⟨by rw [← hWa]; exact below_alloc HB.out _⟩
          have HTA : Aside0 (Kd.C k37 wa (some ad) t.length t) := ⟨by rw [← hWa]; exact Kd.C_below HCT.out (below_alloc (Below.refl _ _) _)⟩
          clear F0 HCT hWa
          by_cases h0 : i = 0
          · subst h0
            have f0' : wa.cell? ad = some (.string bn) := f0
            have hiN : 0 < t.length := by omega
            rcases HTG.out with ⟨hx0, hx2⟩ | ⟨hin, hnm, hb3, hb6⟩
            · rcases hx2 with hx2 | ⟨j, hj, hown⟩
              · have hx2n : ¬ (0 ≤ x2) := by have : x2 < 0 := hx2; omega
                have hx0' : x0 < 0 := hx0
                have hx2d : decide (0 ≤ x2) = false := decide_eq_false hx2n
                clear hx0 hx2
                go_wp2_with fail
                go_quiet (fail)
                go_wp2_with fail
                go_quiet (fail)
                go_wp2_with fail
                refine ⟨⟨0 + 1, by first | rfl | (simp; done) | (rw [hwk]; done), ⟨by omega, by omega⟩, ⟨by repeat (first | exact HBA.out | apply below_alloc | refine pw_below_drewN ?_ _ | apply below_drew)⟩⟩, by simp only [intOf]; omega⟩
              · have hx0' : x0 < 0 := hx0
                have hx2' : x2 = (j : Int) := hj
                have hjl : j < own.length := (List.getElem?_eq_some_iff.1 hown).1
                have hx2p : 0 ≤ x2 := by omega
                have hx2l : x2 < own.length := by omega
                have hx2n : ¬ ((own.length : Int) ≤ x2) := by omega
                have hx2d : decide ((own.length : Int) ≤ x2) = false := decide_eq_false hx2n
                have hol : own.length ≤ 9223372036854775807 := HR1.out.2.1
                obtain ⟨ado, hAo, ow⟩ := Kd.at_string (Kd.C_below HR1.out (HB2.out.trans (HBA.out.mono HB2.out.size))) x2 hx2p hx2l
                have hbn : rdOf ByteArray.empty own x2 = bn := by
                  rw [hx2', rdOf_at own j hjl]
                  rw [List.getElem?_eq_getElem hjl] at hown
                  exact Option.some.inj hown
                rw [hbn] at ow
                subst hAo
                clear hx0 hj hown hbn hjl hx2'
                go_wp2_with fail
                go_quiet (fail)
                go_wp2_with fail
                go_quiet (fail)
                go_wp2_with fail
                refine ⟨⟨0 + 1, by first | rfl | (simp; done) | (rw [hwk]; done), ⟨by omega, by omega⟩, ⟨by repeat (first | exact HBA.out | apply below_alloc | refine pw_below_drewN ?_ _ | apply below_drew)⟩⟩, by simp only [intOf]; omega⟩
            · have hx0n : ¬ (x0 < 0) := by have := hin.1; simp only at this; omega
              have hx0p : 0 ≤ x0 := by omega
              have hx0l : x0 < ls.length := hin.2.1
              have hx0m : ¬ ((ls.length : Int) ≤ x0) := by omega
              have hx1p : 0 ≤ x1 := hin.2.2.1
              have hx1n : ¬ (x1 < 0) := by omega
              have hx1d : decide (x1 < 0) = false := decide_eq_false hx1n
              have hx0d : decide ((ls.length : Int) ≤ x0) = false := decide_eq_false hx0m
              obtain ⟨ad4, A4, c4, A5, c5, A6, c6, hA4, _, _, k2, _, _, _, l5, C5, _, _⟩ := at_T44 (Kd.C_below HR.out (HB2.out.trans (HBA.out.mono HB2.out.size))) x0 hx0p hx0l
              obtain ⟨y, hy⟩ : ∃ y, rd_T44 ls x0 = y := ⟨_, rfl⟩
              rw [hy] at k2 l5 C5
              have hy' : ls.getD x0.toNat z44 = y := hy
              have hx1l : x1 < y.f1.f1.length := by have := hin.2.2.2; simp only at this; rw [hy'] at this; exact this
              have hx1m : ¬ ((y.f1.f1.length : Int) ≤ x1) := by omega
              have hx1e : decide ((y.f1.f1.length : Int) ≤ x1) = false := decide_eq_false hx1m
              obtain ⟨ad5, hA5, s0, s1, s2, s3, s4, s5, s6⟩ := at_T47 C5 x1 hx1p hx1l
              have hsy : symAt ls x0 x1 = rd_T47 y.f1.f1 x1 := by unfold symAt; rw [hy']; rfl
              simp only at hnm hb3 hb6
              rw [hsy] at hnm hb3 hb6
              obtain ⟨z, hz⟩ : ∃ z, rd_T47 y.f1.f1 x1 = z := ⟨_, rfl⟩
              rw [hz] at hnm hb3 hb6 s0 s1 s2 s3 s4 s5 s6
              obtain ⟨zn, zv, zs, zb, zk, zh, zi⟩ := z
              simp only at hnm hb3 hb6 s0 s1 s2 s3 s4 s5 s6
              subst hnm
              subst hA4 hA5
              have k2' : wa.cell? ⟨(ad4.add (x0.toNat * 4)).block, (ad4.add (x0.toNat * 4)).off + 1 + 1, none⟩ = some (.slice (some ad5) y.f1.f1.length c5) := k2
              have hlen : ls.length ≤ 9223372036854775807 := HR.out.2.1
              have hlen5 : y.f1.f1.length ≤ 9223372036854775807 := C5.2.1
              clear hin hy hy' hsy hz k2 C5
              go_wp2_with fail
              go_quiet (fail)
              go_wp2_with fail
              go_quiet (fail)
              go_wp2_with fail
              generalize hWb : (wa.drewN _).drewN _ = wb
              have hbw : Below wa.heap.size wa wb := by rw [← hWb]; exact pw_below_drewN (pw_below_drewN (Below.refl _ _) _) _
              have HBB2 : Aside0 (Below w2.heap.size w2 wb) := ⟨HBA.out.trans (hbw.mono HBA.out.size)⟩
              have HF0 := Aside0.mk (pw_cell_below hbw f0)
              replace n0 := pw_cell_below hbw n0
              replace n1 := pw_cell_below hbw n1
              replace k2' := pw_cell_below hbw k2'
              replace s0 := pw_cell_below hbw s0
              replace s1 := pw_cell_below hbw s1
              replace s2 := pw_cell_below hbw s2
              replace s3 := pw_cell_below hbw s3
              replace s4 := pw_cell_below hbw s4
              replace s5 := pw_cell_below hbw s5
              replace s6 := pw_cell_below hbw s6
              clear hWb hbw n2
              refine Lone.wp_region_lone 11 195 (oX := _) (px := .pointer (some ⟨wb.heap.size, 0, none⟩)) (W := wb.drew) (W' := wb.drew.alloc (.cells #[.string ⟨#[]⟩, .int .u32 0, .int .u32 0, .int .u8 0, .int .u8 0, .bool false, .int .i64 0] 47 (0, 0))) (fun ws => ws.cell? ⟨wr.heap.size, 0, none⟩ = some (.int .i64 x0) ∧ ws.cell? ⟨wr.heap.size, 1, none⟩ = some (.int .i64 x1) ∧ ws.cell? ⟨(ad4.add (x0.toNat * 4)).block, (ad4.add (x0.toNat * 4)).off + 1 + 1, none⟩ = some (.slice (some ad5) y.f1.f1.length c5) ∧ ws.cell? (ad5.add (x1.toNat * 7)) = some (.string zn) ∧ ws.cell? ⟨(ad5.add (x1.toNat * 7)).block, (ad5.add (x1.toNat * 7)).off + 1, none⟩ = some (.int .u32 zv) ∧ ws.cell? ⟨(ad5.add (x1.toNat * 7)).block, (ad5.add (x1.toNat * 7)).off + 2, none⟩ = some (.int .u32 zs) ∧ ws.cell? ⟨(ad5.add (x1.toNat * 7)).block, (ad5.add (x1.toNat * 7)).off + 3, none⟩ = some (.int .u8 zb) ∧ ws.cell? ⟨(ad5.add (x1.toNat * 7)).block, (ad5.add (x1.toNat * 7)).off + 4, none⟩ = some (.int .u8 zk) ∧ ws.cell? ⟨(ad5.add (x1.toNat * 7)).block, (ad5.add (x1.toNat * 7)).off + 5, none⟩ = some (.bool zh) ∧ ws.cell? ⟨(ad5.add (x1.toNat * 7)).block, (ad5.add (x1.toNat * 7)).off + 6, none⟩ = some (.int .i64 zi)) ?A (by kernel_rfl) (by kernel_rfl) rfl rfl rfl rfl rfl (fun a => by go_simp) ⟨n0, n1, k2', s0, s1, s2, s3, s4, s5, s6⟩ ⟨cell_alloc n0 _, cell_alloc n1 _, cell_alloc k2' _, cell_alloc s0 _, cell_alloc s1 _, cell_alloc s2 _, cell_alloc s3 _, cell_alloc s4 _, cell_alloc s5 _, cell_alloc s6 _⟩ ?hs ?_
              case hs =>
                intro ws hws
                obtain ⟨e0, e1, e2, e3, e4, e5, e6, e7, e8, e9⟩ := hws
                simp only [List.take_succ_cons, List.take_zero]
                repeat still_step
                refine wpStill_nil ?_
                exact rfl
              clear n0 n1 k2' s0 s1 s2 s3 s4 s5 s6
              iterate 2 go_step
              generalize hG : (wb.alloc (.cells #[.string zn, .int .u32 zv, .int .u32 zs, .int .u8 zb, .int .u8 zk, .bool zh, .int .i64 zi] 47 (0, 0))).drew = wc
              have hbc : Below wb.heap.size wb wc := by rw [← hG]; exact below_drew (below_alloc (Below.refl _ _) _)
              have d0 : wc.cell? ⟨wb.heap.size, 0, none⟩ = some (.string zn) := by rw [← hG]; simp [go_sem]
              have d3 : wc.cell? ⟨wb.heap.size, 3, none⟩ = some (.int .u8 zb) := by rw [← hG]; simp [go_sem]
              have d6 : wc.cell? ⟨wb.heap.size, 6, none⟩ = some (.int .i64 zi) := by rw [← hG]; simp [go_sem]
              have q0 := pw_cell_below hbc HF0.out
              have q0' : wc.cell? ad = some (.string zn) := q0
              have HBC : Aside0 (Below w2.heap.size w2 wc) := ⟨HBB2.out.trans (hbc.mono HBB2.out.size)⟩
              have hb3d : decide (zb = 0) = false := decide_eq_false hb3
              have hb6d : decide (zi = -1) = false := decide_eq_false hb6
              have hb3e : (zb == 0) = false := by simpa using hb3
              have hb6e : (zi == -1) = false := by simpa using hb6
              clear hG hbc
              go_wp2_with fail
              go_quiet (fail)
              go_wp2_with fail
              refine ⟨⟨0 + 1, by first | rfl | (simp; done) | (rw [hwk]; done), ⟨by omega, by omega⟩, ⟨by repeat (first | exact HBC.out | apply below_alloc | refine pw_below_drewN ?_ _ | apply below_drew)⟩⟩, by simp only [intOf]; omega⟩

          · have hip : 0 < i := by omega
            have h1i : 1 ≤ i := by omega
            have hile : i ≤ (t.length : Int) := by omega
            have hp0 : 0 ≤ i - 1 := by omega
            have hpl : i - 1 < t.length := by omega
            have hwp : IntKind.i64.wrap (i - 1) = i - 1 := by rw [IntKind.wrap_i64]; omega
            obtain ⟨ad2, hAd2, p0, _, _, _⟩ := at_T37 HTA.out (i - 1) hp0 hpl
            injection hAd2 with hAd2
            subst hAd2
            obtain ⟨pn, hpn⟩ : ∃ pn, (rd_T37 t (i - 1)).f0 = pn := ⟨_, rfl⟩
            rw [hpn] at p0
            have hless : Op.bytesLess pn.toList bn.toList = true := by
              have := HGD.out.asc (i - 1).toNat (by omega)
              rw [show (i - 1).toNat + 1 = i.toNat from by omega] at this
              have e1 : t.getD (i - 1).toNat z37 = rd_T37 t (i - 1) := rfl
              have e2 : t.getD i.toNat z37 = rd_T37 t i := rfl
              rw [e1, e2, hpn, HBB.out] at this
              exact lt_bytes this
            have htn : (i - 1).toNat = i.toNat - 1 := by omega
            rw [htn] at p0
            clear hpn htn
            rcases HTG.out with ⟨hx0, hx2⟩ | ⟨hin, hnm, hb3, hb6⟩
            · rcases hx2 with hx2 | ⟨j, hj, hown⟩
              · have hx2n : ¬ (0 ≤ x2) := by have : x2 < 0 := hx2; omega
                have hx0' : x0 < 0 := hx0
                have hx2d : decide (0 ≤ x2) = false := decide_eq_false hx2n
                clear hx0 hx2
                go_wp2_with fail
                go_quiet (fail)
                go_wp2_with fail
                go_quiet (fail)
                go_wp2_with fail
                refine ⟨⟨i + 1, by first | rfl | (simp; done) | (rw [hwk]; done), ⟨by omega, by omega⟩, ⟨by repeat (first | exact HBA.out | apply below_alloc | refine pw_below_drewN ?_ _ | apply below_drew)⟩⟩, by simp only [intOf]; omega⟩
              · have hx0' : x0 < 0 := hx0
                have hx2' : x2 = (j : Int) := hj
                have hjl : j < own.length := (List.getElem?_eq_some_iff.1 hown).1
                have hx2p : 0 ≤ x2 := by omega
                have hx2l : x2 < own.length := by omega
                have hx2n : ¬ ((own.length : Int) ≤ x2) := by omega
                have hx2d : decide ((own.length : Int) ≤ x2) = false := decide_eq_false hx2n
                have hol : own.length ≤ 9223372036854775807 := HR1.out.2.1
                obtain ⟨ado, hAo, ow⟩ := Kd.at_string (Kd.C_below HR1.out (HB2.out.trans (HBA.out.mono HB2.out.size))) x2 hx2p hx2l
                have hbn : rdOf ByteArray.empty own x2 = bn := by
                  rw [hx2', rdOf_at own j hjl]
                  rw [List.getElem?_eq_getElem hjl] at hown
                  exact Option.some.inj hown
                rw [hbn] at ow
                subst hAo
                clear hx0 hj hown hbn hjl hx2'
                go_wp2_with fail
                go_quiet (fail)
                go_wp2_with fail
                go_quiet (fail)
                go_wp2_with fail
                refine ⟨⟨i + 1, by first | rfl | (simp; done) | (rw [hwk]; done), ⟨by omega, by omega⟩, ⟨by repeat (first | exact HBA.out | apply below_alloc | refine pw_below_drewN ?_ _ | apply below_drew)⟩⟩, by simp only [intOf]; omega⟩
            · have hx0n : ¬ (x0 < 0) := by have := hin.1; simp only at this; omega
              have hx0p : 0 ≤ x0 := by omega
              have hx0l : x0 < ls.length := hin.2.1
              have hx0m : ¬ ((ls.length : Int) ≤ x0) := by omega
              have hx1p : 0 ≤ x1 := hin.2.2.1
              have hx1n : ¬ (x1 < 0) := by omega
              have hx1d : decide (x1 < 0) = false := decide_eq_false hx1n
              have hx0d : decide ((ls.length : Int) ≤ x0) = false := decide_eq_false hx0m
              obtain ⟨ad4, A4, c4, A5, c5, A6, c6, hA4, _, _, k2, _, _, _, l5, C5, _, _⟩ := at_T44 (Kd.C_below HR.out (HB2.out.trans (HBA.out.mono HB2.out.size))) x0 hx0p hx0l
              obtain ⟨y, hy⟩ : ∃ y, rd_T44 ls x0 = y := ⟨_, rfl⟩
              rw [hy] at k2 l5 C5
              have hy' : ls.getD x0.toNat z44 = y := hy
              have hx1l : x1 < y.f1.f1.length := by have := hin.2.2.2; simp only at this; rw [hy'] at this; exact this
              have hx1m : ¬ ((y.f1.f1.length : Int) ≤ x1) := by omega
              have hx1e : decide ((y.f1.f1.length : Int) ≤ x1) = false := decide_eq_false hx1m
              obtain ⟨ad5, hA5, s0, s1, s2, s3, s4, s5, s6⟩ := at_T47 C5 x1 hx1p hx1l
              have hsy : symAt ls x0 x1 = rd_T47 y.f1.f1 x1 := by unfold symAt; rw [hy']; rfl
              simp only at hnm hb3 hb6
              rw [hsy] at hnm hb3 hb6
              obtain ⟨z, hz⟩ : ∃ z, rd_T47 y.f1.f1 x1 = z := ⟨_, rfl⟩
              rw [hz] at hnm hb3 hb6 s0 s1 s2 s3 s4 s5 s6
              obtain ⟨zn, zv, zs, zb, zk, zh, zi⟩ := z
              simp only at hnm hb3 hb6 s0 s1 s2 s3 s4 s5 s6
              subst hnm
              subst hA4 hA5
              have k2' : wa.cell? ⟨(ad4.add (x0.toNat * 4)).block, (ad4.add (x0.toNat * 4)).off + 1 + 1, none⟩ = some (.slice (some ad5) y.f1.f1.length c5) := k2
              have hlen : ls.length ≤ 9223372036854775807 := HR.out.2.1
              have hlen5 : y.f1.f1.length ≤ 9223372036854775807 := C5.2.1
              clear hin hy hy' hsy hz k2 C5
              go_wp2_with fail
              go_quiet (fail)
              go_wp2_with fail
              go_quiet (fail)
              go_wp2_with fail
              generalize hWb : (wa.drewN _).drewN _ = wb
              have hbw : Below wa.heap.size wa wb := by rw [← hWb]; exact pw_below_drewN (pw_below_drewN (Below.refl _ _) _) _
              have HBB2 : Aside0 (Below w2.heap.size w2 wb) := ⟨HBA.out.trans (hbw.mono HBA.out.size)⟩
              have HF0 := Aside0.mk (pw_cell_below hbw f0)
              replace n0 := pw_cell_below hbw n0
              replace n1 := pw_cell_below hbw n1
              replace k2' := pw_cell_below hbw k2'
              replace s0 := pw_cell_below hbw s0
              replace s1 := pw_cell_below hbw s1
              replace s2 := pw_cell_below hbw s2
              replace s3 := pw_cell_below hbw s3
              replace s4 := pw_cell_below hbw s4
              replace s5 := pw_cell_below hbw s5
              replace s6 := pw_cell_below hbw s6
              clear hWb hbw n2
              refine Lone.wp_region_lone 11 195 (oX := _) (px := .pointer (some ⟨wb.heap.size, 0, none⟩)) (W := wb.drew) (W' := wb.drew.alloc (.cells #[.string ⟨#[]⟩, .int .u32 0, .int .u32 0, .int .u8 0, .int .u8 0, .bool false, .int .i64 0] 47 (0, 0))) (fun ws => ws.cell? ⟨wr.heap.size, 0, none⟩ = some (.int .i64 x0) ∧ ws.cell? ⟨wr.heap.size, 1, none⟩ = some (.int .i64 x1) ∧ ws.cell? ⟨(ad4.add (x0.toNat * 4)).block, (ad4.add (x0.toNat * 4)).off + 1 + 1, none⟩ = some (.slice (some ad5) y.f1.f1.length c5) ∧ ws.cell? (ad5.add (x1.toNat * 7)) = some (.string zn) ∧ ws.cell? ⟨(ad5.add (x1.toNat * 7)).block, (ad5.add (x1.toNat * 7)).off + 1, none⟩ = some (.int .u32 zv) ∧ ws.cell? ⟨(ad5.add (x1.toNat * 7)).block, (ad5.add (x1.toNat * 7)).off + 2, none⟩ = some (.int .u32 zs) ∧ ws.cell? ⟨(ad5.add (x1.toNat * 7)).block, (ad5.add (x1.toNat * 7)).off + 3, none⟩ = some (.int .u8 zb) ∧ ws.cell? ⟨(ad5.add (x1.toNat * 7)).block, (ad5.add (x1.toNat * 7)).off + 4, none⟩ = some (.int .u8 zk) ∧ ws.cell? ⟨(ad5.add (x1.toNat * 7)).block, (ad5.add (x1.toNat * 7)).off + 5, none⟩ = some (.bool zh) ∧ ws.cell? ⟨(ad5.add (x1.toNat * 7)).block, (ad5.add (x1.toNat * 7)).off + 6, none⟩ = some (.int .i64 zi)) ?A2 (by kernel_rfl) (by kernel_rfl) rfl rfl rfl rfl rfl (fun a => by go_simp) ⟨n0, n1, k2', s0, s1, s2, s3, s4, s5, s6⟩ ⟨cell_alloc n0 _, cell_alloc n1 _, cell_alloc k2' _, cell_alloc s0 _, cell_alloc s1 _, cell_alloc s2 _, cell_alloc s3 _, cell_alloc s4 _, cell_alloc s5 _, cell_alloc s6 _⟩ ?hs2 ?_
              case hs2 =>
                intro ws hws
                obtain ⟨e0, e1, e2, e3, e4, e5, e6, e7, e8, e9⟩ := hws
                simp only [List.take_succ_cons, List.take_zero]
                repeat still_step
                refine wpStill_nil ?_
                exact rfl
              clear n0 n1 k2' s0 s1 s2 s3 s4 s5 s6
              iterate 2 go_step
              generalize hG : (wb.alloc (.cells #[.string zn, .int .u32 zv, .int .u32 zs, .int .u8 zb, .int .u8 zk, .bool zh, .int .i64 zi] 47 (0, 0))).drew = wc
              have hbc : Below wb.heap.size wb wc := by rw [← hG]; exact below_drew (below_alloc (Below.refl _ _) _)
              have d0 : wc.cell? ⟨wb.heap.size, 0, none⟩ = some (.string zn) := by rw [← hG]; simp [go_sem]
              have d3 : wc.cell? ⟨wb.heap.size, 3, none⟩ = some (.int .u8 zb) := by rw [← hG]; simp [go_sem]
              have d6 : wc.cell? ⟨wb.heap.size, 6, none⟩ = some (.int .i64 zi) := by rw [← hG]; simp [go_sem]
              have q0 := pw_cell_below hbc HF0.out
              have HBC : Aside0 (Below w2.heap.size w2 wc) := ⟨HBB2.out.trans (hbc.mono HBB2.out.size)⟩
              have hb3d : decide (zb = 0) = false := decide_eq_false hb3
              have hb6d : decide (zi = -1) = false := decide_eq_false hb6
              have hb3e : (zb == 0) = false := by simpa using hb3
              have hb6e : (zi == -1) = false := by simpa using hb6
              clear hG hbc
              go_wp2_with fail
              go_quiet (fail)
              go_wp2_with fail
              refine ⟨⟨i + 1, by first | rfl | (simp; done) | (rw [hwk]; done), ⟨by omega, by omega⟩, ⟨by repeat (first | exact HBC.out | apply below_alloc | refine pw_below_drewN ?_ _ | apply below_drew)⟩⟩, by simp only [intOf]; omega⟩

        · have hi' : ¬ (i < (t.length : Int)) := hi
          obtain ⟨wl, rfl⟩ : ∃ q, q = wr := ⟨_, rfl⟩
          have HOF := Aside0.mk (fun (o k : Int) (w : World) h1 h2 => of_calls At ct t HV.out.1 A c ls HC.out o k w h1 h2)
          have hBW : Below W.heap.size W wl := HB2.out.trans (HB.out.mono HB2.out.size)
          have HBW := Aside0.mk hBW
          have HVR := Aside0.mk (Kd.C_below HV.out.2 HB.out)
          clear hBW
          go_wp2_with fail
          go_loopw [11, 12] (fun v11 v12 wx => ∃ a : Nat, v11 = .int .i64 (cnt (ls.take a) : Nat) ∧ v12 = .int .i64 a ∧ Aside0 (a ≤ ls.length) ∧ Aside0 (Below wl.heap.size wl wx)) (fun _ v12 _ => ls.length - (intOf v12).toNat)
          case atStart => exact ⟨0, rfl, rfl, ⟨Nat.zero_le _⟩, ⟨Below.refl _ _⟩⟩
          case round =>
            obtain ⟨wx, rfl⟩ : ∃ q, q = wr := ⟨_, rfl⟩
            obtain ⟨a, rfl, rfl, HA, HBX⟩ := hrel
            have hlen : ls.length ≤ 9223372036854775807 := HR.out.2.1
            have HCA : Aside0 (cnt (ls.take a) ≤ 400) := ⟨Nat.le_trans (cnt_take ls a) HN.out⟩
            by_cases ha : a < ls.length
            · have haI : (a : Int) < (ls.length : Int) := by omega
              have HWA : Aside0 (wrap64 ((a : Int) + 1) = ((a + 1 : Nat) : Int)) := ⟨by unfold wrap64; omega⟩
              obtain ⟨x, hx⟩ : ∃ x, rd_T44 ls (a : Int) = x := ⟨_, rfl⟩
              have HX := Aside0.mk hx
              have hxs : ls[a] = x := by
                rw [← hx]; unfold rd_T44; rw [Int.toNat_natCast, List.getD_eq_getElem?_getD, List.getElem?_eq_getElem ha]; rfl
              have HSC : Aside0 (cnt (ls.take (a + 1)) = cnt (ls.take a) + x.f1.f1.length) := ⟨by
                unfold cnt
                rw [List.take_succ_eq_append_getElem ha, List.map_append, List.sum_append, hxs]
                simp⟩
              have HCB : Aside0 (cnt (ls.take (a + 1)) ≤ 400) := ⟨Nat.le_trans (cnt_take ls (a + 1)) HN.out⟩
              clear hx hxs
              go_wp2_with fail
              go_loopw [11, 13] (fun v11 v13 wz => ∃ k : Nat, v11 = .int .i64 (cnt (ls.take a) + k : Nat) ∧ v13 = .int .i64 k ∧ Aside0 (k ≤ x.f1.f1.length) ∧ Aside0 (Below wl.heap.size wl wz)) (fun _ v13 _ => x.f1.f1.length - (intOf v13).toNat)
              case atStart => exact ⟨0, rfl, rfl, ⟨Nat.zero_le _⟩, HBX⟩
              case round =>
                obtain ⟨wz, rfl⟩ : ∃ q, q = wr := ⟨_, rfl⟩
                obtain ⟨k, rfl, rfl, HK, HBZ⟩ := hrel
                obtain ⟨ad4, A4, c4, A5, c5, A6, c6, rfl, _, _, k2, _, _, _, l5, C5, _, _⟩ := at_T44 (Kd.C_below HR.out (HBW.out.trans (HBZ.out.mono HBW.out.size))) (a : Int) (by omega) haI
                rw [HX.out] at k2 l5 C5
                rw [Int.toNat_natCast] at k2
                have k2' : wz.cell? ⟨(ad4.add (a * 4)).block, (ad4.add (a * 4)).off + 1 + 1, none⟩ = some (.slice A5 x.f1.f1.length c5) := k2
                clear k2
                by_cases hk : k < x.f1.f1.length
                · have hkI : (k : Int) < (x.f1.f1.length : Int) := by omega
                  have hl5 : x.f1.f1.length ≤ 9223372036854775807 := C5.2.1
                  have HWK : Aside0 (wrap64 ((k : Int) + 1) = ((k + 1 : Nat) : Int)) := ⟨by unfold wrap64; omega⟩
                  have HWN := Aside0.mk (wrap_cnt (cnt (ls.take a)) x.f1.f1.length k (by have h1 := HCB.out; rw [HSC.out] at h1; exact h1) hk)
                  obtain ⟨ad5, rfl, s0, s1, s2, s3, s4, s5, s6⟩ := at_T47 C5 (k : Int) (by omega) hkI
                  obtain ⟨z, hz⟩ : ∃ z, rd_T47 x.f1.f1 (k : Int) = z := ⟨_, rfl⟩
                  rw [hz] at s0 s1 s2 s3 s4 s5 s6
                  rw [Int.toNat_natCast] at s0 s1 s2 s3 s4 s5 s6
                  have hxg : ls.getD a z44 = x := by have := HX.out; unfold rd_T44 at this; rw [Int.toNat_natCast] at this; exact this
                  have hin : inO ls (a : Int) (k : Int) := ⟨by omega, haI, by omega, by rw [Int.toNat_natCast, hxg]; exact hkI⟩
                  have hsy : symAt ls (a : Int) (k : Int) = z := by unfold symAt; rw [Int.toNat_natCast, hxg]; exact hz
                  have hall := HGD.out.all (a : Int) (k : Int) hin
                  rw [hsy] at hall
                  obtain ⟨⟨⟨p, q, d⟩, ok⟩, hof⟩ : ∃ r, ofS t ls (a : Int) (k : Int) = r := ⟨_, rfl⟩
                  rw [hof] at hall
                  have OC := HOF.out (a : Int) (k : Int) wz (Kd.C_below HVR.out HBZ.out) (Kd.C_below HR.out (HBW.out.trans (HBZ.out.mono HBW.out.size)))
                  rw [hof] at OC
                  have hok : ok = true := hall.1
                  subst hok
                  obtain ⟨zn, zv, zs, zb, zk, zh, zi⟩ := z
                  have hall2 : zb = 0 → (⟨p, q, d⟩ : S32) = ⟨(a : Int), (k : Int), -1⟩ := hall.2
                  have HALL := Aside0.mk hall2
                  have OCA := Aside0.mk OC
                  have S : Aside0 (wz.cell? ⟨(ad4.add (a * 4)).block, (ad4.add (a * 4)).off + 1 + 1, none⟩ = some (.slice (some ad5) x.f1.f1.length c5) ∧ wz.cell? (ad5.add (k * 7)) = some (.string zn) ∧ wz.cell? ⟨(ad5.add (k * 7)).block, (ad5.add (k * 7)).off + 1, none⟩ = some (.int .u32 zv) ∧ wz.cell? ⟨(ad5.add (k * 7)).block, (ad5.add (k * 7)).off + 2, none⟩ = some (.int .u32 zs) ∧ wz.cell? ⟨(ad5.add (k * 7)).block, (ad5.add (k * 7)).off + 3, none⟩ = some (.int .u8 zb) ∧ wz.cell? ⟨(ad5.add (k * 7)).block, (ad5.add (k * 7)).off + 4, none⟩ = some (.int .u8 zk) ∧ wz.cell? ⟨(ad5.add (k * 7)).block, (ad5.add (k * 7)).off + 5, none⟩ = some (.bool zh) ∧ wz.cell? ⟨(ad5.add (k * 7)).block, (ad5.add (k * 7)).off + 6, none⟩ = some (.int .i64 zi)) := ⟨k2', s0, s1, s2, s3, s4, s5, s6⟩
                  clear s0 s1 s2 s3 s4 s5 s6 hz hxg hin hsy hall hof OC hall2 C5
                  go_wp2_with fail
                  refine OCA.out.mono ?_
                  intro e w5 h5
                  obtain ⟨h5, hb5⟩ := h5
                  subst h5
                  obtain ⟨t2, u0, u1, u2, u3, u4, u5, u6⟩ := S.out
                  have g2 : ∀ ob, (w5.alloc ob).cell? _ = _ := fun ob => cell_alloc (pw_cell_below hb5 t2) ob
                  have g3 : ∀ ob, (w5.alloc ob).cell? _ = _ := fun ob => cell_alloc (pw_cell_below hb5 u0) ob
                  have g4 : ∀ ob, (w5.alloc ob).cell? _ = _ := fun ob => cell_alloc (pw_cell_below hb5 u1) ob
                  have g5 : ∀ ob, (w5.alloc ob).cell? _ = _ := fun ob => cell_alloc (pw_cell_below hb5 u2) ob
                  have g6 : ∀ ob, (w5.alloc ob).cell? _ = _ := fun ob => cell_alloc (pw_cell_below hb5 u3) ob
                  have g7 : ∀ ob, (w5.alloc ob).cell? _ = _ := fun ob => cell_alloc (pw_cell_below hb5 u4) ob
                  have g8 : ∀ ob, (w5.alloc ob).cell? _ = _ := fun ob => cell_alloc (pw_cell_below hb5 u5) ob
                  have g9 : ∀ ob, (w5.alloc ob).cell? _ = _ := fun ob => cell_alloc (pw_cell_below hb5 u6) ob
                  have HB5 : Aside0 (Below wl.heap.size wl w5) := ⟨HBZ.out.trans (hb5.mono HBZ.out.size)⟩
                  have b0 : ∀ ob, ((w5.alloc (.cells #[.int .i64 p, .int .i64 q, .int .i64 d] 32 (0, 0))).alloc ob).cell? ⟨w5.heap.size, 0, none⟩ = some (.int .i64 p) := fun ob => cell_alloc (by simp [go_sem]) ob
                  have b1 : ∀ ob, ((w5.alloc (.cells #[.int .i64 p, .int .i64 q, .int .i64 d] 32 (0, 0))).alloc ob).cell? ⟨w5.heap.size, 1, none⟩ = some (.int .i64 q) := fun ob => cell_alloc (by simp [go_sem]) ob
                  have b2 : ∀ ob, ((w5.alloc (.cells #[.int .i64 p, .int .i64 q, .int .i64 d] 32 (0, 0))).alloc ob).cell? ⟨w5.heap.size, 2, none⟩ = some (.int .i64 d) := fun ob => cell_alloc (by simp [go_sem]) ob
                  clear hb5 t2 u0 u1 u2 u3 u4 u5 u6
                  simp only []
                  by_cases hb : zb = 0
                  · have hall := HALL.out hb
                    injection hall with hp hq hd
                    subst hb hp hq hd
                    go_wp2_with fail
                    refine ⟨⟨k + 1, by first | rfl | (simp; done) | (rw [HWN.out]; done), by first | rfl | (simp; done) | (rw [HWK.out]; done), ⟨hk⟩, ⟨by repeat (first | exact HB5.out | apply below_alloc)⟩⟩, by simp only [intOf]; omega⟩
                  · have hbd : decide (zb = 0) = false := decide_eq_false hb
                    have hbe : (zb == 0) = false := by simpa using hb
                    go_wp2_with fail
                    refine ⟨⟨k + 1, by first | rfl | (simp; done) | (rw [HWN.out]; done), by first | rfl | (simp; done) | (rw [HWK.out]; done), ⟨hk⟩, ⟨by repeat (first | exact HB5.out | apply below_alloc)⟩⟩, by simp only [intOf]; omega⟩
                · have hkn : k = x.f1.f1.length := by have := HK.out; omega
                  have hkI : ¬ ((k : Int) < (x.f1.f1.length : Int)) := by omega
                  go_wp2_with fail
                  refine ⟨⟨a + 1, by rw [HSC.out, hkn], by first | rfl | (simp; done) | (rw [HWA.out]; done), ⟨ha⟩, HBZ⟩, by simp only [intOf]; omega⟩
            · have han : a = ls.length := by have := HA.out; omega
              have haI : ¬ ((a : Int) < (ls.length : Int)) := by omega
              have hle : ((cnt ls : Nat) : Int) ≤ 400 := by have := HN.out; omega
              have hle2 : ¬ ((400 : Int) < ((cnt ls : Nat) : Int)) := by omega
              have hle3 : ((cnt (ls.take a) : Nat) : Int) ≤ 400 := by have := HCA.out; omega
              go_wp2_with fail
              refine (lives_calls _).mono ?_
              intro e w9 h9
              obtain ⟨h9, hb9⟩ := h9
              subst h9
              have HB9 : Aside0 (Below W.heap.size W w9) := ⟨(HBW.out.trans (HBX.out.mono HBW.out.size)).trans (hb9.mono (HBW.out.trans (HBX.out.mono HBW.out.size)).size)⟩
              clear hb9
              simp only []
              go_wp2_with fail
              go_ret
              exact ⟨rfl, HB9.out⟩
    · have ht : t = [] := by
        rcases HG.out with ⟨_, h⟩ | ⟨h, _⟩
        · exact h
        · exact absurd h he
      subst ht
      have hed : decide (er = 0) = false := decide_eq_false he
      have hee : (er == 0) = false := by simpa using he
      go_wp2_with fail
      refine (lives_calls _).mono ?_
      intro e w9 h9
      obtain ⟨h9, hb9⟩ := h9
      subst h9
      have HB9 : Aside0 (Below W.heap.size W w9) := ⟨HB2.out.trans (hb9.mono HB2.out.size)⟩
      clear hb9
      simp only []
      go_wp2_with fail
      go_ret
      exact ⟨rfl, HB9.out⟩
end Go.Proofs.Ytchkjfokoenlnaa.Sym
