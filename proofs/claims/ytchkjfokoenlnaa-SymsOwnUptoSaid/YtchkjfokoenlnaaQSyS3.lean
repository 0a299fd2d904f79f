/- The linker's own names of a compartment, by contract: the document's Own answers ownS, too. Condition: sizes within the bulk. -/
import Derived.Test.YtchkjfokoenlnaaQSyS2
namespace Go.Proofs.Ytchkjfokoenlnaa.Sym
open Go.RowKit Go.Proofs.YtchkjfokoenlnaaW.PrintWords Go.Proofs.YtchkjfokoenlnaaW.PrintLast Go.Proofs.Ytchkjfokoenlnaa.QSy
set_option linter.unusedVariables false
set_option linter.unusedSimpArgs false
set_option maxRecDepth 100000 in
set_option maxHeartbeats 16000000 in
theorem own_ref (s t st : Int) (m : ByteArray) (Ah : Option Addr) (ch : Nat) (hs : List S89) (Ac : Option Addr) (cc : Nat) (cs : List S78) (c : Int) (w : World) (hrh : Kd.C k89 w Ah hs.length hs) (hrc : Kd.C k78 w Ac cs.length cs) (hz : 0 ≤ c → c < cs.length → OwnOk cs hs (rd_T78 cs c)) :
    Calls Try.prog 18 #[.agg #[.int .i64 s, .int .i64 t, .slice Ah hs.length ch, .slice Ac cs.length cc, .int .i64 st, .string m], .int .i64 c] w fun e w' => ∃ v, e = .returned v ∧ Kd.R Kd.string 9 w' w.heap.size (fun _ => True) v (ownS cs hs c) ∧ Below w.heap.size w w' := by
  have HRH := Aside0.mk hrh
  have HRC := Aside0.mk hrc
  obtain ⟨L, hL⟩ : ∃ L, ownS cs hs c = L := ⟨_, rfl⟩
  rw [hL]
  have HL := Aside0.mk hL
  clear hrh hrc hL
  by_cases h0 : c < 0
  · have hd : decide (c < 0) = true := decide_eq_true h0
    clear hz
    go_enter Try.func18, Try.ntmps18
    go_wp2
    go_ret
    exact ⟨_, rfl, by rw [← HL.out]; unfold ownS; rw [if_pos (.inl h0)]; exact Kd.R_nil _ _ _ _ _, below_alloc (Below.refl _ _) _⟩
  · have hd : decide (c < 0) = false := decide_eq_false h0
    by_cases h1 : (cs.length : Int) ≤ c
    · clear hz
      go_enter Try.func18, Try.ntmps18
      go_wp2
      go_ret
      exact ⟨_, rfl, by rw [← HL.out]; unfold ownS; rw [if_pos (.inr h1)]; exact Kd.R_nil _ _ _ _ _, below_alloc (Below.refl _ _) _⟩
    · obtain ⟨ad, A1, c1, A2, c2, A3, c3, A4, c4, A5, c5, rfl, k0, k1, k2, k3, k4, k5, l1, g1, l2, g2, l3, g3, l4, g4, l5, g5⟩ := at_T78 HRC.out c (by omega) (by omega)
      have HOK := Aside0.mk (hz (by omega) (by omega))
      have HLE : Aside0 (L = own3 cs hs (rd_T78 cs c) (rd_T78 cs c).f5.length) := ⟨by rw [← HL.out]; unfold ownS; rw [if_neg (by omega)]⟩
      obtain ⟨x, hx⟩ : ∃ x, rd_T78 cs c = x := ⟨_, rfl⟩
      rw [hx] at k0 k1 k2 k3 k4 k5 g3 g4 g5 HOK HLE
      have G3 := Aside0.mk g3
      have G4 := Aside0.mk g4
      have G5 := Aside0.mk g5
      have hl : cs.length ≤ 9223372036854775807 := HRC.out.2.1
      have hl3 : x.f3.length ≤ 1048576 := by have := HOK.out.l; omega
      have hl4 : x.f4.length ≤ 1048576 := by have := HOK.out.l; omega
      have hl5 : x.f5.length ≤ 1048576 := by have := HOK.out.l; omega
      have h0p : 0 ≤ c := by omega
      have h1p : c < cs.length := by omega
      clear hz hx HL l1 g1 l2 g2 l3 g3 l4 g4 l5 g5
      go_enter Try.func18, Try.ntmps18
      go_upto_region 4 with fail
      generalize hW0 : w.alloc (oP s t st m Ah (some ad) hs.length ch cs.length cc) = w0
      have HP : Aside0 (w0.heap[w.heap.size]? = some (oP s t st m Ah (some ad) hs.length ch cs.length cc)) := ⟨by rw [← hW0]; exact heap_alloc_new _ _⟩
      have HS0 : Aside0 (w0.heap.size = w.heap.size + 1) := ⟨by rw [← hW0]; exact World.size_alloc _ _⟩
      have HB0 : Aside0 (Below w.heap.size w w0) := ⟨by rw [← hW0]; exact below_alloc (Below.refl _ _) _⟩
      generalize hWA : w0.alloc (.cells #[.string ⟨#[115, 119, 105, 116, 99, 104]⟩] 9 (0, 0)) = wa
      have HWA : Aside0 (wa = w0.alloc (.cells #[.string wSw] 9 (0, 0))) := ⟨hWA.symm⟩
      have HBA : Aside0 (Below w.heap.size w wa) := ⟨by rw [← hWA]; exact below_alloc HB0.out _⟩
      have k0' := pw_cell_below HBA.out k0
      have k1' := pw_cell_below HBA.out k1
      have k2' := pw_cell_below HBA.out k2
      have k3' := pw_cell_below HBA.out k3
      have k4' := pw_cell_below HBA.out k4
      have k5' := pw_cell_below HBA.out k5
      have p3 : wa.cell? ⟨w.heap.size, 3, none⟩ = some (.slice (some ad) cs.length cc) := by
        rw [← hWA]; exact cell_al (blk_cell HP.out 3) _
      clear hW0 hWA k0 k1 k2 k3 k4 k5
      go_wp2_with fail
      have KS0 := start_own (xc := #[.string x.f0, .slice A1 x.f1.length c1, .slice A2 x.f2.length c2, .slice A3 x.f3.length c3, .slice A4 x.f4.length c4, .slice A5 x.f5.length c5]) HWA.out cs x
      obtain ⟨xc, hxc⟩ : ∃ xc : Array Value, #[.string x.f0, .slice A1 x.f1.length c1, .slice A2 x.f2.length c2, .slice A3 x.f3.length c3, .slice A4 x.f4.length c4, .slice A5 x.f5.length c5] = xc := ⟨_, rfl⟩
      have HX3 : Aside0 (xc[3]? = some (.slice A3 x.f3.length c3)) := ⟨by rw [← hxc]; rfl⟩
      have HX4 : Aside0 (xc[4]? = some (.slice A4 x.f4.length c4)) := ⟨by rw [← hxc]; rfl⟩
      have HX5 : Aside0 (xc[5]? = some (.slice A5 x.f5.length c5)) := ⟨by rw [← hxc]; rfl⟩
      rw [hxc] at KS0
      have KS := Aside0.mk KS0
      have HXC := Aside0.mk hxc
      clear KS0 hxc
      clear k0' k1' k2' k3' k4' k5' p3
      go_loopw [5, 7] (fun v5 v7 wr => ∃ j : Nat, v7 = .int .i64 j ∧ Aside0 (j ≤ x.f3.length) ∧ Aside0 (KeepO w0 wr wa.heap.size xc v5 (own1 cs x j))) (fun _ v7 _ => x.f3.length - (intOf v7).toNat)
      case atStart => exact ⟨0, rfl, ⟨Nat.zero_le _⟩, ⟨by have h := KS.out; rw [HS0.out, ← HXC.out] at h; rw [← HXC.out]; exact h⟩⟩
      case round =>
        obtain ⟨wl, rfl⟩ : ∃ q, q = wr := ⟨_, rfl⟩
        obtain ⟨j, rfl, HJ, HK⟩ := hrel
        have xf : wl.cell? ⟨wa.heap.size, 3, none⟩ = some (.slice A3 x.f3.length c3) := by rw [blk_cell HK.out.x 3, HX3.out]
        by_cases hj : j < x.f3.length
        · have hwk : wrap64 ((j : Int) + 1) = ((j + 1 : Nat) : Int) := by unfold wrap64; omega
          have HWK := Aside0.mk hwk
          have hjI : (j : Int) < ((x.f3.length : Nat) : Int) := by omega
          have hBW : Below w.heap.size w wl := HB0.out.trans (HK.out.below.mono (by have := HS0.out; omega))
          have HBW := Aside0.mk hBW
          obtain ⟨ae, rfl, e0, e1⟩ := at_T80 (Kd.C_below G3.out hBW) (j : Int) (by omega) hjI
          obtain ⟨y, hy⟩ : ∃ y, rd_T80 x.f3 (j : Int) = y := ⟨_, rfl⟩
          rw [hy] at e0 e1
          have HY := Aside0.mk hy
          rw [Int.toNat_natCast] at e0 e1
          obtain ⟨nm, hnm⟩ : ∃ nm, nameC cs y.f0 = nm := ⟨_, rfl⟩
          have hsz1 := HOK.out.c y.f0
          rw [hnm] at hsz1
          have HNM := Aside0.mk hnm
          have hsz2 : y.f1.size ≤ 140737488351232 := by rw [← hy]; exact HOK.out.i _
          have nq1 : ¬ (9223372036854775807 < 7 + nm.size) := by omega
          have nq2 : ¬ (9223372036854775807 < 7 + nm.size + 1) := by omega
          have nq3 : ¬ (9223372036854775807 < 7 + nm.size + 1 + y.f1.size) := by omega
          clear hsz2
          have bp : wl.cell? ⟨w.heap.size, 3, none⟩ = some (.slice (some ad) cs.length cc) := pw_cell_below HK.out.below (blk_cell HP.out 3)
          clear hBW hy
          by_cases hn0 : y.f0 < 0
          · have hnz : nm = ⟨#[]⟩ := by rw [← hnm]; unfold nameC; rw [if_pos (.inl hn0)]
            subst hnz
            have hg0 : ¬ (0 ≤ y.f0) := by omega
            have hd0 : decide (0 ≤ y.f0) = false := decide_eq_false hg0
            clear hnm
            clear hsz1
            go_upto_region 9 with fail
            go_quiet (fail)
            go_upto_region 11 with fail
            generalize hwq : World.drewN wl _ = wq
            have HK2 : Aside0 (KeepO w0 wq wa.heap.size xc u5 (own1 cs x j)) := ⟨by rw [← hwq]; exact HK.out.lower (by repeat (first | exact Below.refl _ _ | refine pw_below_drewN ?_ _))⟩
            have xq : wq.cell? ⟨wa.heap.size, 3, none⟩ = some (.slice (some ae) x.f3.length c3) := by rw [← hwq]; exact xf
            have eq1 : wq.cell? ⟨(ae.add (j * 2)).block, (ae.add (j * 2)).off + 1, none⟩ = some (.string y.f1) := by rw [← hwq]; exact e1
            clear xf bp e0 e1
            clear hwq
            go_wp2_with (first | ((with_reducible refine gate_builtin (b := .append) (xs := #[.tmp 64, .tmp 75]) rfl ?_); at_builtin; refine Kd.R_append Kd.string (w0 := w0) w0.heap.size rfl (.tmp 64) (.tmp 75) 23 9 (.string ⟨#[]⟩) 16 rfl Try.underlying23 info9s rfl (by decide) (by omega) u5 (own1 cs x j) ((((⟨#[105, 109, 112, 111, 114, 116, 46]⟩ : ByteArray) ++ (⟨#[]⟩ : ByteArray)) ++ (⟨#[46]⟩ : ByteArray)) ++ y.f1) [.string ((((⟨#[105, 109, 112, 111, 114, 116, 46]⟩ : ByteArray) ++ (⟨#[]⟩ : ByteArray)) ++ (⟨#[46]⟩ : ByteArray)) ++ y.f1)] (fun k => k ≠ wa.heap.size) (fun _ => False) rfl rfl ?aP (fun _ hk => hk.elim) ?aF ?aO ?aB ?aS ?aL ?_; (case aP => exact rfl); (case aB => exact HK2.out.below); (case aF => exact (fun k hk => by have := HK2.out.size; omega)); (case aO => exact HK2.out.row); (case aS => exact HK2.out.below.size); (case aL => have := own1_len cs x j; have := HOK.out.l; omega); intro v5 w9 ho hb hg hat; have HK9 : Aside0 (KeepO w0 w9 wa.heap.size xc v5 (own1 cs x j ++ [(((⟨#[105, 109, 112, 111, 114, 116, 46]⟩ : ByteArray) ++ (⟨#[]⟩ : ByteArray)) ++ (⟨#[46]⟩ : ByteArray)) ++ y.f1])) := ⟨HK2.out.app ho hb hg⟩; clear ho hb hg hat))
            refine ⟨⟨j + 1, by first | rfl | (simp; done) | (rw [HWK.out]; done), ⟨hj⟩, ⟨by rw [own1_succ cs x j hj, HY.out]; unfold impS; rw [HNM.out]; exact HK9.out⟩⟩, by simp only [intOf]; omega⟩
          · by_cases hn1 : ((cs.length : Nat) : Int) ≤ y.f0
            · have hnz : nm = ⟨#[]⟩ := by rw [← hnm]; unfold nameC; rw [if_pos (.inr hn1)]
              subst hnz
              have hg0 : 0 ≤ y.f0 := by omega
              have hg1 : ¬ (y.f0 < ((cs.length : Nat) : Int)) := by omega
              have hd1 : decide (y.f0 < ((cs.length : Nat) : Int)) = false := decide_eq_false hg1
              clear hnm hn0
              clear hsz1
              go_upto_region 9 with fail
              go_quiet (fail)
              go_upto_region 11 with fail
              generalize hwq : World.drewN wl _ = wq
              have HK2 : Aside0 (KeepO w0 wq wa.heap.size xc u5 (own1 cs x j)) := ⟨by rw [← hwq]; exact HK.out.lower (by repeat (first | exact Below.refl _ _ | refine pw_below_drewN ?_ _))⟩
              have xq : wq.cell? ⟨wa.heap.size, 3, none⟩ = some (.slice (some ae) x.f3.length c3) := by rw [← hwq]; exact xf
              have eq1 : wq.cell? ⟨(ae.add (j * 2)).block, (ae.add (j * 2)).off + 1, none⟩ = some (.string y.f1) := by rw [← hwq]; exact e1
              clear xf bp e0 e1
              clear hwq
              go_wp2_with (first | ((with_reducible refine gate_builtin (b := .append) (xs := #[.tmp 64, .tmp 75]) rfl ?_); at_builtin; refine Kd.R_append Kd.string (w0 := w0) w0.heap.size rfl (.tmp 64) (.tmp 75) 23 9 (.string ⟨#[]⟩) 16 rfl Try.underlying23 info9s rfl (by decide) (by omega) u5 (own1 cs x j) ((((⟨#[105, 109, 112, 111, 114, 116, 46]⟩ : ByteArray) ++ (⟨#[]⟩ : ByteArray)) ++ (⟨#[46]⟩ : ByteArray)) ++ y.f1) [.string ((((⟨#[105, 109, 112, 111, 114, 116, 46]⟩ : ByteArray) ++ (⟨#[]⟩ : ByteArray)) ++ (⟨#[46]⟩ : ByteArray)) ++ y.f1)] (fun k => k ≠ wa.heap.size) (fun _ => False) rfl rfl ?aP (fun _ hk => hk.elim) ?aF ?aO ?aB ?aS ?aL ?_; (case aP => exact rfl); (case aB => exact HK2.out.below); (case aF => exact (fun k hk => by have := HK2.out.size; omega)); (case aO => exact HK2.out.row); (case aS => exact HK2.out.below.size); (case aL => have := own1_len cs x j; have := HOK.out.l; omega); intro v5 w9 ho hb hg hat; have HK9 : Aside0 (KeepO w0 w9 wa.heap.size xc v5 (own1 cs x j ++ [(((⟨#[105, 109, 112, 111, 114, 116, 46]⟩ : ByteArray) ++ (⟨#[]⟩ : ByteArray)) ++ (⟨#[46]⟩ : ByteArray)) ++ y.f1])) := ⟨HK2.out.app ho hb hg⟩; clear ho hb hg hat))
              refine ⟨⟨j + 1, by first | rfl | (simp; done) | (rw [HWK.out]; done), ⟨hj⟩, ⟨by rw [own1_succ cs x j hj, HY.out]; unfold impS; rw [HNM.out]; exact HK9.out⟩⟩, by simp only [intOf]; omega⟩
            · have hg0 : 0 ≤ y.f0 := by omega
              have hg1 : y.f0 < ((cs.length : Nat) : Int) := by omega
              obtain ⟨am, B1, d1, B2, d2, B3, d3, B4, d4, B5, d5, hAm, m0, _⟩ := at_T78 (Kd.C_below HRC.out HBW.out) y.f0 hg0 hg1
              injection hAm with hAm
              subst hAm
              have hv : (rd_T78 cs y.f0).f0 = nm := by rw [← hnm]; unfold nameC; rw [if_neg (by omega)]
              rw [hv] at m0
              clear hv
              clear hnm hn0 hn1
              clear hsz1
              go_upto_region 9 with fail
              go_quiet (fail)
              go_upto_region 10 with fail
              go_quiet (fail)
              go_upto_region 11 with fail
              generalize hwq : World.drewN (World.drewN wl _) _ = wq
              have HK2 : Aside0 (KeepO w0 wq wa.heap.size xc u5 (own1 cs x j)) := ⟨by rw [← hwq]; exact HK.out.lower (by repeat (first | exact Below.refl _ _ | refine pw_below_drewN ?_ _))⟩
              have xq : wq.cell? ⟨wa.heap.size, 3, none⟩ = some (.slice (some ae) x.f3.length c3) := by rw [← hwq]; exact xf
              have eq1 : wq.cell? ⟨(ae.add (j * 2)).block, (ae.add (j * 2)).off + 1, none⟩ = some (.string y.f1) := by rw [← hwq]; exact e1
              clear xf bp e0 e1
              clear hwq
              go_wp2_with (first | ((with_reducible refine gate_builtin (b := .append) (xs := #[.tmp 64, .tmp 75]) rfl ?_); at_builtin; refine Kd.R_append Kd.string (w0 := w0) w0.heap.size rfl (.tmp 64) (.tmp 75) 23 9 (.string ⟨#[]⟩) 16 rfl Try.underlying23 info9s rfl (by decide) (by omega) u5 (own1 cs x j) ((((⟨#[105, 109, 112, 111, 114, 116, 46]⟩ : ByteArray) ++ nm) ++ (⟨#[46]⟩ : ByteArray)) ++ y.f1) [.string ((((⟨#[105, 109, 112, 111, 114, 116, 46]⟩ : ByteArray) ++ nm) ++ (⟨#[46]⟩ : ByteArray)) ++ y.f1)] (fun k => k ≠ wa.heap.size) (fun _ => False) rfl rfl ?aP (fun _ hk => hk.elim) ?aF ?aO ?aB ?aS ?aL ?_; (case aP => exact rfl); (case aB => exact HK2.out.below); (case aF => exact (fun k hk => by have := HK2.out.size; omega)); (case aO => exact HK2.out.row); (case aS => exact HK2.out.below.size); (case aL => have := own1_len cs x j; have := HOK.out.l; omega); intro v5 w9 ho hb hg hat; have HK9 : Aside0 (KeepO w0 w9 wa.heap.size xc v5 (own1 cs x j ++ [(((⟨#[105, 109, 112, 111, 114, 116, 46]⟩ : ByteArray) ++ nm) ++ (⟨#[46]⟩ : ByteArray)) ++ y.f1])) := ⟨HK2.out.app ho hb hg⟩; clear ho hb hg hat))
              refine ⟨⟨j + 1, by first | rfl | (simp; done) | (rw [HWK.out]; done), ⟨hj⟩, ⟨by rw [own1_succ cs x j hj, HY.out]; unfold impS; rw [HNM.out]; exact HK9.out⟩⟩, by simp only [intOf]; omega⟩
        · have hjn : j = x.f3.length := by have := HJ.out; omega
          subst hjn
          have HK0 : Aside0 (KeepO w0 wl wa.heap.size xc u5 (own2 cs x 0)) := ⟨by rw [own2_zero]; exact HK.out⟩
          go_wp2_with fail
          clear xf
          go_loopw [5, 9] (fun v5 v9 wr => ∃ j : Nat, v9 = .int .i64 j ∧ Aside0 (j ≤ x.f4.length) ∧ Aside0 (KeepO w0 wr wa.heap.size xc v5 (own2 cs x j))) (fun _ v9 _ => x.f4.length - (intOf v9).toNat)
          case atStart => exact ⟨0, rfl, ⟨Nat.zero_le _⟩, HK0⟩
          case round =>
            obtain ⟨wl, rfl⟩ : ∃ q, q = wr := ⟨_, rfl⟩
            obtain ⟨j, rfl, HJ, HK⟩ := hrel
            have xf : wl.cell? ⟨wa.heap.size, 4, none⟩ = some (.slice A4 x.f4.length c4) := by rw [blk_cell HK.out.x 4, HX4.out]
            by_cases hj : j < x.f4.length
            · have hwk : wrap64 ((j : Int) + 1) = ((j + 1 : Nat) : Int) := by unfold wrap64; omega
              have HWK := Aside0.mk hwk
              have hjI : (j : Int) < ((x.f4.length : Nat) : Int) := by omega
              have hBW : Below w.heap.size w wl := HB0.out.trans (HK.out.below.mono (by have := HS0.out; omega))
              have HBW := Aside0.mk hBW
              obtain ⟨ae, rfl, e0, e1, e2⟩ := at_T84 (Kd.C_below G4.out hBW) (j : Int) (by omega) hjI
              obtain ⟨y, hy⟩ : ∃ y, rd_T84 x.f4 (j : Int) = y := ⟨_, rfl⟩
              rw [hy] at e0 e1 e2
              have HY := Aside0.mk hy
              rw [Int.toNat_natCast] at e0 e1 e2
              have hsz2 : y.f0.size ≤ 140737488351232 := by rw [← hy]; exact HOK.out.d _
              have nq1 : ¬ (9223372036854775807 < 7 + y.f0.size) := by omega
              clear hBW hy hsz2
              have HK2 : Aside0 (KeepO w0 wl wa.heap.size xc u5 (own2 cs x j)) := HK
              go_wp2_with (first | ((with_reducible refine gate_builtin (b := .append) (xs := #[.tmp 84, .tmp 92]) rfl ?_); at_builtin; refine Kd.R_append Kd.string (w0 := w0) w0.heap.size rfl (.tmp 84) (.tmp 92) 23 9 (.string ⟨#[]⟩) 16 rfl Try.underlying23 info9s rfl (by decide) (by omega) u5 (own2 cs x j) ((⟨#[100, 101, 118, 105, 99, 101, 46]⟩ : ByteArray) ++ y.f0) [.string ((⟨#[100, 101, 118, 105, 99, 101, 46]⟩ : ByteArray) ++ y.f0)] (fun k => k ≠ wa.heap.size) (fun _ => False) rfl rfl ?aP (fun _ hk => hk.elim) ?aF ?aO ?aB ?aS ?aL ?_; (case aP => exact rfl); (case aB => exact HK2.out.below); (case aF => exact (fun k hk => by have := HK2.out.size; omega)); (case aO => exact HK2.out.row); (case aS => exact HK2.out.below.size); (case aL => have := own2_len cs x j; have := HOK.out.l; omega); intro v5 w9 ho hb hg hat; have HK9 : Aside0 (KeepO w0 w9 wa.heap.size xc v5 (own2 cs x j ++ [(⟨#[100, 101, 118, 105, 99, 101, 46]⟩ : ByteArray) ++ y.f0])) := ⟨HK2.out.app ho hb hg⟩; clear ho hb hg hat))
              refine ⟨⟨j + 1, by first | rfl | (simp; done) | (rw [HWK.out]; done), ⟨hj⟩, ⟨by rw [own2_succ cs x j hj, HY.out]; unfold devS; exact HK9.out⟩⟩, by simp only [intOf]; omega⟩
            · have hjn : j = x.f4.length := by have := HJ.out; omega
              subst hjn
              clear HK0
              have HK0 : Aside0 (KeepO w0 wl wa.heap.size xc u5 (own3 cs hs x 0)) := ⟨by rw [own3_zero]; exact HK.out⟩
              go_wp2_with fail
              clear xf
              go_loopw [5, 10] (fun v5 v10 wr => ∃ j : Nat, v10 = .int .i64 j ∧ Aside0 (j ≤ x.f5.length) ∧ Aside0 (KeepO w0 wr wa.heap.size xc v5 (own3 cs hs x j))) (fun _ v10 _ => x.f5.length - (intOf v10).toNat)
              case atStart => exact ⟨0, rfl, ⟨Nat.zero_le _⟩, HK0⟩
              case round =>
                obtain ⟨wl, rfl⟩ : ∃ q, q = wr := ⟨_, rfl⟩
                obtain ⟨j, rfl, HJ, HK⟩ := hrel
                have xf : wl.cell? ⟨wa.heap.size, 5, none⟩ = some (.slice A5 x.f5.length c5) := by rw [blk_cell HK.out.x 5, HX5.out]
                by_cases hj : j < x.f5.length
                · have hwk : wrap64 ((j : Int) + 1) = ((j + 1 : Nat) : Int) := by unfold wrap64; omega
                  have HWK := Aside0.mk hwk
                  have hjI : (j : Int) < ((x.f5.length : Nat) : Int) := by omega
                  have hBW : Below w.heap.size w wl := HB0.out.trans (HK.out.below.mono (by have := HS0.out; omega))
                  have HBW := Aside0.mk hBW
                  obtain ⟨ae, rfl, e0, e1⟩ := at_T86 (Kd.C_below G5.out hBW) (j : Int) (by omega) hjI
                  obtain ⟨y, hy⟩ : ∃ y, rd_T86 x.f5 (j : Int) = y := ⟨_, rfl⟩
                  rw [hy] at e0 e1
                  have HY := Aside0.mk hy
                  rw [Int.toNat_natCast] at e0 e1
                  obtain ⟨nm, hnm⟩ : ∃ nm, nameH hs y.f0 = nm := ⟨_, rfl⟩
                  have hsz1 := HOK.out.h y.f0
                  rw [hnm] at hsz1
                  have HNM := Aside0.mk hnm
                  have nq1 : ¬ (9223372036854775807 < 6 + nm.size) := by omega
                  have bp : wl.cell? ⟨w.heap.size, 2, none⟩ = some (.slice Ah hs.length ch) := pw_cell_below HK.out.below (blk_cell HP.out 2)
                  clear hBW hy
                  by_cases hn0 : y.f0 < 0
                  · have hnz : nm = ⟨#[]⟩ := by rw [← hnm]; unfold nameH; rw [if_pos (.inl hn0)]
                    subst hnz
                    have hg0 : ¬ (0 ≤ y.f0) := by omega
                    have hd0 : decide (0 ≤ y.f0) = false := decide_eq_false hg0
                    clear hnm
                    clear hsz1
                    go_upto_region 20 with fail
                    go_quiet (fail)
                    go_upto_region 22 with fail
                    generalize hwq : World.drewN wl _ = wq
                    have HK2 : Aside0 (KeepO w0 wq wa.heap.size xc u5 (own3 cs hs x j)) := ⟨by rw [← hwq]; exact HK.out.lower (by repeat (first | exact Below.refl _ _ | refine pw_below_drewN ?_ _))⟩
                    clear xf bp e0 e1
                    clear hwq
                    go_wp2_with (first | ((with_reducible refine gate_builtin (b := .append) (xs := #[.tmp 131, .tmp 134]) rfl ?_); at_builtin; refine Kd.R_append Kd.string (w0 := w0) w0.heap.size rfl (.tmp 131) (.tmp 134) 23 9 (.string ⟨#[]⟩) 16 rfl Try.underlying23 info9s rfl (by decide) (by omega) u5 (own3 cs hs x j) ((⟨#[115, 104, 97, 114, 101, 46]⟩ : ByteArray) ++ (⟨#[]⟩ : ByteArray)) [.string ((⟨#[115, 104, 97, 114, 101, 46]⟩ : ByteArray) ++ (⟨#[]⟩ : ByteArray))] (fun k => k ≠ wa.heap.size) (fun _ => False) rfl rfl ?aP (fun _ hk => hk.elim) ?aF ?aO ?aB ?aS ?aL ?_; (case aP => exact rfl); (case aB => exact HK2.out.below); (case aF => exact (fun k hk => by have := HK2.out.size; omega)); (case aO => exact HK2.out.row); (case aS => exact HK2.out.below.size); (case aL => have := own3_len cs hs x j; have := HOK.out.l; omega); intro v5 w9 ho hb hg hat; have HK9 : Aside0 (KeepO w0 w9 wa.heap.size xc v5 (own3 cs hs x j ++ [(⟨#[115, 104, 97, 114, 101, 46]⟩ : ByteArray) ++ (⟨#[]⟩ : ByteArray)])) := ⟨HK2.out.app ho hb hg⟩; clear ho hb hg hat))
                    refine ⟨⟨j + 1, by first | rfl | (simp; done) | (rw [HWK.out]; done), ⟨hj⟩, ⟨by rw [own3_succ cs hs x j hj, HY.out]; unfold givS; rw [HNM.out]; exact HK9.out⟩⟩, by simp only [intOf]; omega⟩
                  · by_cases hn1 : ((hs.length : Nat) : Int) ≤ y.f0
                    · have hnz : nm = ⟨#[]⟩ := by rw [← hnm]; unfold nameH; rw [if_pos (.inr hn1)]
                      subst hnz
                      have hg0 : 0 ≤ y.f0 := by omega
                      have hg1 : ¬ (y.f0 < ((hs.length : Nat) : Int)) := by omega
                      have hd1 : decide (y.f0 < ((hs.length : Nat) : Int)) = false := decide_eq_false hg1
                      clear hnm hn0
                      clear hsz1
                      go_upto_region 20 with fail
                      go_quiet (fail)
                      go_upto_region 22 with fail
                      generalize hwq : World.drewN wl _ = wq
                      have HK2 : Aside0 (KeepO w0 wq wa.heap.size xc u5 (own3 cs hs x j)) := ⟨by rw [← hwq]; exact HK.out.lower (by repeat (first | exact Below.refl _ _ | refine pw_below_drewN ?_ _))⟩
                      clear xf bp e0 e1
                      clear hwq
                      go_wp2_with (first | ((with_reducible refine gate_builtin (b := .append) (xs := #[.tmp 131, .tmp 134]) rfl ?_); at_builtin; refine Kd.R_append Kd.string (w0 := w0) w0.heap.size rfl (.tmp 131) (.tmp 134) 23 9 (.string ⟨#[]⟩) 16 rfl Try.underlying23 info9s rfl (by decide) (by omega) u5 (own3 cs hs x j) ((⟨#[115, 104, 97, 114, 101, 46]⟩ : ByteArray) ++ (⟨#[]⟩ : ByteArray)) [.string ((⟨#[115, 104, 97, 114, 101, 46]⟩ : ByteArray) ++ (⟨#[]⟩ : ByteArray))] (fun k => k ≠ wa.heap.size) (fun _ => False) rfl rfl ?aP (fun _ hk => hk.elim) ?aF ?aO ?aB ?aS ?aL ?_; (case aP => exact rfl); (case aB => exact HK2.out.below); (case aF => exact (fun k hk => by have := HK2.out.size; omega)); (case aO => exact HK2.out.row); (case aS => exact HK2.out.below.size); (case aL => have := own3_len cs hs x j; have := HOK.out.l; omega); intro v5 w9 ho hb hg hat; have HK9 : Aside0 (KeepO w0 w9 wa.heap.size xc v5 (own3 cs hs x j ++ [(⟨#[115, 104, 97, 114, 101, 46]⟩ : ByteArray) ++ (⟨#[]⟩ : ByteArray)])) := ⟨HK2.out.app ho hb hg⟩; clear ho hb hg hat))
                      refine ⟨⟨j + 1, by first | rfl | (simp; done) | (rw [HWK.out]; done), ⟨hj⟩, ⟨by rw [own3_succ cs hs x j hj, HY.out]; unfold givS; rw [HNM.out]; exact HK9.out⟩⟩, by simp only [intOf]; omega⟩
                    · have hg0 : 0 ≤ y.f0 := by omega
                      have hg1 : y.f0 < ((hs.length : Nat) : Int) := by omega
                      obtain ⟨am, hAm, m0, _⟩ := at_T89 (Kd.C_below HRH.out HBW.out) y.f0 hg0 hg1
                      subst hAm
                      have hv : (rd_T89 hs y.f0).f0 = nm := by rw [← hnm]; unfold nameH; rw [if_neg (by omega)]
                      rw [hv] at m0
                      clear hv
                      clear hnm hn0 hn1
                      clear hsz1
                      go_upto_region 20 with fail
                      go_quiet (fail)
                      go_upto_region 21 with fail
                      go_quiet (fail)
                      go_upto_region 22 with fail
                      generalize hwq : World.drewN (World.drewN wl _) _ = wq
                      have HK2 : Aside0 (KeepO w0 wq wa.heap.size xc u5 (own3 cs hs x j)) := ⟨by rw [← hwq]; exact HK.out.lower (by repeat (first | exact Below.refl _ _ | refine pw_below_drewN ?_ _))⟩
                      clear xf bp e0 e1
                      clear hwq
                      go_wp2_with (first | ((with_reducible refine gate_builtin (b := .append) (xs := #[.tmp 131, .tmp 134]) rfl ?_); at_builtin; refine Kd.R_append Kd.string (w0 := w0) w0.heap.size rfl (.tmp 131) (.tmp 134) 23 9 (.string ⟨#[]⟩) 16 rfl Try.underlying23 info9s rfl (by decide) (by omega) u5 (own3 cs hs x j) ((⟨#[115, 104, 97, 114, 101, 46]⟩ : ByteArray) ++ nm) [.string ((⟨#[115, 104, 97, 114, 101, 46]⟩ : ByteArray) ++ nm)] (fun k => k ≠ wa.heap.size) (fun _ => False) rfl rfl ?aP (fun _ hk => hk.elim) ?aF ?aO ?aB ?aS ?aL ?_; (case aP => exact rfl); (case aB => exact HK2.out.below); (case aF => exact (fun k hk => by have := HK2.out.size; omega)); (case aO => exact HK2.out.row); (case aS => exact HK2.out.below.size); (case aL => have := own3_len cs hs x j; have := HOK.out.l; omega); intro v5 w9 ho hb hg hat; have HK9 : Aside0 (KeepO w0 w9 wa.heap.size xc v5 (own3 cs hs x j ++ [(⟨#[115, 104, 97, 114, 101, 46]⟩ : ByteArray) ++ nm])) := ⟨HK2.out.app ho hb hg⟩; clear ho hb hg hat))
                      refine ⟨⟨j + 1, by first | rfl | (simp; done) | (rw [HWK.out]; done), ⟨hj⟩, ⟨by rw [own3_succ cs hs x j hj, HY.out]; unfold givS; rw [HNM.out]; exact HK9.out⟩⟩, by simp only [intOf]; omega⟩
                · have hjn : j = x.f5.length := by have := HJ.out; omega
                  subst hjn
                  go_wp2_with fail
                  go_ret
                  refine ⟨_, rfl, ?_, HB0.out.trans (HK.out.below.mono (by have := HS0.out; omega))⟩
                  rw [HLE.out]
                  exact Kd.R_lower (Kd.R_mono HK.out.row (fun _ _ => trivial)) (by have := HS0.out; omega)
end Go.Proofs.Ytchkjfokoenlnaa.Sym
