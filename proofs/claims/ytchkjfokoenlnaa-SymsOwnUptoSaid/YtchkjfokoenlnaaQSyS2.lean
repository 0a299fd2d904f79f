/- The linker's own names of a compartment, by contract: syms.Own answers ownS. Condition: sizes within the bulk. -/
import Derived.Test.YtchkjfokoenlnaaQSyS

import Derived.Deep.RegionHeld3
namespace Go.Proofs.Ytchkjfokoenlnaa.Sym
open Go.RowKit Go.Proofs.YtchkjfokoenlnaaW.PrintWords Go.Proofs.YtchkjfokoenlnaaW.PrintLast Go.Proofs.Ytchkjfokoenlnaa.QSy
set_option linter.unusedVariables false
set_option linter.unusedSimpArgs false
theorem info9s : (Try.prog.info? 9).map (fun i => (i.zero, i.size, i.bytes)) = some (some (.string ⟨#[]⟩), 1, 16) := by kernel_rfl
theorem row_one {W : World} {base g : Nat} {ok : Nat → Prop} {s : ByteArray} (h : W.heap[g]? = some (.cells #[.string s] 9 (0, 0))) (hb : base ≤ g) (hok : ok g) : Kd.R Kd.string 9 W base ok (.slice (some ⟨g, 0, none⟩) 1 1) [s] :=
  Kd.R_of_own ⟨rfl, .inr ⟨g, 1, _, rfl, hb, h, Nat.le_refl _, by decide, rfl, rfl⟩⟩ (fun k hk => by
    have e : g = k := by simpa [Value.ownBlock] using hk
    subst e
    exact hok)
abbrev oP (s t st : Int) (m : ByteArray) (Ah Ac : Option Addr) (nh ch nc cc : Nat) : Obj := .cells #[.int .i64 s, .int .i64 t, .slice Ah nh ch, .slice Ac nc cc, .int .i64 st, .string m] 53 (0, 0)
theorem start_own {w0 wa : World} {xc : Array Value} (hwa : wa = w0.alloc (.cells #[.string wSw] 9 (0, 0))) (cs : List S78) (x : S78) :
    KeepO w0 (wa.alloc (.cells xc 78 (0, 0))) wa.heap.size xc (.slice (some ⟨w0.heap.size, 0, none⟩) 1 1) (own1 cs x 0) := by
  subst hwa
  refine ⟨((Below.refl _ _).alloc (Nat.le_refl _) _).alloc (by simp only [World.size_alloc]; omega) _, heap_alloc_new _ _, ?_⟩
  have e : own1 cs x 0 = [wSw] := rfl
  rw [e]
  refine Kd.R_alloc (row_one (heap_alloc_new w0 _) (Nat.le_refl _) ?_) _
  rw [World.size_alloc]; omega
def T17_8 : Bool × List (List Nat × List Nat) := (true, [([], []), ([], []), ([1], [1]), ([], []), ([3], [3]), ([2, 4], [2, 4]), ([5], [5]), ([6], [6]), ([], []), ([8], [8]), ([7, 9], [7, 9]), ([10], [10]), ([0, 11, 5], [0, 11]), ([12, 12, 0, 1, 2, 3, 4, 5, 6, 7, 8, 9, 10, 11, 12], [0, 12])])
theorem tab17_8 : rtab .any (opsOf Try.f17 8) = T17_8 := by kernel_rfl
def B17_8 : List Nat := [0, 0, 2, 0, 8, 30, 62, 126, 0, 256, 1022, 2046, 4095, 8191]
theorem bits17_8 : waitsOk T17_8.2 B17_8 = true := by kernel_rfl
set_option maxRecDepth 100000 in
set_option maxHeartbeats 16000000 in
theorem own_calls (s t st : Int) (m : ByteArray) (Ah : Option Addr) (ch : Nat) (hs : List S89) (Ac : Option Addr) (cc : Nat) (cs : List S78) (c : Int) (w : World) (hrh : Kd.C k89 w Ah hs.length hs) (hrc : Kd.C k78 w Ac cs.length cs) (hz : 0 ≤ c → c < cs.length → OwnOk cs hs (rd_T78 cs c)) :
    Calls Try.prog 17 #[.agg #[.int .i64 s, .int .i64 t, .slice Ah hs.length ch, .slice Ac cs.length cc, .int .i64 st, .string m], .int .i64 c] w fun e w' => ∃ v, e = .returned v ∧ Kd.R Kd.string 9 w' w.heap.size (fun _ => True) v (ownS cs hs c) ∧ Below w.heap.size w w' := by
  have HRH := Aside0.mk hrh
  have HRC := Aside0.mk hrc
  obtain ⟨L, hL⟩ : ∃ L, ownS cs hs c = L := ⟨_, rfl⟩
  rw [hL]
  have HL := Aside0.mk hL
  clear hrh hrc hL
  by_cases h0 : c < 0
  · have hd : decide (c < 0) = true := decide_eq_true h0
    clear hz
    go_enter Try.func17, Try.ntmps17
    go_wp2
    go_ret
    exact ⟨_, rfl, by rw [← HL.out]; unfold ownS; rw [if_pos (.inl h0)]; exact Kd.R_nil _ _ _ _ _, below_alloc (Below.refl _ _) _⟩
  · have hd : decide (c < 0) = false := decide_eq_false h0
    by_cases h1 : (cs.length : Int) ≤ c
    · clear hz
      go_enter Try.func17, Try.ntmps17
      go_wp2
      go_ret
      exact ⟨_, rfl, by rw [← HL.out]; unfold ownS; rw [if_pos (.inr h1)]; exact Kd.R_nil _ _ _ _ _, below_alloc (Below.refl _ _) _⟩
    · obtain ⟨ad, A1, c1, A2, c2, A3, c3, A4, c4, A5, c5, rfl, k0, k1, k2, k3, k4, k5, l1, g1, l2, g2, l3, g3, l4, g4, l5, g5⟩ := at_T78 HRC.out c (by omega) (by omega)
      have HOK := Aside0.mk (hz (by omega) (by omega))
      have HLE : Aside0 (L = own3 cs hs (rd_T78 cs c) (rd_T78 cs c).f5.length) := ⟨by rw [← HL.out]; unfold ownS; rw [if_neg (by omega)]⟩
      obtain ⟨x, hx⟩ : ∃ x, rd_T78 cs c = x := ⟨_, rfl⟩
      rw [hx] at k0 k1 k2 k3 k4 k5 g3 g4 g5 HOK HLE
      have G3 := Aside0.mk g3
      have G4 := Aside0.mk g4
      have G5 := Aside0.mk g5
      have hl : cs.length ≤ 9223372036854775807 := HRC.out.2.1
      have hl3 : x.f3.length ≤ 1048576 := by have := HOK.out.l; omega
      have hl4 : x.f4.length ≤ 1048576 := by have := HOK.out.l; omega
      have hl5 : x.f5.length ≤ 1048576 := by have := HOK.out.l; omega
      have h0p : 0 ≤ c := by omega
      have h1p : c < cs.length := by omega
      clear hz hx HL l1 g1 l2 g2 l3 g3 l4 g4 l5 g5
      go_enter Try.func17, Try.ntmps17
      go_upto_region 4 with fail
      generalize hW0 : w.alloc (oP s t st m Ah (some ad) hs.length ch cs.length cc) = w0
      have HP : Aside0 (w0.heap[w.heap.size]? = some (oP s t st m Ah (some ad) hs.length ch cs.length cc)) := ⟨by rw [← hW0]; exact heap_alloc_new _ _⟩
      have HS0 : Aside0 (w0.heap.size = w.heap.size + 1) := ⟨by rw [← hW0]; exact World.size_alloc _ _⟩
      have HB0 : Aside0 (Below w.heap.size w w0) := ⟨by rw [← hW0]; exact below_alloc (Below.refl _ _) _⟩
      generalize hWA : w0.alloc (.cells #[.string ⟨#[115, 119, 105, 116, 99, 104]⟩] 9 (0, 0)) = wa
      have HWA : Aside0 (wa = w0.alloc (.cells #[.string wSw] 9 (0, 0))) := ⟨hWA.symm⟩
      have HBA : Aside0 (Below w.heap.size w wa) := ⟨by rw [← hWA]; exact below_alloc HB0.out _⟩
      have k0' := pw_cell_below HBA.out k0
      have k1' := pw_cell_below HBA.out k1
      have k2' := pw_cell_below HBA.out k2
      have k3' := pw_cell_below HBA.out k3
      have k4' := pw_cell_below HBA.out k4
      have k5' := pw_cell_below HBA.out k5
      have p3 : wa.cell? ⟨w.heap.size, 3, none⟩ = some (.slice (some ad) cs.length cc) := by
        rw [← hWA]; exact cell_al (blk_cell HP.out 3) _
      clear hW0 hWA k0 k1 k2 k3 k4 k5
      go_wp2_with fail
      have KS0 := start_own (xc := #[.string x.f0, .slice A1 x.f1.length c1, .slice A2 x.f2.length c2, .slice A3 x.f3.length c3, .slice A4 x.f4.length c4, .slice A5 x.f5.length c5]) HWA.out cs x
      obtain ⟨xc, hxc⟩ : ∃ xc : Array Value, #[.string x.f0, .slice A1 x.f1.length c1, .slice A2 x.f2.length c2, .slice A3 x.f3.length c3, .slice A4 x.f4.length c4, .slice A5 x.f5.length c5] = xc := ⟨_, rfl⟩
      have HX4 : Aside0 (xc[4]? = some (.slice A4 x.f4.length c4)) := ⟨by rw [← hxc]; rfl⟩
      have HX5 : Aside0 (xc[5]? = some (.slice A5 x.f5.length c5)) := ⟨by rw [← hxc]; rfl⟩
      rw [hxc] at KS0
      have KS := Aside0.mk KS0
      have HXC := Aside0.mk hxc
      clear KS0 hxc
      clear k0' k1' k2' k3' k4' k5' p3
      --LOOPS
      go_loopw [5, 31] (fun v5 v31 wr => ∃ j : Nat, v31 = .int .i64 j ∧ Aside0 (j ≤ x.f3.length) ∧ Aside0 (KeepO w0 wr wa.heap.size xc v5 (own1 cs x j))) (fun _ v31 _ => x.f3.length - (intOf v31).toNat)
      case atStart => exact ⟨0, rfl, ⟨Nat.zero_le _⟩, ⟨by have h := KS.out; rw [HS0.out, ← HXC.out] at h; rw [← HXC.out]; exact h⟩⟩
      case round =>
        obtain ⟨wl, rfl⟩ : ∃ q, q = wr := ⟨_, rfl⟩
        obtain ⟨j, rfl, HJ, HK⟩ := hrel
        by_cases hj : j < x.f3.length
        · have hwk : wrap64 ((j : Int) + 1) = ((j + 1 : Nat) : Int) := by unfold wrap64; omega
          have HWK := Aside0.mk hwk
          have hjI : (j : Int) < ((x.f3.length : Nat) : Int) := by omega
          have hBW : Below w.heap.size w wl := HB0.out.trans (HK.out.below.mono (by have := HS0.out; omega))
          have HBW := Aside0.mk hBW
          obtain ⟨ae, rfl, e0, e1⟩ := at_T80 (Kd.C_below G3.out hBW) (j : Int) (by omega) hjI
          obtain ⟨y, hy⟩ : ∃ y, rd_T80 x.f3 (j : Int) = y := ⟨_, rfl⟩
          rw [hy] at e0 e1
          have HY := Aside0.mk hy
          rw [Int.toNat_natCast] at e0 e1
          have hsz1 := HOK.out.c y.f0
          have hsz2 : y.f1.size ≤ 140737488351232 := by rw [← hy]; exact HOK.out.i _
          obtain ⟨nm, hnm⟩ : ∃ nm, nameC cs y.f0 = nm := ⟨_, rfl⟩
          rw [hnm] at hsz1
          have HNM := Aside0.mk hnm
          have nq1 : ¬ (9223372036854775807 < 7 + nm.size) := by omega
          have nq2 : ¬ (9223372036854775807 < 7 + nm.size + 1) := by omega
          have nq3 : ¬ (9223372036854775807 < 7 + nm.size + 1 + y.f1.size) := by omega
          have q1 : 7 + nm.size ≤ 9223372036854775807 := by omega
          have q2 : 7 + nm.size + 1 ≤ 9223372036854775807 := by omega
          have q3 : 7 + nm.size + 1 + y.f1.size ≤ 9223372036854775807 := by omega
          clear hBW hy hnm hsz1 hsz2
          go_upto_region 8 with fail
          clear e0 e1
          generalize hwb : wl.alloc (.cells #[.int .i64 y.f0, .string y.f1] 80 (0, 0)) = wb
          have HKB : Aside0 (KeepO w0 wb wa.heap.size xc u5 (own1 cs x j)) := ⟨by rw [← hwb]; exact HK.out.lower (below_alloc (Below.refl _ _) _)⟩
          have b3 : wb.cell? ⟨w.heap.size, 3, none⟩ = some (.slice (some ad) cs.length cc) := pw_cell_below HKB.out.below (blk_cell HP.out 3)
          have b0 : wb.cell? ⟨wl.heap.size, 0, none⟩ = some (.int .i64 y.f0) := by rw [← hwb]; exact blk_cell (heap_alloc_new _ _) 0
          have b1 : wb.cell? ⟨wl.heap.size, 1, none⟩ = some (.string y.f1) := by rw [← hwb]; exact blk_cell (heap_alloc_new _ _) 1
          clear hwb
          refine start_ (n := 14) (S := fun w' => w'.cell? ⟨w.heap.size, 3, none⟩ = some (.slice (some ad) cs.length cc) ∧ w'.cell? ⟨wl.heap.size, 0, none⟩ = some (.int .i64 y.f0) ∧ w'.cell? ⟨wl.heap.size, 1, none⟩ = some (.string y.f1)) (ds := [11, 12, 13]) #[false, false, false, false, false, false, false, false, false, false, false, false, false, false] (by kernel_rfl) rfl rfl ⟨b3, b0, b1⟩ (fun hHeld => ?_)
          refine with_tabW tab17_8 bits17_8 (fun HT_ HW_ => ?_)
          have HKD : Aside0 (KeepO w0 wb.drew wa.heap.size xc u5 (own1 cs x j)) := ⟨HKB.out.lower (below_drew (Below.refl _ _))⟩
          clear HKB b3 b0 b1
          generalize wb.drew = wd at HKD hHeld ⊢
          refine pure_ (i := 0) (N := some 35) (v := ?_) (a' := ?_) #[true, false, false, false, false, false, false, false, false, false, false, false, false, false] rfl rfl (any_of HT_.out (by kernel_rfl)) (fun _ _ _ h => h) (Or.inl ⟨by rfl, ?_⟩) ?_ ?_
          rotate_left
          · intro w'
            go_simp
            with_reducible rfl
          rotate_left
          · skip
            simp only [Act.put, List.setIfInBounds_toArray, List.set_cons_zero, List.set_cons_succ, i64_w, i32_w]
            rfl
          refine pure_ (i := 1) (N := some 36) (v := ?_) (a' := ?_) #[true, true, false, false, false, false, false, false, false, false, false, false, false, false] rfl rfl (any_of HT_.out (by kernel_rfl)) (fun _ _ _ h => h) (Or.inl ⟨by rfl, ?_⟩) ?_ ?_
          rotate_left
          · intro w'
            go_simp
            with_reducible rfl
          rotate_left
          · skip
            simp only [Act.put, List.setIfInBounds_toArray, List.set_cons_zero, List.set_cons_succ, i64_w, i32_w]
            rfl
          refine take_ (i := 2) (N := some 37) (v := ?_) (a' := ?_) #[true, true, true, false, false, false, false, false, false, false, false, false, false, false] rfl rfl (take_ofW HT_.out HW_.out (by kernel_rfl)) (fun _ _ _ h => h) (Or.inl ⟨by rfl, ?_⟩) hHeld ?_ ?_
          rotate_left
          · rintro w' ⟨s0, s1, s2⟩
            go_simp
            with_reducible rfl
          rotate_left
          · skip
            simp only [Act.put, List.setIfInBounds_toArray, List.set_cons_zero, List.set_cons_succ, i64_w, i32_w]
            rfl
          refine pure_ (i := 3) (N := some 38) (v := ?_) (a' := ?_) #[true, true, true, true, false, false, false, false, false, false, false, false, false, false] rfl rfl (any_of HT_.out (by kernel_rfl)) (fun _ _ _ h => h) (Or.inl ⟨by rfl, ?_⟩) ?_ ?_
          rotate_left
          · intro w'
            go_simp
            with_reducible rfl
          rotate_left
          · skip
            simp only [Act.put, List.setIfInBounds_toArray, List.set_cons_zero, List.set_cons_succ, i64_w, i32_w]
            rfl
          refine take_ (i := 4) (N := some 39) (v := ?_) (a' := ?_) #[true, true, true, true, true, false, false, false, false, false, false, false, false, false] rfl rfl (take_ofW HT_.out HW_.out (by kernel_rfl)) (fun _ _ _ h => h) (Or.inl ⟨by rfl, ?_⟩) hHeld ?_ ?_
          rotate_left
          · rintro w' ⟨s0, s1, s2⟩
            go_simp
            with_reducible rfl
          rotate_left
          · skip
            simp only [Act.put, List.setIfInBounds_toArray, List.set_cons_zero, List.set_cons_succ, i64_w, i32_w]
            rfl
          refine pure_ (i := 8) (N := some 43) (v := ?_) (a' := ?_) #[true, true, true, true, true, false, false, false, true, false, false, false, false, false] rfl rfl (any_of HT_.out (by kernel_rfl)) (fun _ _ _ h => h) (Or.inl ⟨by rfl, ?_⟩) ?_ ?_
          rotate_left
          · intro w'
            go_simp
            with_reducible rfl
          rotate_left
          · skip
            simp only [Act.put, List.setIfInBounds_toArray, List.set_cons_zero, List.set_cons_succ, i64_w, i32_w]
            rfl
          refine take_ (i := 9) (N := some 44) (v := ?_) (a' := ?_) #[true, true, true, true, true, false, false, false, true, true, false, false, false, false] rfl rfl (take_ofW HT_.out HW_.out (by kernel_rfl)) (fun _ _ _ h => h) (Or.inl ⟨by rfl, ?_⟩) hHeld ?_ ?_
          rotate_left
          · rintro w' ⟨s0, s1, s2⟩
            go_simp
            with_reducible rfl
          rotate_left
          · skip
            simp only [Act.put, List.setIfInBounds_toArray, List.set_cons_zero, List.set_cons_succ, i64_w, i32_w]
            rfl
          refine one_ (i := 5) (N := some 40) #[true, true, true, true, true, true, false, false, true, true, false, false, false, false] rfl rfl (one_of HT_.out (by kernel_rfl)) (by decide) (fun K hK => ?_)
          refine goes_ Try.func28 (by kernel_rfl) rfl #[.slice (some ad) cs.length cc, .int .i64 y.f0, .func (.func 29) #[] #[]] (by rfl) rfl rfl (by (try simp only [List.map_toArray, List.map_cons, List.map_nil]); first | done | rfl) ?_
          refine (called78 (some ad) cc cs y.f0 wd (Kd.C_below HRC.out (HB0.out.trans (HKD.out.below.mono (by have := HS0.out; omega))))).mono ?_
          intro e w2 h2
          obtain ⟨h2, hb2⟩ := h2
          subst h2
          refine ⟨_, rfl, ?_⟩
          rw [HNM.out]
          refine hK.out _ _ (by obtain ⟨s0, s1, s2⟩ := hHeld; exact ⟨pw_cell_below hb2 s0, pw_cell_below hb2 s1, pw_cell_below hb2 s2⟩) (fun hS1 => ?_)
          clear hK K
          refine norm_ (a' := ?_) ?_ ?_
          rotate_left
          · show Act.put _ (some 40) _ = _
            simp only [Act.put, List.setIfInBounds_toArray, List.set_cons_zero, List.set_cons_succ, i64_w, i32_w]
            rfl
          have HK2 : Aside0 (KeepO w0 w2 wa.heap.size xc u5 (own1 cs x j)) := ⟨HKD.out.lower hb2⟩
          clear HKD hHeld hS1 hb2
          refine pure_ (i := 6) (N := some 41) (v := ?_) (a' := ?_) #[true, true, true, true, true, true, true, false, true, true, false, false, false, false] rfl rfl (any_of HT_.out (by kernel_rfl)) (fun _ _ _ h => h) (Or.inl ⟨by rfl, ?_⟩) ?_ ?_
          rotate_left
          · intro w'
            go_simp
            with_reducible rfl
          rotate_left
          · skip
            simp only [Act.put, List.setIfInBounds_toArray, List.set_cons_zero, List.set_cons_succ, i64_w, i32_w]
            rfl
          refine pure_ (i := 7) (N := some 42) (v := ?_) (a' := ?_) #[true, true, true, true, true, true, true, true, true, true, false, false, false, false] rfl rfl (any_of HT_.out (by kernel_rfl)) (fun _ _ _ h => h) (Or.inl ⟨by rfl, ?_⟩) ?_ ?_
          rotate_left
          · intro w'
            go_simp
            with_reducible rfl
          rotate_left
          · skip
            simp only [Act.put, List.setIfInBounds_toArray, List.set_cons_zero, List.set_cons_succ, i64_w, i32_w]
            rfl
          refine pure_ (i := 10) (N := some 45) (v := ?_) (a' := ?_) #[true, true, true, true, true, true, true, true, true, true, true, false, false, false] rfl rfl (any_of HT_.out (by kernel_rfl)) (fun _ _ _ h => h) (Or.inl ⟨by rfl, ?_⟩) ?_ ?_
          rotate_left
          · intro w'
            go_simp
            with_reducible rfl
          rotate_left
          · skip
            simp only [Act.put, List.setIfInBounds_toArray, List.set_cons_zero, List.set_cons_succ, i64_w, i32_w]
            rfl
          refine last_ (i := 11) (N := some 46) #[true, true, true, true, true, true, true, true, true, true, true, true, false, false] rfl rfl (one_of HT_.out (by kernel_rfl)) (by decide) (fun K hK => ?_)
          refine value_ (w1 := ?_) (v := ?_) (by rfl) rfl ?_ ?_
          rotate_left 2
          · go_simp
            constructor
            · rfl
            · rfl
          refine hK.out _ _ ?_
          clear hK K
          refine norm_ (a' := ?_) ?_ ?_
          rotate_left
          · show Act.put _ (some 46) _ = _
            simp only [Act.put, List.setIfInBounds_toArray, List.set_cons_zero, List.set_cons_succ, i64_w, i32_w]
            rfl
          refine last_ (i := 12) (N := some 47) #[true, true, true, true, true, true, true, true, true, true, true, true, true, false] rfl rfl (one_of HT_.out (by kernel_rfl)) (by decide) (fun K hK => ?_)
          refine Kd.R_append_step Kd.string (w0 := w0) w0.heap.size (by rfl) (.tmp 35) (.tmp 46) 23 9 (.string ⟨#[]⟩) 16 rfl Try.underlying23 info9s rfl (by decide) (by omega) u5 (own1 cs x j) ((((⟨#[105, 109, 112, 111, 114, 116, 46]⟩ : ByteArray) ++ nm) ++ (⟨#[46]⟩ : ByteArray)) ++ y.f1) [.string ((((⟨#[105, 109, 112, 111, 114, 116, 46]⟩ : ByteArray) ++ nm) ++ (⟨#[46]⟩ : ByteArray)) ++ y.f1)] (fun k => k ≠ wa.heap.size) (fun _ => False) rfl rfl ?aP (fun _ hk => hk.elim) ?aF ?aO ?aB ?aS ?aL ?_
          (case aP => exact rfl)
          (case aB => exact HK2.out.below)
          (case aF => exact (fun k hk => by have := HK2.out.size; omega))
          (case aO => exact HK2.out.row)
          (case aS => exact HK2.out.below.size)
          (case aL => have := own1_len cs x j; have := HOK.out.l; omega)
          intro v5 w9 ho hb hg hat
          have HK9 : Aside0 (KeepO w0 w9 wa.heap.size xc v5 (own1 cs x j ++ [(((⟨#[105, 109, 112, 111, 114, 116, 46]⟩ : ByteArray) ++ nm) ++ (⟨#[46]⟩ : ByteArray)) ++ y.f1])) := ⟨HK2.out.app ho hb hg⟩
          clear ho hb hg hat
          refine hK.out _ _ ?_
          clear hK K
          refine norm_ (a' := ?_) ?_ ?_
          rotate_left
          · show Act.put _ (some 47) _ = _
            simp only [Act.put, List.setIfInBounds_toArray, List.set_cons_zero, List.set_cons_succ, i64_w, i32_w]
            rfl
          refine last_ (i := 13) (N := some 5) #[true, true, true, true, true, true, true, true, true, true, true, true, true, true] rfl rfl (one_of HT_.out (by kernel_rfl)) (by decide) (fun K hK => ?_)
          refine value_ (w1 := ?_) (v := ?_) (by rfl) rfl ?_ ?_
          rotate_left 2
          · go_simp
            constructor
            · rfl
            · rfl
          refine hK.out _ _ ?_
          clear hK K
          refine norm_ (a' := ?_) ?_ ?_
          rotate_left
          · show Act.put _ (some 5) _ = _
            simp only [Act.put, List.setIfInBounds_toArray, List.set_cons_zero, List.set_cons_succ, i64_w, i32_w]
            rfl
          refine done_ (done_of HT_.out (by kernel_rfl)) ?_
          go_wp2_with fail
          refine ⟨⟨j + 1, by first | rfl | (simp; done) | (rw [HWK.out]; done), ⟨hj⟩, ⟨by rw [own1_succ cs x j hj, HY.out]; unfold impS; rw [HNM.out]; exact HK9.out⟩⟩, by simp only [intOf]; omega⟩
        · have hjn : j = x.f3.length := by have := HJ.out; omega
          subst hjn
          have HK0 : Aside0 (KeepO w0 wl wa.heap.size xc u5 (own2 cs x 0)) := ⟨by rw [own2_zero]; exact HK.out⟩
          have x4 : wl.cell? ⟨wa.heap.size, 4, none⟩ = some (.slice A4 x.f4.length c4) := by rw [blk_cell HK.out.x 4, HX4.out]
          go_wp2_with fail
          clear x4
          go_loopw [5, 52] (fun v5 v52 wr => ∃ j : Nat, v52 = .int .i64 j ∧ Aside0 (j ≤ x.f4.length) ∧ Aside0 (KeepO w0 wr wa.heap.size xc v5 (own2 cs x j))) (fun _ v52 _ => x.f4.length - (intOf v52).toNat)
          case atStart => exact ⟨0, rfl, ⟨Nat.zero_le _⟩, HK0⟩
          case round =>
            obtain ⟨wl, rfl⟩ : ∃ q, q = wr := ⟨_, rfl⟩
            obtain ⟨j, rfl, HJ, HK⟩ := hrel
            by_cases hj : j < x.f4.length
            · have hwk : wrap64 ((j : Int) + 1) = ((j + 1 : Nat) : Int) := by unfold wrap64; omega
              have HWK := Aside0.mk hwk
              have hjI : (j : Int) < ((x.f4.length : Nat) : Int) := by omega
              have hBW : Below w.heap.size w wl := HB0.out.trans (HK.out.below.mono (by have := HS0.out; omega))
              have HBW := Aside0.mk hBW
              obtain ⟨ae, rfl, e0, e1, e2⟩ := at_T84 (Kd.C_below G4.out hBW) (j : Int) (by omega) hjI
              obtain ⟨y, hy⟩ : ∃ y, rd_T84 x.f4 (j : Int) = y := ⟨_, rfl⟩
              rw [hy] at e0 e1 e2
              have HY := Aside0.mk hy
              rw [Int.toNat_natCast] at e0 e1 e2
              have hsz2 : y.f0.size ≤ 140737488351232 := by rw [← hy]; exact HOK.out.d _
              have nq1 : ¬ (9223372036854775807 < 7 + y.f0.size) := by omega
              clear hBW hy hsz2
              go_upto_region 13 with fail
              clear e0 e1 e2
              generalize hwb : wl.alloc (.cells #[.string y.f0, .int .u32 y.f1, .int .u32 y.f2] 84 (0, 0)) = wb
              have HK2 : Aside0 (KeepO w0 wb wa.heap.size xc u5 (own2 cs x j)) := ⟨by rw [← hwb]; exact HK.out.lower (below_alloc (Below.refl _ _) _)⟩
              have b0 : wb.cell? ⟨wl.heap.size, 0, none⟩ = some (.string y.f0) := by rw [← hwb]; exact blk_cell (heap_alloc_new _ _) 0
              clear hwb
              go_wp2_with (first | ((with_reducible refine gate_builtin (b := .append) (xs := #[.tmp 56, .tmp 60]) rfl ?_); at_builtin; refine Kd.R_append Kd.string (w0 := w0) w0.heap.size rfl (.tmp 56) (.tmp 60) 23 9 (.string ⟨#[]⟩) 16 rfl Try.underlying23 info9s rfl (by decide) (by omega) u5 (own2 cs x j) ((⟨#[100, 101, 118, 105, 99, 101, 46]⟩ : ByteArray) ++ y.f0) [.string ((⟨#[100, 101, 118, 105, 99, 101, 46]⟩ : ByteArray) ++ y.f0)] (fun k => k ≠ wa.heap.size) (fun _ => False) rfl rfl ?aP (fun _ hk => hk.elim) ?aF ?aO ?aB ?aS ?aL ?_; (case aP => exact rfl); (case aB => exact HK2.out.below); (case aF => exact (fun k hk => by have := HK2.out.size; omega)); (case aO => exact HK2.out.row); (case aS => exact HK2.out.below.size); (case aL => have := own2_len cs x j; have := HOK.out.l; omega); intro v5 w9 ho hb hg hat; have HK9 : Aside0 (KeepO w0 w9 wa.heap.size xc v5 (own2 cs x j ++ [(⟨#[100, 101, 118, 105, 99, 101, 46]⟩ : ByteArray) ++ y.f0])) := ⟨HK2.out.app ho hb hg⟩; clear ho hb hg hat))
              refine ⟨⟨j + 1, by first | rfl | (simp; done) | (rw [HWK.out]; done), ⟨hj⟩, ⟨by rw [own2_succ cs x j hj, HY.out]; unfold devS; exact HK9.out⟩⟩, by simp only [intOf]; omega⟩
            · have hjn : j = x.f4.length := by have := HJ.out; omega
              subst hjn
              clear HK0
              have HK0 : Aside0 (KeepO w0 wl wa.heap.size xc u5 (own3 cs hs x 0)) := ⟨by rw [own3_zero]; exact HK.out⟩
              have x5 : wl.cell? ⟨wa.heap.size, 5, none⟩ = some (.slice A5 x.f5.length c5) := by rw [blk_cell HK.out.x 5, HX5.out]
              go_wp2_with fail
              clear x5
              go_loopw [5, 66] (fun v5 v66 wr => ∃ j : Nat, v66 = .int .i64 j ∧ Aside0 (j ≤ x.f5.length) ∧ Aside0 (KeepO w0 wr wa.heap.size xc v5 (own3 cs hs x j))) (fun _ v66 _ => x.f5.length - (intOf v66).toNat)
              case atStart => exact ⟨0, rfl, ⟨Nat.zero_le _⟩, HK0⟩
              case round =>
                obtain ⟨wl, rfl⟩ : ∃ q, q = wr := ⟨_, rfl⟩
                obtain ⟨j, rfl, HJ, HK⟩ := hrel
                by_cases hj : j < x.f5.length
                · have hwk : wrap64 ((j : Int) + 1) = ((j + 1 : Nat) : Int) := by unfold wrap64; omega
                  have HWK := Aside0.mk hwk
                  have hjI : (j : Int) < ((x.f5.length : Nat) : Int) := by omega
                  have hBW : Below w.heap.size w wl := HB0.out.trans (HK.out.below.mono (by have := HS0.out; omega))
                  have HBW := Aside0.mk hBW
                  obtain ⟨ae, rfl, e0, e1⟩ := at_T86 (Kd.C_below G5.out hBW) (j : Int) (by omega) hjI
                  obtain ⟨y, hy⟩ : ∃ y, rd_T86 x.f5 (j : Int) = y := ⟨_, rfl⟩
                  rw [hy] at e0 e1
                  have HY := Aside0.mk hy
                  rw [Int.toNat_natCast] at e0 e1
                  have hsz1 := HOK.out.h y.f0
                  obtain ⟨nm, hnm⟩ : ∃ nm, nameH hs y.f0 = nm := ⟨_, rfl⟩
                  rw [hnm] at hsz1
                  have HNM := Aside0.mk hnm
                  have nq1 : ¬ (9223372036854775807 < 6 + nm.size) := by omega
                  clear hBW hy hnm hsz1
                  go_upto_region 18 with fail
                  clear e0 e1
                  generalize hwb : wl.alloc (.cells #[.int .i64 y.f0, .bool y.f1] 86 (0, 0)) = wb
                  have HKB : Aside0 (KeepO w0 wb wa.heap.size xc u5 (own3 cs hs x j)) := ⟨by rw [← hwb]; exact HK.out.lower (below_alloc (Below.refl _ _) _)⟩
                  have b2 : wb.cell? ⟨w.heap.size, 2, none⟩ = some (.slice Ah hs.length ch) := pw_cell_below HKB.out.below (blk_cell HP.out 2)
                  have b0 : wb.cell? ⟨wl.heap.size, 0, none⟩ = some (.int .i64 y.f0) := by rw [← hwb]; exact blk_cell (heap_alloc_new _ _) 0
                  clear hwb
                  have CC := Aside0.mk (called89 Ah ch hs y.f0 wb (Kd.C_below HRH.out (HB0.out.trans (HKB.out.below.mono (by have := HS0.out; omega)))))
                  go_wp2_with fail
                  refine CC.out.mono ?_
                  intro e w2 h2
                  obtain ⟨h2, hb2⟩ := h2
                  subst h2
                  have HK2 : Aside0 (KeepO w0 w2 wa.heap.size xc u5 (own3 cs hs x j)) := ⟨HKB.out.lower hb2⟩
                  clear HKB b2 b0 hb2 CC
                  rw [HNM.out]
                  simp only []
                  go_wp2_with (first | ((with_reducible refine gate_builtin (b := .append) (xs := #[.tmp 70, .tmp 77]) rfl ?_); at_builtin; refine Kd.R_append Kd.string (w0 := w0) w0.heap.size rfl (.tmp 70) (.tmp 77) 23 9 (.string ⟨#[]⟩) 16 rfl Try.underlying23 info9s rfl (by decide) (by omega) u5 (own3 cs hs x j) ((⟨#[115, 104, 97, 114, 101, 46]⟩ : ByteArray) ++ nm) [.string ((⟨#[115, 104, 97, 114, 101, 46]⟩ : ByteArray) ++ nm)] (fun k => k ≠ wa.heap.size) (fun _ => False) rfl rfl ?aP (fun _ hk => hk.elim) ?aF ?aO ?aB ?aS ?aL ?_; (case aP => exact rfl); (case aB => exact HK2.out.below); (case aF => exact (fun k hk => by have := HK2.out.size; omega)); (case aO => exact HK2.out.row); (case aS => exact HK2.out.below.size); (case aL => have := own3_len cs hs x j; have := HOK.out.l; omega); intro v5 w9 ho hb hg hat; have HK9 : Aside0 (KeepO w0 w9 wa.heap.size xc v5 (own3 cs hs x j ++ [(⟨#[115, 104, 97, 114, 101, 46]⟩ : ByteArray) ++ nm])) := ⟨HK2.out.app ho hb hg⟩; clear ho hb hg hat))
                  refine ⟨⟨j + 1, by first | rfl | (simp; done) | (rw [HWK.out]; done), ⟨hj⟩, ⟨by rw [own3_succ cs hs x j hj, HY.out]; unfold givS; rw [HNM.out]; exact HK9.out⟩⟩, by simp only [intOf]; omega⟩
                · have hjn : j = x.f5.length := by have := HJ.out; omega
                  subst hjn
                  go_wp2_with fail
                  go_ret
                  refine ⟨_, rfl, ?_, HB0.out.trans (HK.out.below.mono (by have := HS0.out; omega))⟩
                  rw [HLE.out]
                  exact Kd.R_lower (Kd.R_mono HK.out.row (fun _ _ => trivial)) (by have := HS0.out; omega)
end Go.Proofs.Ytchkjfokoenlnaa.Sym
