/- cpu.Step where run answers a cause, by run's contract. Written by wip/r5/str.py. -/
import Derived.Test.YtadbonmkockakaaQStq
namespace Go.Proofs.Ytadbonmkockakaa.Cp
open Go.RowKit Go.Proofs.YtadbonmkockakaaW.PrintWords Go.Proofs.YtadbonmkockakaaW.PrintLast Go.Proofs.YtadbonmkockakaaW.PrintMore Go.Proofs.Ytadbonmkockakaa.QCb Go.Proofs.Ytadbonmkockakaa.QCe
set_option linter.unusedVariables false
set_option linter.unusedSimpArgs false
def T12_15 : Bool × List (List Nat × List Nat) := (true, [([], []), ([], []), ([0, 1], [0, 1]), ([], []), ([], []), ([4], [4]), ([5], [5]), ([6], [6]), ([7], [7]), ([3, 8], [3, 8]), ([2, 2, 0, 1, 2], [2]), ([9, 10, 0, 1, 2, 3, 4, 5, 6, 7, 8, 9, 10], [9]), ([11, 0, 1, 2, 3, 4, 5, 6, 7, 8, 9, 10, 11], [])])
theorem tab12_15 : rtab .any (opsOf Try.f4 15) = T12_15 := by kernel_rfl
def B12_15 : List Nat := [0, 0, 3, 0, 0, 16, 48, 112, 240, 504, 7, 2047, 4095]
theorem bits12_15 : waitsOk T12_15.2 B12_15 = true := by kernel_rfl
theorem run_same (A : Option Addr) (n c : Nat) (h : n ≤ c) (W : World) : (Instr.slice 36 (.slice A n c) none (some (.int .i64 (n : Int))) none).run Try.prog W = .ok (.slice A n c) W := by
  obtain ⟨i, hi, -⟩ := (show ∃ i, Try.prog.info? 54 = some i ∧ True from by have h := info54; cases hq : Try.prog.info? 54 with | none => rw [hq] at h; cases h | some i => exact ⟨i, rfl, trivial⟩)
  have hel : Try.prog.elem 36 = 54 := by simp [Program.elem, Try.underlying36]
  have hu : Try.prog.underlying 36 = some (.slice (Try.prog.elem 36)) := by rw [hel]; exact Try.underlying36
  have ha : (A.map fun x => x.add 0) = A := by cases A <;> simp [Addr.add]
  rw [run_slice_h W 36 A n c hu .i64 (n : Int) (by omega) (by omega), hel]
  simp [sizeOf, typeInfo, hi, sliced, Result.andThen, ha]
set_option maxRecDepth 100000 in
set_option maxHeartbeats 8000000 in
theorem step_trap0 (gm : Nat) (M : Mem) (hM : MemOk M) (s : St) (timer : Bool) (ans c : Int) (hc : c ≠ 0) (hh : s.halted = false) (hto : (timer && s.on) = false) (T : List Tch) (hT : T.length = 0) (w : World) (hm : MemB w gm M)
    (hrun : ∀ (g : Nat) (w1 : World), BL w1 g 51 (mcL (⟨gm, { s with regs := setR s.regs 0 nullC }, { s with regs := setR s.regs 0 nullC }, 0, .slice none 0 0, false, 0, 0, ans⟩ : Mc)) → MemB w1 gm M → Calls Try.prog 10 #[.pointer (some ⟨g, 0, none⟩)] w1 fun e w2 => e = .returned (.int .u32 c) ∧ Fix (fun k => k = g ∨ k = gm) w1 w2 ∧ ∃ (yy : Mc) (tv : Value), BL w2 g 51 (mcL { yy with tv := tv }) ∧ MemB w2 gm M ∧ k52.R 54 w2 w1.heap.size (fun _ => True) tv T) :
    Calls Try.prog 4 #[.pointer (some ⟨gm, 0, none⟩), stV s, .bool timer, .int .u32 ans] w fun e w' => ∃ tv, e = .returned (.tuple #[stV (trapS { s with regs := setR s.regs 0 nullC } c), dnV ⟨c, tv, false, 0, 0⟩, .int .i64 0]) ∧ MemB w' gm M ∧ k52.R 54 w' w.heap.size (fun _ => True) tv T ∧ Fix (· = gm) w w' := by
  have HM := Aside0.mk hM
  have HR := Aside0.mk hrun
  have HH := Aside0.mk hh
  have HTO := Aside0.mk hto
  have HC := Aside0.mk hc
  have HT := Aside0.mk hT
  clear hrun hh hto hc hT
  have HMB := Aside0.mk hm
  clear hm
  obtain ⟨L, hL⟩ : ∃ L, stL s = L := ⟨_, rfl⟩
  show Calls _ _ #[_, .agg (stL s).toArray, _, _] _ _
  rw [hL]
  have HL := Aside0.mk hL
  clear hL
  go_enter Try.func4, Try.ntmps4
  go_upto_region 1 with (first | ((with_reducible refine wpList_allocT info30 rfl rfl ?_)))
  have hs1 : (w.alloc (Obj.cells L.toArray 30)).heap.size = w.heap.size + 1 := by simp
  have hs2 : ((w.alloc (Obj.cells L.toArray 30)).alloc (Obj.cells (stL zeroS).toArray 30)).heap.size = w.heap.size + 1 + 1 := by simp
  try rw [hs2]
  try rw [hs1]
  generalize hw1 : ((w.alloc (Obj.cells L.toArray 30)).alloc (Obj.cells (stL zeroS).toArray 30)).alloc (Obj.cells #[.int .u32 0, .slice none 0 0, .bool false, .int .u32 0, .int .u32 0] 38) = w1
  have HB1 : Aside0 (Below w.heap.size w w1) := ⟨by rw [← hw1]; exact below_alloc (below_alloc (below_alloc (Below.refl _ _) _) _) _⟩
  have B5 : Aside0 (BL w1 w.heap.size 30 L) := ⟨by rw [← hw1]; exact ((BL.new w L 30).below (below_alloc (Below.refl _ _) _)).below (below_alloc (Below.refl _ _) _)⟩
  have B8 : Aside0 (BL w1 (w.heap.size + 1) 30 (stL zeroS)) := ⟨by rw [← hw1]; have h := (BL.new (w.alloc (Obj.cells L.toArray 30)) (stL zeroS) 30).below (below_alloc (Below.refl _ _) (Obj.cells #[.int .u32 0, .slice none 0 0, .bool false, .int .u32 0, .int .u32 0] 38)); rw [hs1] at h; exact h⟩
  have B9 : Aside0 (BL w1 (w.heap.size + 1 + 1) 38 (dnL zeroD)) := ⟨by rw [← hw1]; have h := BL.new ((w.alloc (Obj.cells L.toArray 30)).alloc (Obj.cells (stL zeroS).toArray 30)) (dnL zeroD) 38; rw [hs2] at h; exact h⟩
  clear hw1 hs1 hs2
  try simp only [Act.put, List.setIfInBounds_toArray, List.set_cons_zero, List.set_cons_succ]
  have HLD : Aside0 (∀ w, MemB w gm M → Calls Try.prog 7 #[.pointer (some ⟨gm, 0, none⟩), .int .u32 0, .int .i64 1] w fun e w' => e = .returned (.tuple #[.int .u32 (loadS M 0 1), .int .i64 0]) ∧ Below w.heap.size w w') := ⟨fun w h => load_calls gm 0 1 M hM (by decide) (by decide) (by decide) w h⟩
  clear hM
  go_upto_region 4 with (first | (go_at_call 7; (with_reducible refine (HLD.out _ (HMB.out.below HB1.out)).mono ?_); rintro _ w2 ⟨rfl, hb⟩; have HB2 := Aside0.mk (HB1.out.trans (hb.mono HB1.out.size)); have B5' := Aside0.mk (B5.out.below hb); have B8' := Aside0.mk (B8.out.below hb); have B9' := Aside0.mk (B9.out.below hb); clear hb))
  rw [← HL.out] at B5'
  clear HLD B5 B8 B9 HB1
  go_upto_region 6 with fail
  go_upto_region 7 with (first | (go_at_call 8; (with_reducible refine (null_calls _).mono ?_); rintro _ w3 ⟨rfl, hb⟩; have HB3 := Aside0.mk (HB2.out.trans (hb.mono HB2.out.size)); have C5 := Aside0.mk (B5'.out.below hb); have C8 := Aside0.mk (B8'.out.below hb); have C9 := Aside0.mk (B9'.out.below hb); clear hb) | ((with_reducible refine wps_agg rfl 27 (.tmp 30) (.tmp 28) rfl C5.out ?off_12 ?cs_12 ?hx_12 ?hy_12 ?hi_12 ?h1_12 ?hl_12 (stL { s with regs := setR s.regs 0 nullC }) ?hL_12 ?_); (case hx_12 => rfl); (case hy_12 => rfl); (case hi_12 => exact size31); (case h1_12 => simp [Value.oneCell']); (case hl_12 => exact Nat.le_of_ble_eq_true rfl); (case hL_12 => rfl); intro w9 hb9 hf9; have D5 := Aside0.mk hb9; have B8' := Aside0.mk (C8.out.fix hf9 (by show ¬ _ = _; omega)); have B9' := Aside0.mk (C9.out.fix hf9 (by show ¬ _ = _; omega)); have HBZ : Aside0 (Below w.heap.size w w9) := ⟨HB3.out.trans (hf9.below (B := w.heap.size) HB3.out.size (fun k hk => by omega))⟩; clear hb9 hf9))
  have x150 := D5.out.cell 150 _ rfl
  have x148 := D5.out.cell 148 _ rfl
  clear C5 C8 C9 B5' HB2 HB3
  rw [show ({ s with regs := setR s.regs 0 nullC } : St).halted = false from HH.out] at x150
  rw [show ({ s with regs := setR s.regs 0 nullC } : St).on = s.on from rfl] at x148
  cases timer
  · go_upto_region 12 with (first | ((with_reducible refine wpl_agg rfl 30 (.tmp 5) rfl D5.out ?off_13 (stL { s with regs := setR s.regs 0 nullC }) ?hx_13 ?hc_13 _ Try.underlying30 ?hd_13 ?hi_13 ?_); (case hx_13 => rfl); (case hc_13 => rfl); (case hd_13 => rfl); (case hi_13 => exact size34)) | ((with_reducible refine wpl_build rfl 51 #[(0, .tmp 45), (1, .tmp 46), (2, .tmp 47), (4, .tmp 48)] rfl (mcL (⟨gm, { s with regs := setR s.regs 0 nullC }, { s with regs := setR s.regs 0 nullC }, 0, .slice none 0 0, false, 0, 0, ans⟩ : Mc)) ?hbmf0 ?_); (case hbmf0 => simp only [List.map_toArray, List.map_cons, List.map_nil]; exact built91 gm { s with regs := setR s.regs 0 nullC } { s with regs := setR s.regs 0 nullC } ans)))
    generalize hwq : w9.alloc (Obj.cells (mcL (⟨gm, { s with regs := setR s.regs 0 nullC }, { s with regs := setR s.regs 0 nullC }, 0, .slice none 0 0, false, 0, 0, ans⟩ : Mc)).toArray 51) = wa
    have HBA : Aside0 (Below w9.heap.size w9 wa) := ⟨by rw [← hwq]; exact below_alloc (Below.refl _ _) _⟩
    have XA : Aside0 (BL wa w9.heap.size 51 (mcL (⟨gm, { s with regs := setR s.regs 0 nullC }, { s with regs := setR s.regs 0 nullC }, 0, .slice none 0 0, false, 0, 0, ans⟩ : Mc))) := ⟨by rw [← hwq]; exact BL.new _ _ _⟩
    clear hwq x150 x148
    have E5 := Aside0.mk (D5.out.below HBA.out)
    have E8 := Aside0.mk (B8'.out.below HBA.out)
    have E9 := Aside0.mk (B9'.out.below HBA.out)
    have HBW := Aside0.mk (HBZ.out.trans (HBA.out.mono HBZ.out.size))
    have HGL : Aside0 (gm < w.heap.size) := ⟨HMB.out.lt⟩
    have HSZ : Aside0 (w.heap.size + 1 + 1 < w9.heap.size) := ⟨B9'.out.lt⟩
    generalize w9.heap.size = p91 at XA HSZ ⊢
    have HRUN := Aside0.mk (HR.out p91 wa XA.out (HMB.out.below HBW.out))
    clear D5 B8' B9' HR
    have c1 : (c == 0) = false := beq_eq_false_iff_ne.2 HC.out
    have c2 : ¬ c = 0 := HC.out
    have c3 : (c != 0) = true := by simp [c2]
    go_upto_region 13 with (first | (go_at_call 10; (with_reducible refine HRUN.out.mono ?_); rintro _ wb ⟨rfl, hfx, yy, tv2, hbl, hmm, hrr⟩; have G5 := Aside0.mk (E5.out.fix hfx (by have := HGL.out; have := HSZ.out; exact fun h => h.elim (fun h => by omega) (fun h => by omega))); have G8 := Aside0.mk (E8.out.fix hfx (by have := HGL.out; have := HSZ.out; exact fun h => h.elim (fun h => by omega) (fun h => by omega))); have G9 := Aside0.mk (E9.out.fix hfx (by have := HGL.out; have := HSZ.out; exact fun h => h.elim (fun h => by omega) (fun h => by omega))); have XB := Aside0.mk hbl; have MB := Aside0.mk hmm; have RB := Aside0.mk hrr; have HFB := Aside0.mk hfx; clear hbl hmm hrr hfx))
    go_upto_region 14 with fail
    clear c1 c2 c3
    obtain ⟨A, cc, hv, hcc, -⟩ := Kd.R_reads RB.out
    rw [HT.out] at hv hcc
    subst hv
    have hcut : ∀ W : World, (Instr.slice 36 (.slice A 0 cc) none (some (.int .i64 0)) none).run Try.prog W = .ok (.slice A 0 cc) W := fun W => run_same A 0 cc hcc W
    have e304 := XB.out.cell 304 _ rfl
    go_still_tail 17, (by kernel_rfl)
    change wpList _ _ _ _ _ wb.drew
    have HD0 : Aside0 (Below wb.heap.size wb wb.drew) := ⟨below_drew (Below.refl _ _)⟩
    have J5 := Aside0.mk (G5.out.below HD0.out)
    have J8 := Aside0.mk (G8.out.below HD0.out)
    have J9 := Aside0.mk (G9.out.below HD0.out)
    have JX := Aside0.mk (XB.out.below HD0.out)
    have JR := Aside0.mk (Kd.R_below RB.out HD0.out)
    have JM := Aside0.mk (MB.out.below HD0.out)
    generalize wb.drew = wc at HD0 J5 J8 J9 JX JR JM ⊢
    clear G5 G8 G9 XB RB MB e304 hcut
    go_upto_region 15 with (first | ((with_reducible refine wps_one rfl 36 (.tmp 71) (.tmp 68) rfl JX.out ?off_14 ?cs_14 ?hx_14 ?hy_14 ?hv_14 ?h1_14 ?hi_14 ?hl_14 (mcL { yy with tv := Value.slice A 0 cc }) ?hL_14 ?_); (case hx_14 => rfl); (case hy_14 => rfl); (case hv_14 => rfl); (case h1_14 => rfl); (case hi_14 => exact size46); (case hl_14 => exact Nat.le_of_ble_eq_true rfl); (case hL_14 => rfl); intro w9 hb9 hf9; have VX := Aside0.mk hb9; have VF := Aside0.mk hf9; clear hb9 hf9))
    have hsz := HSZ.out
    have V5 := J5.out.fix VF.out (by show ¬ _ = _; omega)
    have V8 := Aside0.mk (J8.out.fix VF.out (by show ¬ _ = _; omega))
    have V9 := Aside0.mk (J9.out.fix VF.out (by show ¬ _ = _; omega))
    have VR := Aside0.mk (row_far JR.out JX.out VF.out)
    have VM := Aside0.mk (JM.out.fix VF.out (by have := HGL.out; show ¬ _ = _; omega))
    have HV5 := Aside0.mk V5
    clear V5
    refine start_ (n := 13) (S := fun w' => BL w' w.heap.size 30 (stL { s with regs := setR s.regs 0 nullC }) ∧ BL w' p91 51 (mcL { yy with tv := Value.slice A 0 cc })) (ds := []) #[false, false, false, false, false, false, false, false, false, false, false, false, false] (by kernel_rfl) rfl rfl ⟨HV5.out, VX.out⟩ (fun hHeld => ?_)
    refine with_tabW tab12_15 bits12_15 (fun HT_ HW_ => ?_)
    have HD1 : Aside0 (Below w9.heap.size w9 w9.drew) := ⟨below_drew (Below.refl _ _)⟩
    have U8 := Aside0.mk (V8.out.below HD1.out)
    have U9 := Aside0.mk (V9.out.below HD1.out)
    generalize w9.drew = wx at HD1 U8 U9 hHeld ⊢
    clear V8 V9
    refine take_ (i := 0) (N := some 72) (v := .agg (stL { s with regs := setR s.regs 0 nullC }).toArray) (a' := ?_) #[true, false, false, false, false, false, false, false, false, false, false, false, false] rfl rfl (take_ofW HT_.out HW_.out (by kernel_rfl)) (fun _ _ _ h => h) (yieldsIf_load_mid (by rfl) 30 (.tmp 5) rfl w.heap.size (0) rfl (stL { s with regs := setR s.regs 0 nullC }) _ (fun w' hS0 => BL.range hS0.1 0 (stL { s with regs := setR s.regs 0 nullC }) (by rw [List.drop_zero, List.take_length])) Try.underlying30 rfl size34) hHeld ?_ ?_
    rotate_left
    · skip
      simp only [Act.put, List.setIfInBounds_toArray, List.set_cons_zero, List.set_cons_succ, i64_w, i32_w]
      rfl
    refine pure_ (i := 1) (N := some 73) (v := ?_) (a' := ?_) #[true, true, false, false, false, false, false, false, false, false, false, false, false] rfl rfl (any_of HT_.out (by kernel_rfl)) (fun _ _ _ h => h) (Or.inl ⟨by rfl, ?_⟩) ?_ ?_
    rotate_left
    · intro w'
      go_simp
      with_reducible rfl
    rotate_left
    · skip
      simp only [Act.put, List.setIfInBounds_toArray, List.set_cons_zero, List.set_cons_succ, i64_w, i32_w]
      rfl
    refine pure_ (i := 3) (N := some 75) (v := ?_) (a' := ?_) #[true, true, false, true, false, false, false, false, false, false, false, false, false] rfl rfl (any_of HT_.out (by kernel_rfl)) (fun _ _ _ h => h) (Or.inl ⟨by rfl, ?_⟩) ?_ ?_
    rotate_left
    · intro w'
      go_simp
      with_reducible rfl
    rotate_left
    · skip
      simp only [Act.put, List.setIfInBounds_toArray, List.set_cons_zero, List.set_cons_succ, i64_w, i32_w]
      rfl
    refine pure_ (i := 4) (N := some 76) (v := ?_) (a' := ?_) #[true, true, false, true, true, false, false, false, false, false, false, false, false] rfl rfl (any_of HT_.out (by kernel_rfl)) (fun _ _ _ h => h) (Or.inl ⟨by rfl, ?_⟩) ?_ ?_
    rotate_left
    · intro w'
      go_simp
      with_reducible rfl
    rotate_left
    · skip
      simp only [Act.put, List.setIfInBounds_toArray, List.set_cons_zero, List.set_cons_succ, i64_w, i32_w]
      rfl
    refine pure_ (i := 5) (N := some 77) (v := ?_) (a' := ?_) #[true, true, false, true, true, true, false, false, false, false, false, false, false] rfl rfl (any_of HT_.out (by kernel_rfl)) (fun _ _ _ h => h) (Or.inl ⟨by rfl, ?_⟩) ?_ ?_
    rotate_left
    · intro w'
      go_simp
      with_reducible rfl
    rotate_left
    · skip
      simp only [Act.put, List.setIfInBounds_toArray, List.set_cons_zero, List.set_cons_succ, i64_w, i32_w]
      rfl
    refine pure_ (i := 6) (N := some 78) (v := ?_) (a' := ?_) #[true, true, false, true, true, true, true, false, false, false, false, false, false] rfl rfl (any_of HT_.out (by kernel_rfl)) (fun _ _ _ h => h) (Or.inl ⟨by rfl, ?_⟩) ?_ ?_
    rotate_left
    · intro w'
      go_simp
      with_reducible rfl
    rotate_left
    · skip
      simp only [Act.put, List.setIfInBounds_toArray, List.set_cons_zero, List.set_cons_succ, i64_w, i32_w]
      rfl
    refine pure_ (i := 7) (N := some 79) (v := ?_) (a' := ?_) #[true, true, false, true, true, true, true, true, false, false, false, false, false] rfl rfl (any_of HT_.out (by kernel_rfl)) (fun _ _ _ h => h) (Or.inl ⟨by rfl, ?_⟩) ?_ ?_
    rotate_left
    · intro w'
      go_simp
      with_reducible rfl
    rotate_left
    · skip
      simp only [Act.put, List.setIfInBounds_toArray, List.set_cons_zero, List.set_cons_succ, i64_w, i32_w]
      rfl
    refine take_ (i := 8) (N := some 80) (v := ?_) (a' := ?_) #[true, true, false, true, true, true, true, true, true, false, false, false, false] rfl rfl (take_ofW HT_.out HW_.out (by kernel_rfl)) (fun _ _ _ h => h) (Or.inl ⟨by rfl, ?_⟩) hHeld ?_ ?_
    rotate_left
    · intro w' hS0
      have e304 := hS0.2.cell 304 _ rfl
      go_simp
      with_reducible rfl
    rotate_left
    · skip
      simp only [Act.put, List.setIfInBounds_toArray, List.set_cons_zero, List.set_cons_succ, i64_w, i32_w]
      rfl
    refine pure_ (i := 9) (N := some 81) (v := ?_) (a' := ?_) #[true, true, false, true, true, true, true, true, true, true, false, false, false] rfl rfl (any_of HT_.out (by kernel_rfl)) (fun _ _ _ h => h) (Or.inl ⟨by rfl, ?_⟩) ?_ ?_
    rotate_left
    · intro w'
      go_simp
      with_reducible rfl
    rotate_left
    · skip
      simp only [Act.put, List.setIfInBounds_toArray, List.set_cons_zero, List.set_cons_succ, i64_w, i32_w]
      rfl
    refine one_ (i := 2) (N := some 74) #[true, true, true, true, true, true, true, true, true, true, false, false, false] rfl rfl (one_of HT_.out (by kernel_rfl)) (by decide) (fun K hK => ?_)
    refine goes_ Try.func9 (by kernel_rfl) rfl #[.agg (stL { s with regs := setR s.regs 0 nullC }).toArray, .int .u32 c] (by rfl) rfl rfl (by (try simp only [List.map_toArray, List.map_cons, List.map_nil]); first | done | rfl) ?_
    refine (trap_calls { s with regs := setR s.regs 0 nullC } c wx).mono ?_
    intro e wy h3
    obtain ⟨h3, hb3⟩ := h3
    subst h3
    refine ⟨_, rfl, ?_⟩
    refine hK.out _ _ ⟨hHeld.1.below hb3, hHeld.2.below hb3⟩ (fun hS3 => ?_)
    clear hK K
    refine norm_ (a' := ?_) ?_ ?_
    rotate_left
    · show Act.put _ (some 74) _ = _
      simp only [Act.put, List.setIfInBounds_toArray, List.set_cons_zero, List.set_cons_succ, i64_w, i32_w]
      rfl
    have U8' := U8.out.below hb3
    have U9' := U9.out.below hb3
    clear hHeld
    have hgl := HGL.out
    refine one_ (i := 10) (N := none) #[true, true, true, true, true, true, true, true, true, true, true, false, false] rfl rfl (one_of HT_.out (by kernel_rfl)) (by decide) (fun K hK => ?_)
    refine store_step (by rfl) rfl 30 (.tmp 8) (.tmp 74) rfl (w.heap.size + 1) 0 U8' (stL (trapS { s with regs := setR s.regs 0 nullC } c)) rfl rfl size34 (stL_one _) (Nat.le_of_ble_eq_true rfl) (fun wd s8 f8 => ?_)
    refine hK.out _ _ ⟨hS3.1.fix f8 (by show ¬ _ = _; omega), hS3.2.fix f8 (by show ¬ _ = _; omega)⟩ (fun hS10 => ?_)
    clear hK K
    have j9 := U9'.fix f8 (by show ¬ _ = _; omega)
    refine one_ (i := 11) (N := none) #[true, true, true, true, true, true, true, true, true, true, true, true, false] rfl rfl (one_of HT_.out (by kernel_rfl)) (by decide) (fun K hK => ?_)
    refine store_step (by rfl) rfl 38 (.tmp 9) (.tmp 81) rfl (w.heap.size + 1 + 1) 0 j9 (dnL ⟨c, Value.slice A 0 cc, false, 0, 0⟩) rfl rfl size48 (dn_one rfl) (Nat.le_of_ble_eq_true rfl) (fun we s9 f9 => ?_)
    refine hK.out _ _ ⟨hS10.1.fix f9 (by show ¬ _ = _; omega), hS10.2.fix f9 (by show ¬ _ = _; omega)⟩ (fun hS11 => ?_)
    clear hK K
    refine pure_ (i := 12) (N := some 10) (v := ?_) (a' := ?_) #[true, true, true, true, true, true, true, true, true, true, true, true, true] rfl rfl (any_of HT_.out (by kernel_rfl)) (fun _ _ _ h => h) (Or.inl ⟨by rfl, ?_⟩) ?_ ?_
    rotate_left
    · intro w'
      go_simp
      with_reducible rfl
    rotate_left
    · skip
      simp only [Act.put, List.setIfInBounds_toArray, List.set_cons_zero, List.set_cons_succ, i64_w, i32_w]
      rfl
    refine done_ (done_of HT_.out (by kernel_rfl)) ?_
    have Z8 := Aside0.mk (bl_of ⟨_, s8.fix f9 (by show ¬ _ = _; omega), splice_all _ _ (by rw [stL_len, stL_len])⟩)
    have Z9 := Aside0.mk (bl_of ⟨_, s9, splice_all _ _ rfl⟩)
    have M9 := Aside0.mk ((((VM.out.below HD1.out).below hb3).fix f8 (by show ¬ _ = _; omega)).fix f9 (by show ¬ _ = _; omega))
    have R9 := Aside0.mk (Kd.R_lower (row_far2 (row_far2 (Kd.R_below (Kd.R_below VR.out HD1.out) hb3) U8' (by decide) f8) j9 (by decide) f9) HBW.out.size)
    have HF9 : Aside0 (Fix (· = gm) w we) := ⟨((((((Fix.of HBW.out).up HFB.out (fun k hk h => h.elim (fun h => by omega) (fun h => h))).up (Fix.of (S := fun _ => False) HD0.out) (fun k hk h => h.elim)).up VF.out (fun k hk h => by omega)).up (Fix.of (S := fun _ => False) (HD1.out.trans (hb3.mono HD1.out.size))) (fun k hk h => h.elim)).up f8 (fun k hk h => by omega)).up f9 (fun k hk h => by omega)⟩
    clear s8 f8 s9 f9 j9 hS10 hS11 hS3 hsz hgl U8' U9' hb3
    go_wp2_with fail
    exact bodyPost_ret (results_step rfl rfl rfl rfl Z8.out Z9.out (stL_len _) rfl) rfl ⟨_, rfl, M9.out, R9.out, HF9.out⟩
  · have hon : s.on = false := HTO.out
    rw [hon] at x148
    clear hon
    go_upto_region 12 with (first | ((with_reducible refine wpl_agg rfl 30 (.tmp 5) rfl D5.out ?off_15 (stL { s with regs := setR s.regs 0 nullC }) ?hx_15 ?hc_15 _ Try.underlying30 ?hd_15 ?hi_15 ?_); (case hx_15 => rfl); (case hc_15 => rfl); (case hd_15 => rfl); (case hi_15 => exact size34)) | ((with_reducible refine wpl_build rfl 51 #[(0, .tmp 45), (1, .tmp 46), (2, .tmp 47), (4, .tmp 48)] rfl (mcL (⟨gm, { s with regs := setR s.regs 0 nullC }, { s with regs := setR s.regs 0 nullC }, 0, .slice none 0 0, false, 0, 0, ans⟩ : Mc)) ?hbmt0 ?_); (case hbmt0 => simp only [List.map_toArray, List.map_cons, List.map_nil]; exact built91 gm { s with regs := setR s.regs 0 nullC } { s with regs := setR s.regs 0 nullC } ans)))
    generalize hwq : w9.alloc (Obj.cells (mcL (⟨gm, { s with regs := setR s.regs 0 nullC }, { s with regs := setR s.regs 0 nullC }, 0, .slice none 0 0, false, 0, 0, ans⟩ : Mc)).toArray 51) = wa
    have HBA : Aside0 (Below w9.heap.size w9 wa) := ⟨by rw [← hwq]; exact below_alloc (Below.refl _ _) _⟩
    have XA : Aside0 (BL wa w9.heap.size 51 (mcL (⟨gm, { s with regs := setR s.regs 0 nullC }, { s with regs := setR s.regs 0 nullC }, 0, .slice none 0 0, false, 0, 0, ans⟩ : Mc))) := ⟨by rw [← hwq]; exact BL.new _ _ _⟩
    clear hwq x150 x148
    have E5 := Aside0.mk (D5.out.below HBA.out)
    have E8 := Aside0.mk (B8'.out.below HBA.out)
    have E9 := Aside0.mk (B9'.out.below HBA.out)
    have HBW := Aside0.mk (HBZ.out.trans (HBA.out.mono HBZ.out.size))
    have HGL : Aside0 (gm < w.heap.size) := ⟨HMB.out.lt⟩
    have HSZ : Aside0 (w.heap.size + 1 + 1 < w9.heap.size) := ⟨B9'.out.lt⟩
    generalize w9.heap.size = p91 at XA HSZ ⊢
    have HRUN := Aside0.mk (HR.out p91 wa XA.out (HMB.out.below HBW.out))
    clear D5 B8' B9' HR
    have c1 : (c == 0) = false := beq_eq_false_iff_ne.2 HC.out
    have c2 : ¬ c = 0 := HC.out
    have c3 : (c != 0) = true := by simp [c2]
    go_upto_region 13 with (first | (go_at_call 10; (with_reducible refine HRUN.out.mono ?_); rintro _ wb ⟨rfl, hfx, yy, tv2, hbl, hmm, hrr⟩; have G5 := Aside0.mk (E5.out.fix hfx (by have := HGL.out; have := HSZ.out; exact fun h => h.elim (fun h => by omega) (fun h => by omega))); have G8 := Aside0.mk (E8.out.fix hfx (by have := HGL.out; have := HSZ.out; exact fun h => h.elim (fun h => by omega) (fun h => by omega))); have G9 := Aside0.mk (E9.out.fix hfx (by have := HGL.out; have := HSZ.out; exact fun h => h.elim (fun h => by omega) (fun h => by omega))); have XB := Aside0.mk hbl; have MB := Aside0.mk hmm; have RB := Aside0.mk hrr; have HFB := Aside0.mk hfx; clear hbl hmm hrr hfx))
    go_upto_region 14 with fail
    clear c1 c2 c3
    obtain ⟨A, cc, hv, hcc, -⟩ := Kd.R_reads RB.out
    rw [HT.out] at hv hcc
    subst hv
    have hcut : ∀ W : World, (Instr.slice 36 (.slice A 0 cc) none (some (.int .i64 0)) none).run Try.prog W = .ok (.slice A 0 cc) W := fun W => run_same A 0 cc hcc W
    have e304 := XB.out.cell 304 _ rfl
    go_still_tail 17, (by kernel_rfl)
    change wpList _ _ _ _ _ wb.drew
    have HD0 : Aside0 (Below wb.heap.size wb wb.drew) := ⟨below_drew (Below.refl _ _)⟩
    have J5 := Aside0.mk (G5.out.below HD0.out)
    have J8 := Aside0.mk (G8.out.below HD0.out)
    have J9 := Aside0.mk (G9.out.below HD0.out)
    have JX := Aside0.mk (XB.out.below HD0.out)
    have JR := Aside0.mk (Kd.R_below RB.out HD0.out)
    have JM := Aside0.mk (MB.out.below HD0.out)
    generalize wb.drew = wc at HD0 J5 J8 J9 JX JR JM ⊢
    clear G5 G8 G9 XB RB MB e304 hcut
    go_upto_region 15 with (first | ((with_reducible refine wps_one rfl 36 (.tmp 71) (.tmp 68) rfl JX.out ?off_16 ?cs_16 ?hx_16 ?hy_16 ?hv_16 ?h1_16 ?hi_16 ?hl_16 (mcL { yy with tv := Value.slice A 0 cc }) ?hL_16 ?_); (case hx_16 => rfl); (case hy_16 => rfl); (case hv_16 => rfl); (case h1_16 => rfl); (case hi_16 => exact size46); (case hl_16 => exact Nat.le_of_ble_eq_true rfl); (case hL_16 => rfl); intro w9 hb9 hf9; have VX := Aside0.mk hb9; have VF := Aside0.mk hf9; clear hb9 hf9))
    have hsz := HSZ.out
    have V5 := J5.out.fix VF.out (by show ¬ _ = _; omega)
    have V8 := Aside0.mk (J8.out.fix VF.out (by show ¬ _ = _; omega))
    have V9 := Aside0.mk (J9.out.fix VF.out (by show ¬ _ = _; omega))
    have VR := Aside0.mk (row_far JR.out JX.out VF.out)
    have VM := Aside0.mk (JM.out.fix VF.out (by have := HGL.out; show ¬ _ = _; omega))
    have HV5 := Aside0.mk V5
    clear V5
    refine start_ (n := 13) (S := fun w' => BL w' w.heap.size 30 (stL { s with regs := setR s.regs 0 nullC }) ∧ BL w' p91 51 (mcL { yy with tv := Value.slice A 0 cc })) (ds := []) #[false, false, false, false, false, false, false, false, false, false, false, false, false] (by kernel_rfl) rfl rfl ⟨HV5.out, VX.out⟩ (fun hHeld => ?_)
    refine with_tabW tab12_15 bits12_15 (fun HT_ HW_ => ?_)
    have HD1 : Aside0 (Below w9.heap.size w9 w9.drew) := ⟨below_drew (Below.refl _ _)⟩
    have U8 := Aside0.mk (V8.out.below HD1.out)
    have U9 := Aside0.mk (V9.out.below HD1.out)
    generalize w9.drew = wx at HD1 U8 U9 hHeld ⊢
    clear V8 V9
    refine take_ (i := 0) (N := some 72) (v := .agg (stL { s with regs := setR s.regs 0 nullC }).toArray) (a' := ?_) #[true, false, false, false, false, false, false, false, false, false, false, false, false] rfl rfl (take_ofW HT_.out HW_.out (by kernel_rfl)) (fun _ _ _ h => h) (yieldsIf_load_mid (by rfl) 30 (.tmp 5) rfl w.heap.size (0) rfl (stL { s with regs := setR s.regs 0 nullC }) _ (fun w' hS0 => BL.range hS0.1 0 (stL { s with regs := setR s.regs 0 nullC }) (by rw [List.drop_zero, List.take_length])) Try.underlying30 rfl size34) hHeld ?_ ?_
    rotate_left
    · skip
      simp only [Act.put, List.setIfInBounds_toArray, List.set_cons_zero, List.set_cons_succ, i64_w, i32_w]
      rfl
    refine pure_ (i := 1) (N := some 73) (v := ?_) (a' := ?_) #[true, true, false, false, false, false, false, false, false, false, false, false, false] rfl rfl (any_of HT_.out (by kernel_rfl)) (fun _ _ _ h => h) (Or.inl ⟨by rfl, ?_⟩) ?_ ?_
    rotate_left
    · intro w'
      go_simp
      with_reducible rfl
    rotate_left
    · skip
      simp only [Act.put, List.setIfInBounds_toArray, List.set_cons_zero, List.set_cons_succ, i64_w, i32_w]
      rfl
    refine pure_ (i := 3) (N := some 75) (v := ?_) (a' := ?_) #[true, true, false, true, false, false, false, false, false, false, false, false, false] rfl rfl (any_of HT_.out (by kernel_rfl)) (fun _ _ _ h => h) (Or.inl ⟨by rfl, ?_⟩) ?_ ?_
    rotate_left
    · intro w'
      go_simp
      with_reducible rfl
    rotate_left
    · skip
      simp only [Act.put, List.setIfInBounds_toArray, List.set_cons_zero, List.set_cons_succ, i64_w, i32_w]
      rfl
    refine pure_ (i := 4) (N := some 76) (v := ?_) (a' := ?_) #[true, true, false, true, true, false, false, false, false, false, false, false, false] rfl rfl (any_of HT_.out (by kernel_rfl)) (fun _ _ _ h => h) (Or.inl ⟨by rfl, ?_⟩) ?_ ?_
    rotate_left
    · intro w'
      go_simp
      with_reducible rfl
    rotate_left
    · skip
      simp only [Act.put, List.setIfInBounds_toArray, List.set_cons_zero, List.set_cons_succ, i64_w, i32_w]
      rfl
    refine pure_ (i := 5) (N := some 77) (v := ?_) (a' := ?_) #[true, true, false, true, true, true, false, false, false, false, false, false, false] rfl rfl (any_of HT_.out (by kernel_rfl)) (fun _ _ _ h => h) (Or.inl ⟨by rfl, ?_⟩) ?_ ?_
    rotate_left
    · intro w'
      go_simp
      with_reducible rfl
    rotate_left
    · skip
      simp only [Act.put, List.setIfInBounds_toArray, List.set_cons_zero, List.set_cons_succ, i64_w, i32_w]
      rfl
    refine pure_ (i := 6) (N := some 78) (v := ?_) (a' := ?_) #[true, true, false, true, true, true, true, false, false, false, false, false, false] rfl rfl (any_of HT_.out (by kernel_rfl)) (fun _ _ _ h => h) (Or.inl ⟨by rfl, ?_⟩) ?_ ?_
    rotate_left
    · intro w'
      go_simp
      with_reducible rfl
    rotate_left
    · skip
      simp only [Act.put, List.setIfInBounds_toArray, List.set_cons_zero, List.set_cons_succ, i64_w, i32_w]
      rfl
    refine pure_ (i := 7) (N := some 79) (v := ?_) (a' := ?_) #[true, true, false, true, true, true, true, true, false, false, false, false, false] rfl rfl (any_of HT_.out (by kernel_rfl)) (fun _ _ _ h => h) (Or.inl ⟨by rfl, ?_⟩) ?_ ?_
    rotate_left
    · intro w'
      go_simp
      with_reducible rfl
    rotate_left
    · skip
      simp only [Act.put, List.setIfInBounds_toArray, List.set_cons_zero, List.set_cons_succ, i64_w, i32_w]
      rfl
    refine take_ (i := 8) (N := some 80) (v := ?_) (a' := ?_) #[true, true, false, true, true, true, true, true, true, false, false, false, false] rfl rfl (take_ofW HT_.out HW_.out (by kernel_rfl)) (fun _ _ _ h => h) (Or.inl ⟨by rfl, ?_⟩) hHeld ?_ ?_
    rotate_left
    · intro w' hS0
      have e304 := hS0.2.cell 304 _ rfl
      go_simp
      with_reducible rfl
    rotate_left
    · skip
      simp only [Act.put, List.setIfInBounds_toArray, List.set_cons_zero, List.set_cons_succ, i64_w, i32_w]
      rfl
    refine pure_ (i := 9) (N := some 81) (v := ?_) (a' := ?_) #[true, true, false, true, true, true, true, true, true, true, false, false, false] rfl rfl (any_of HT_.out (by kernel_rfl)) (fun _ _ _ h => h) (Or.inl ⟨by rfl, ?_⟩) ?_ ?_
    rotate_left
    · intro w'
      go_simp
      with_reducible rfl
    rotate_left
    · skip
      simp only [Act.put, List.setIfInBounds_toArray, List.set_cons_zero, List.set_cons_succ, i64_w, i32_w]
      rfl
    refine one_ (i := 2) (N := some 74) #[true, true, true, true, true, true, true, true, true, true, false, false, false] rfl rfl (one_of HT_.out (by kernel_rfl)) (by decide) (fun K hK => ?_)
    refine goes_ Try.func9 (by kernel_rfl) rfl #[.agg (stL { s with regs := setR s.regs 0 nullC }).toArray, .int .u32 c] (by rfl) rfl rfl (by (try simp only [List.map_toArray, List.map_cons, List.map_nil]); first | done | rfl) ?_
    refine (trap_calls { s with regs := setR s.regs 0 nullC } c wx).mono ?_
    intro e wy h3
    obtain ⟨h3, hb3⟩ := h3
    subst h3
    refine ⟨_, rfl, ?_⟩
    refine hK.out _ _ ⟨hHeld.1.below hb3, hHeld.2.below hb3⟩ (fun hS3 => ?_)
    clear hK K
    refine norm_ (a' := ?_) ?_ ?_
    rotate_left
    · show Act.put _ (some 74) _ = _
      simp only [Act.put, List.setIfInBounds_toArray, List.set_cons_zero, List.set_cons_succ, i64_w, i32_w]
      rfl
    have U8' := U8.out.below hb3
    have U9' := U9.out.below hb3
    clear hHeld
    have hgl := HGL.out
    refine one_ (i := 10) (N := none) #[true, true, true, true, true, true, true, true, true, true, true, false, false] rfl rfl (one_of HT_.out (by kernel_rfl)) (by decide) (fun K hK => ?_)
    refine store_step (by rfl) rfl 30 (.tmp 8) (.tmp 74) rfl (w.heap.size + 1) 0 U8' (stL (trapS { s with regs := setR s.regs 0 nullC } c)) rfl rfl size34 (stL_one _) (Nat.le_of_ble_eq_true rfl) (fun wd s8 f8 => ?_)
    refine hK.out _ _ ⟨hS3.1.fix f8 (by show ¬ _ = _; omega), hS3.2.fix f8 (by show ¬ _ = _; omega)⟩ (fun hS10 => ?_)
    clear hK K
    have j9 := U9'.fix f8 (by show ¬ _ = _; omega)
    refine one_ (i := 11) (N := none) #[true, true, true, true, true, true, true, true, true, true, true, true, false] rfl rfl (one_of HT_.out (by kernel_rfl)) (by decide) (fun K hK => ?_)
    refine store_step (by rfl) rfl 38 (.tmp 9) (.tmp 81) rfl (w.heap.size + 1 + 1) 0 j9 (dnL ⟨c, Value.slice A 0 cc, false, 0, 0⟩) rfl rfl size48 (dn_one rfl) (Nat.le_of_ble_eq_true rfl) (fun we s9 f9 => ?_)
    refine hK.out _ _ ⟨hS10.1.fix f9 (by show ¬ _ = _; omega), hS10.2.fix f9 (by show ¬ _ = _; omega)⟩ (fun hS11 => ?_)
    clear hK K
    refine pure_ (i := 12) (N := some 10) (v := ?_) (a' := ?_) #[true, true, true, true, true, true, true, true, true, true, true, true, true] rfl rfl (any_of HT_.out (by kernel_rfl)) (fun _ _ _ h => h) (Or.inl ⟨by rfl, ?_⟩) ?_ ?_
    rotate_left
    · intro w'
      go_simp
      with_reducible rfl
    rotate_left
    · skip
      simp only [Act.put, List.setIfInBounds_toArray, List.set_cons_zero, List.set_cons_succ, i64_w, i32_w]
      rfl
    refine done_ (done_of HT_.out (by kernel_rfl)) ?_
    have Z8 := Aside0.mk (bl_of ⟨_, s8.fix f9 (by show ¬ _ = _; omega), splice_all _ _ (by rw [stL_len, stL_len])⟩)
    have Z9 := Aside0.mk (bl_of ⟨_, s9, splice_all _ _ rfl⟩)
    have M9 := Aside0.mk ((((VM.out.below HD1.out).below hb3).fix f8 (by show ¬ _ = _; omega)).fix f9 (by show ¬ _ = _; omega))
    have R9 := Aside0.mk (Kd.R_lower (row_far2 (row_far2 (Kd.R_below (Kd.R_below VR.out HD1.out) hb3) U8' (by decide) f8) j9 (by decide) f9) HBW.out.size)
    have HF9 : Aside0 (Fix (· = gm) w we) := ⟨((((((Fix.of HBW.out).up HFB.out (fun k hk h => h.elim (fun h => by omega) (fun h => h))).up (Fix.of (S := fun _ => False) HD0.out) (fun k hk h => h.elim)).up VF.out (fun k hk h => by omega)).up (Fix.of (S := fun _ => False) (HD1.out.trans (hb3.mono HD1.out.size))) (fun k hk h => h.elim)).up f8 (fun k hk h => by omega)).up f9 (fun k hk h => by omega)⟩
    clear s8 f8 s9 f9 j9 hS10 hS11 hS3 hsz hgl U8' U9' hb3
    go_wp2_with fail
    exact bodyPost_ret (results_step rfl rfl rfl rfl Z8.out Z9.out (stL_len _) rfl) rfl ⟨_, rfl, M9.out, R9.out, HF9.out⟩
set_option maxRecDepth 100000 in
set_option maxHeartbeats 8000000 in
theorem step_trap1 (gm : Nat) (M : Mem) (hM : MemOk M) (s : St) (timer : Bool) (ans c : Int) (hc : c ≠ 0) (hh : s.halted = false) (hto : (timer && s.on) = false) (T : List Tch) (hT : T.length = 1) (w : World) (hm : MemB w gm M)
    (hrun : ∀ (g : Nat) (w1 : World), BL w1 g 51 (mcL (⟨gm, { s with regs := setR s.regs 0 nullC }, { s with regs := setR s.regs 0 nullC }, 0, .slice none 0 0, false, 0, 0, ans⟩ : Mc)) → MemB w1 gm M → Calls Try.prog 10 #[.pointer (some ⟨g, 0, none⟩)] w1 fun e w2 => e = .returned (.int .u32 c) ∧ Fix (fun k => k = g ∨ k = gm) w1 w2 ∧ ∃ (yy : Mc) (tv : Value), BL w2 g 51 (mcL { yy with tv := tv }) ∧ MemB w2 gm M ∧ k52.R 54 w2 w1.heap.size (fun _ => True) tv T) :
    Calls Try.prog 4 #[.pointer (some ⟨gm, 0, none⟩), stV s, .bool timer, .int .u32 ans] w fun e w' => ∃ tv, e = .returned (.tuple #[stV (trapS { s with regs := setR s.regs 0 nullC } c), dnV ⟨c, tv, false, 0, 0⟩, .int .i64 0]) ∧ MemB w' gm M ∧ k52.R 54 w' w.heap.size (fun _ => True) tv T ∧ Fix (· = gm) w w' := by
  have HM := Aside0.mk hM
  have HR := Aside0.mk hrun
  have HH := Aside0.mk hh
  have HTO := Aside0.mk hto
  have HC := Aside0.mk hc
  have HT := Aside0.mk hT
  clear hrun hh hto hc hT
  have HMB := Aside0.mk hm
  clear hm
  obtain ⟨L, hL⟩ : ∃ L, stL s = L := ⟨_, rfl⟩
  show Calls _ _ #[_, .agg (stL s).toArray, _, _] _ _
  rw [hL]
  have HL := Aside0.mk hL
  clear hL
  go_enter Try.func4, Try.ntmps4
  go_upto_region 1 with (first | ((with_reducible refine wpList_allocT info30 rfl rfl ?_)))
  have hs1 : (w.alloc (Obj.cells L.toArray 30)).heap.size = w.heap.size + 1 := by simp
  have hs2 : ((w.alloc (Obj.cells L.toArray 30)).alloc (Obj.cells (stL zeroS).toArray 30)).heap.size = w.heap.size + 1 + 1 := by simp
  try rw [hs2]
  try rw [hs1]
  generalize hw1 : ((w.alloc (Obj.cells L.toArray 30)).alloc (Obj.cells (stL zeroS).toArray 30)).alloc (Obj.cells #[.int .u32 0, .slice none 0 0, .bool false, .int .u32 0, .int .u32 0] 38) = w1
  have HB1 : Aside0 (Below w.heap.size w w1) := ⟨by rw [← hw1]; exact below_alloc (below_alloc (below_alloc (Below.refl _ _) _) _) _⟩
  have B5 : Aside0 (BL w1 w.heap.size 30 L) := ⟨by rw [← hw1]; exact ((BL.new w L 30).below (below_alloc (Below.refl _ _) _)).below (below_alloc (Below.refl _ _) _)⟩
  have B8 : Aside0 (BL w1 (w.heap.size + 1) 30 (stL zeroS)) := ⟨by rw [← hw1]; have h := (BL.new (w.alloc (Obj.cells L.toArray 30)) (stL zeroS) 30).below (below_alloc (Below.refl _ _) (Obj.cells #[.int .u32 0, .slice none 0 0, .bool false, .int .u32 0, .int .u32 0] 38)); rw [hs1] at h; exact h⟩
  have B9 : Aside0 (BL w1 (w.heap.size + 1 + 1) 38 (dnL zeroD)) := ⟨by rw [← hw1]; have h := BL.new ((w.alloc (Obj.cells L.toArray 30)).alloc (Obj.cells (stL zeroS).toArray 30)) (dnL zeroD) 38; rw [hs2] at h; exact h⟩
  clear hw1 hs1 hs2
  try simp only [Act.put, List.setIfInBounds_toArray, List.set_cons_zero, List.set_cons_succ]
  have HLD : Aside0 (∀ w, MemB w gm M → Calls Try.prog 7 #[.pointer (some ⟨gm, 0, none⟩), .int .u32 0, .int .i64 1] w fun e w' => e = .returned (.tuple #[.int .u32 (loadS M 0 1), .int .i64 0]) ∧ Below w.heap.size w w') := ⟨fun w h => load_calls gm 0 1 M hM (by decide) (by decide) (by decide) w h⟩
  clear hM
  go_upto_region 4 with (first | (go_at_call 7; (with_reducible refine (HLD.out _ (HMB.out.below HB1.out)).mono ?_); rintro _ w2 ⟨rfl, hb⟩; have HB2 := Aside0.mk (HB1.out.trans (hb.mono HB1.out.size)); have B5' := Aside0.mk (B5.out.below hb); have B8' := Aside0.mk (B8.out.below hb); have B9' := Aside0.mk (B9.out.below hb); clear hb))
  rw [← HL.out] at B5'
  clear HLD B5 B8 B9 HB1
  go_upto_region 6 with fail
  go_upto_region 7 with (first | (go_at_call 8; (with_reducible refine (null_calls _).mono ?_); rintro _ w3 ⟨rfl, hb⟩; have HB3 := Aside0.mk (HB2.out.trans (hb.mono HB2.out.size)); have C5 := Aside0.mk (B5'.out.below hb); have C8 := Aside0.mk (B8'.out.below hb); have C9 := Aside0.mk (B9'.out.below hb); clear hb) | ((with_reducible refine wps_agg rfl 27 (.tmp 30) (.tmp 28) rfl C5.out ?off_17 ?cs_17 ?hx_17 ?hy_17 ?hi_17 ?h1_17 ?hl_17 (stL { s with regs := setR s.regs 0 nullC }) ?hL_17 ?_); (case hx_17 => rfl); (case hy_17 => rfl); (case hi_17 => exact size31); (case h1_17 => simp [Value.oneCell']); (case hl_17 => exact Nat.le_of_ble_eq_true rfl); (case hL_17 => rfl); intro w9 hb9 hf9; have D5 := Aside0.mk hb9; have B8' := Aside0.mk (C8.out.fix hf9 (by show ¬ _ = _; omega)); have B9' := Aside0.mk (C9.out.fix hf9 (by show ¬ _ = _; omega)); have HBZ : Aside0 (Below w.heap.size w w9) := ⟨HB3.out.trans (hf9.below (B := w.heap.size) HB3.out.size (fun k hk => by omega))⟩; clear hb9 hf9))
  have x150 := D5.out.cell 150 _ rfl
  have x148 := D5.out.cell 148 _ rfl
  clear C5 C8 C9 B5' HB2 HB3
  rw [show ({ s with regs := setR s.regs 0 nullC } : St).halted = false from HH.out] at x150
  rw [show ({ s with regs := setR s.regs 0 nullC } : St).on = s.on from rfl] at x148
  cases timer
  · go_upto_region 12 with (first | ((with_reducible refine wpl_agg rfl 30 (.tmp 5) rfl D5.out ?off_18 (stL { s with regs := setR s.regs 0 nullC }) ?hx_18 ?hc_18 _ Try.underlying30 ?hd_18 ?hi_18 ?_); (case hx_18 => rfl); (case hc_18 => rfl); (case hd_18 => rfl); (case hi_18 => exact size34)) | ((with_reducible refine wpl_build rfl 51 #[(0, .tmp 45), (1, .tmp 46), (2, .tmp 47), (4, .tmp 48)] rfl (mcL (⟨gm, { s with regs := setR s.regs 0 nullC }, { s with regs := setR s.regs 0 nullC }, 0, .slice none 0 0, false, 0, 0, ans⟩ : Mc)) ?hbmf1 ?_); (case hbmf1 => simp only [List.map_toArray, List.map_cons, List.map_nil]; exact built91 gm { s with regs := setR s.regs 0 nullC } { s with regs := setR s.regs 0 nullC } ans)))
    generalize hwq : w9.alloc (Obj.cells (mcL (⟨gm, { s with regs := setR s.regs 0 nullC }, { s with regs := setR s.regs 0 nullC }, 0, .slice none 0 0, false, 0, 0, ans⟩ : Mc)).toArray 51) = wa
    have HBA : Aside0 (Below w9.heap.size w9 wa) := ⟨by rw [← hwq]; exact below_alloc (Below.refl _ _) _⟩
    have XA : Aside0 (BL wa w9.heap.size 51 (mcL (⟨gm, { s with regs := setR s.regs 0 nullC }, { s with regs := setR s.regs 0 nullC }, 0, .slice none 0 0, false, 0, 0, ans⟩ : Mc))) := ⟨by rw [← hwq]; exact BL.new _ _ _⟩
    clear hwq x150 x148
    have E5 := Aside0.mk (D5.out.below HBA.out)
    have E8 := Aside0.mk (B8'.out.below HBA.out)
    have E9 := Aside0.mk (B9'.out.below HBA.out)
    have HBW := Aside0.mk (HBZ.out.trans (HBA.out.mono HBZ.out.size))
    have HGL : Aside0 (gm < w.heap.size) := ⟨HMB.out.lt⟩
    have HSZ : Aside0 (w.heap.size + 1 + 1 < w9.heap.size) := ⟨B9'.out.lt⟩
    generalize w9.heap.size = p91 at XA HSZ ⊢
    have HRUN := Aside0.mk (HR.out p91 wa XA.out (HMB.out.below HBW.out))
    clear D5 B8' B9' HR
    have c1 : (c == 0) = false := beq_eq_false_iff_ne.2 HC.out
    have c2 : ¬ c = 0 := HC.out
    have c3 : (c != 0) = true := by simp [c2]
    go_upto_region 13 with (first | (go_at_call 10; (with_reducible refine HRUN.out.mono ?_); rintro _ wb ⟨rfl, hfx, yy, tv2, hbl, hmm, hrr⟩; have G5 := Aside0.mk (E5.out.fix hfx (by have := HGL.out; have := HSZ.out; exact fun h => h.elim (fun h => by omega) (fun h => by omega))); have G8 := Aside0.mk (E8.out.fix hfx (by have := HGL.out; have := HSZ.out; exact fun h => h.elim (fun h => by omega) (fun h => by omega))); have G9 := Aside0.mk (E9.out.fix hfx (by have := HGL.out; have := HSZ.out; exact fun h => h.elim (fun h => by omega) (fun h => by omega))); have XB := Aside0.mk hbl; have MB := Aside0.mk hmm; have RB := Aside0.mk hrr; have HFB := Aside0.mk hfx; clear hbl hmm hrr hfx))
    go_upto_region 14 with fail
    clear c1 c2 c3
    obtain ⟨A, cc, hv, hcc, -⟩ := Kd.R_reads RB.out
    rw [HT.out] at hv hcc
    subst hv
    have hcut : ∀ W : World, (Instr.slice 36 (.slice A 1 cc) none (some (.int .i64 1)) none).run Try.prog W = .ok (.slice A 1 cc) W := fun W => run_same A 1 cc hcc W
    have e304 := XB.out.cell 304 _ rfl
    go_still_tail 17, (by kernel_rfl)
    change wpList _ _ _ _ _ wb.drew
    have HD0 : Aside0 (Below wb.heap.size wb wb.drew) := ⟨below_drew (Below.refl _ _)⟩
    have J5 := Aside0.mk (G5.out.below HD0.out)
    have J8 := Aside0.mk (G8.out.below HD0.out)
    have J9 := Aside0.mk (G9.out.below HD0.out)
    have JX := Aside0.mk (XB.out.below HD0.out)
    have JR := Aside0.mk (Kd.R_below RB.out HD0.out)
    have JM := Aside0.mk (MB.out.below HD0.out)
    generalize wb.drew = wc at HD0 J5 J8 J9 JX JR JM ⊢
    clear G5 G8 G9 XB RB MB e304 hcut
    go_upto_region 15 with (first | ((with_reducible refine wps_one rfl 36 (.tmp 71) (.tmp 68) rfl JX.out ?off_19 ?cs_19 ?hx_19 ?hy_19 ?hv_19 ?h1_19 ?hi_19 ?hl_19 (mcL { yy with tv := Value.slice A 1 cc }) ?hL_19 ?_); (case hx_19 => rfl); (case hy_19 => rfl); (case hv_19 => rfl); (case h1_19 => rfl); (case hi_19 => exact size46); (case hl_19 => exact Nat.le_of_ble_eq_true rfl); (case hL_19 => rfl); intro w9 hb9 hf9; have VX := Aside0.mk hb9; have VF := Aside0.mk hf9; clear hb9 hf9))
    have hsz := HSZ.out
    have V5 := J5.out.fix VF.out (by show ¬ _ = _; omega)
    have V8 := Aside0.mk (J8.out.fix VF.out (by show ¬ _ = _; omega))
    have V9 := Aside0.mk (J9.out.fix VF.out (by show ¬ _ = _; omega))
    have VR := Aside0.mk (row_far JR.out JX.out VF.out)
    have VM := Aside0.mk (JM.out.fix VF.out (by have := HGL.out; show ¬ _ = _; omega))
    have HV5 := Aside0.mk V5
    clear V5
    refine start_ (n := 13) (S := fun w' => BL w' w.heap.size 30 (stL { s with regs := setR s.regs 0 nullC }) ∧ BL w' p91 51 (mcL { yy with tv := Value.slice A 1 cc })) (ds := []) #[false, false, false, false, false, false, false, false, false, false, false, false, false] (by kernel_rfl) rfl rfl ⟨HV5.out, VX.out⟩ (fun hHeld => ?_)
    refine with_tabW tab12_15 bits12_15 (fun HT_ HW_ => ?_)
    have HD1 : Aside0 (Below w9.heap.size w9 w9.drew) := ⟨below_drew (Below.refl _ _)⟩
    have U8 := Aside0.mk (V8.out.below HD1.out)
    have U9 := Aside0.mk (V9.out.below HD1.out)
    generalize w9.drew = wx at HD1 U8 U9 hHeld ⊢
    clear V8 V9
    refine take_ (i := 0) (N := some 72) (v := .agg (stL { s with regs := setR s.regs 0 nullC }).toArray) (a' := ?_) #[true, false, false, false, false, false, false, false, false, false, false, false, false] rfl rfl (take_ofW HT_.out HW_.out (by kernel_rfl)) (fun _ _ _ h => h) (yieldsIf_load_mid (by rfl) 30 (.tmp 5) rfl w.heap.size (0) rfl (stL { s with regs := setR s.regs 0 nullC }) _ (fun w' hS0 => BL.range hS0.1 0 (stL { s with regs := setR s.regs 0 nullC }) (by rw [List.drop_zero, List.take_length])) Try.underlying30 rfl size34) hHeld ?_ ?_
    rotate_left
    · skip
      simp only [Act.put, List.setIfInBounds_toArray, List.set_cons_zero, List.set_cons_succ, i64_w, i32_w]
      rfl
    refine pure_ (i := 1) (N := some 73) (v := ?_) (a' := ?_) #[true, true, false, false, false, false, false, false, false, false, false, false, false] rfl rfl (any_of HT_.out (by kernel_rfl)) (fun _ _ _ h => h) (Or.inl ⟨by rfl, ?_⟩) ?_ ?_
    rotate_left
    · intro w'
      go_simp
      with_reducible rfl
    rotate_left
    · skip
      simp only [Act.put, List.setIfInBounds_toArray, List.set_cons_zero, List.set_cons_succ, i64_w, i32_w]
      rfl
    refine pure_ (i := 3) (N := some 75) (v := ?_) (a' := ?_) #[true, true, false, true, false, false, false, false, false, false, false, false, false] rfl rfl (any_of HT_.out (by kernel_rfl)) (fun _ _ _ h => h) (Or.inl ⟨by rfl, ?_⟩) ?_ ?_
    rotate_left
    · intro w'
      go_simp
      with_reducible rfl
    rotate_left
    · skip
      simp only [Act.put, List.setIfInBounds_toArray, List.set_cons_zero, List.set_cons_succ, i64_w, i32_w]
      rfl
    refine pure_ (i := 4) (N := some 76) (v := ?_) (a' := ?_) #[true, true, false, true, true, false, false, false, false, false, false, false, false] rfl rfl (any_of HT_.out (by kernel_rfl)) (fun _ _ _ h => h) (Or.inl ⟨by rfl, ?_⟩) ?_ ?_
    rotate_left
    · intro w'
      go_simp
      with_reducible rfl
    rotate_left
    · skip
      simp only [Act.put, List.setIfInBounds_toArray, List.set_cons_zero, List.set_cons_succ, i64_w, i32_w]
      rfl
    refine pure_ (i := 5) (N := some 77) (v := ?_) (a' := ?_) #[true, true, false, true, true, true, false, false, false, false, false, false, false] rfl rfl (any_of HT_.out (by kernel_rfl)) (fun _ _ _ h => h) (Or.inl ⟨by rfl, ?_⟩) ?_ ?_
    rotate_left
    · intro w'
      go_simp
      with_reducible rfl
    rotate_left
    · skip
      simp only [Act.put, List.setIfInBounds_toArray, List.set_cons_zero, List.set_cons_succ, i64_w, i32_w]
      rfl
    refine pure_ (i := 6) (N := some 78) (v := ?_) (a' := ?_) #[true, true, false, true, true, true, true, false, false, false, false, false, false] rfl rfl (any_of HT_.out (by kernel_rfl)) (fun _ _ _ h => h) (Or.inl ⟨by rfl, ?_⟩) ?_ ?_
    rotate_left
    · intro w'
      go_simp
      with_reducible rfl
    rotate_left
    · skip
      simp only [Act.put, List.setIfInBounds_toArray, List.set_cons_zero, List.set_cons_succ, i64_w, i32_w]
      rfl
    refine pure_ (i := 7) (N := some 79) (v := ?_) (a' := ?_) #[true, true, false, true, true, true, true, true, false, false, false, false, false] rfl rfl (any_of HT_.out (by kernel_rfl)) (fun _ _ _ h => h) (Or.inl ⟨by rfl, ?_⟩) ?_ ?_
    rotate_left
    · intro w'
      go_simp
      with_reducible rfl
    rotate_left
    · skip
      simp only [Act.put, List.setIfInBounds_toArray, List.set_cons_zero, List.set_cons_succ, i64_w, i32_w]
      rfl
    refine take_ (i := 8) (N := some 80) (v := ?_) (a' := ?_) #[true, true, false, true, true, true, true, true, true, false, false, false, false] rfl rfl (take_ofW HT_.out HW_.out (by kernel_rfl)) (fun _ _ _ h => h) (Or.inl ⟨by rfl, ?_⟩) hHeld ?_ ?_
    rotate_left
    · intro w' hS0
      have e304 := hS0.2.cell 304 _ rfl
      go_simp
      with_reducible rfl
    rotate_left
    · skip
      simp only [Act.put, List.setIfInBounds_toArray, List.set_cons_zero, List.set_cons_succ, i64_w, i32_w]
      rfl
    refine pure_ (i := 9) (N := some 81) (v := ?_) (a' := ?_) #[true, true, false, true, true, true, true, true, true, true, false, false, false] rfl rfl (any_of HT_.out (by kernel_rfl)) (fun _ _ _ h => h) (Or.inl ⟨by rfl, ?_⟩) ?_ ?_
    rotate_left
    · intro w'
      go_simp
      with_reducible rfl
    rotate_left
    · skip
      simp only [Act.put, List.setIfInBounds_toArray, List.set_cons_zero, List.set_cons_succ, i64_w, i32_w]
      rfl
    refine one_ (i := 2) (N := some 74) #[true, true, true, true, true, true, true, true, true, true, false, false, false] rfl rfl (one_of HT_.out (by kernel_rfl)) (by decide) (fun K hK => ?_)
    refine goes_ Try.func9 (by kernel_rfl) rfl #[.agg (stL { s with regs := setR s.regs 0 nullC }).toArray, .int .u32 c] (by rfl) rfl rfl (by (try simp only [List.map_toArray, List.map_cons, List.map_nil]); first | done | rfl) ?_
    refine (trap_calls { s with regs := setR s.regs 0 nullC } c wx).mono ?_
    intro e wy h3
    obtain ⟨h3, hb3⟩ := h3
    subst h3
    refine ⟨_, rfl, ?_⟩
    refine hK.out _ _ ⟨hHeld.1.below hb3, hHeld.2.below hb3⟩ (fun hS3 => ?_)
    clear hK K
    refine norm_ (a' := ?_) ?_ ?_
    rotate_left
    · show Act.put _ (some 74) _ = _
      simp only [Act.put, List.setIfInBounds_toArray, List.set_cons_zero, List.set_cons_succ, i64_w, i32_w]
      rfl
    have U8' := U8.out.below hb3
    have U9' := U9.out.below hb3
    clear hHeld
    have hgl := HGL.out
    refine one_ (i := 10) (N := none) #[true, true, true, true, true, true, true, true, true, true, true, false, false] rfl rfl (one_of HT_.out (by kernel_rfl)) (by decide) (fun K hK => ?_)
    refine store_step (by rfl) rfl 30 (.tmp 8) (.tmp 74) rfl (w.heap.size + 1) 0 U8' (stL (trapS { s with regs := setR s.regs 0 nullC } c)) rfl rfl size34 (stL_one _) (Nat.le_of_ble_eq_true rfl) (fun wd s8 f8 => ?_)
    refine hK.out _ _ ⟨hS3.1.fix f8 (by show ¬ _ = _; omega), hS3.2.fix f8 (by show ¬ _ = _; omega)⟩ (fun hS10 => ?_)
    clear hK K
    have j9 := U9'.fix f8 (by show ¬ _ = _; omega)
    refine one_ (i := 11) (N := none) #[true, true, true, true, true, true, true, true, true, true, true, true, false] rfl rfl (one_of HT_.out (by kernel_rfl)) (by decide) (fun K hK => ?_)
    refine store_step (by rfl) rfl 38 (.tmp 9) (.tmp 81) rfl (w.heap.size + 1 + 1) 0 j9 (dnL ⟨c, Value.slice A 1 cc, false, 0, 0⟩) rfl rfl size48 (dn_one rfl) (Nat.le_of_ble_eq_true rfl) (fun we s9 f9 => ?_)
    refine hK.out _ _ ⟨hS10.1.fix f9 (by show ¬ _ = _; omega), hS10.2.fix f9 (by show ¬ _ = _; omega)⟩ (fun hS11 => ?_)
    clear hK K
    refine pure_ (i := 12) (N := some 10) (v := ?_) (a' := ?_) #[true, true, true, true, true, true, true, true, true, true, true, true, true] rfl rfl (any_of HT_.out (by kernel_rfl)) (fun _ _ _ h => h) (Or.inl ⟨by rfl, ?_⟩) ?_ ?_
    rotate_left
    · intro w'
      go_simp
      with_reducible rfl
    rotate_left
    · skip
      simp only [Act.put, List.setIfInBounds_toArray, List.set_cons_zero, List.set_cons_succ, i64_w, i32_w]
      rfl
    refine done_ (done_of HT_.out (by kernel_rfl)) ?_
    have Z8 := Aside0.mk (bl_of ⟨_, s8.fix f9 (by show ¬ _ = _; omega), splice_all _ _ (by rw [stL_len, stL_len])⟩)
    have Z9 := Aside0.mk (bl_of ⟨_, s9, splice_all _ _ rfl⟩)
    have M9 := Aside0.mk ((((VM.out.below HD1.out).below hb3).fix f8 (by show ¬ _ = _; omega)).fix f9 (by show ¬ _ = _; omega))
    have R9 := Aside0.mk (Kd.R_lower (row_far2 (row_far2 (Kd.R_below (Kd.R_below VR.out HD1.out) hb3) U8' (by decide) f8) j9 (by decide) f9) HBW.out.size)
    have HF9 : Aside0 (Fix (· = gm) w we) := ⟨((((((Fix.of HBW.out).up HFB.out (fun k hk h => h.elim (fun h => by omega) (fun h => h))).up (Fix.of (S := fun _ => False) HD0.out) (fun k hk h => h.elim)).up VF.out (fun k hk h => by omega)).up (Fix.of (S := fun _ => False) (HD1.out.trans (hb3.mono HD1.out.size))) (fun k hk h => h.elim)).up f8 (fun k hk h => by omega)).up f9 (fun k hk h => by omega)⟩
    clear s8 f8 s9 f9 j9 hS10 hS11 hS3 hsz hgl U8' U9' hb3
    go_wp2_with fail
    exact bodyPost_ret (results_step rfl rfl rfl rfl Z8.out Z9.out (stL_len _) rfl) rfl ⟨_, rfl, M9.out, R9.out, HF9.out⟩
  · have hon : s.on = false := HTO.out
    rw [hon] at x148
    clear hon
    go_upto_region 12 with (first | ((with_reducible refine wpl_agg rfl 30 (.tmp 5) rfl D5.out ?off_20 (stL { s with regs := setR s.regs 0 nullC }) ?hx_20 ?hc_20 _ Try.underlying30 ?hd_20 ?hi_20 ?_); (case hx_20 => rfl); (case hc_20 => rfl); (case hd_20 => rfl); (case hi_20 => exact size34)) | ((with_reducible refine wpl_build rfl 51 #[(0, .tmp 45), (1, .tmp 46), (2, .tmp 47), (4, .tmp 48)] rfl (mcL (⟨gm, { s with regs := setR s.regs 0 nullC }, { s with regs := setR s.regs 0 nullC }, 0, .slice none 0 0, false, 0, 0, ans⟩ : Mc)) ?hbmt1 ?_); (case hbmt1 => simp only [List.map_toArray, List.map_cons, List.map_nil]; exact built91 gm { s with regs := setR s.regs 0 nullC } { s with regs := setR s.regs 0 nullC } ans)))
    generalize hwq : w9.alloc (Obj.cells (mcL (⟨gm, { s with regs := setR s.regs 0 nullC }, { s with regs := setR s.regs 0 nullC }, 0, .slice none 0 0, false, 0, 0, ans⟩ : Mc)).toArray 51) = wa
    have HBA : Aside0 (Below w9.heap.size w9 wa) := ⟨by rw [← hwq]; exact below_alloc (Below.refl _ _) _⟩
    have XA : Aside0 (BL wa w9.heap.size 51 (mcL (⟨gm, { s with regs := setR s.regs 0 nullC }, { s with regs := setR s.regs 0 nullC }, 0, .slice none 0 0, false, 0, 0, ans⟩ : Mc))) := ⟨by rw [← hwq]; exact BL.new _ _ _⟩
    clear hwq x150 x148
    have E5 := Aside0.mk (D5.out.below HBA.out)
    have E8 := Aside0.mk (B8'.out.below HBA.out)
    have E9 := Aside0.mk (B9'.out.below HBA.out)
    have HBW := Aside0.mk (HBZ.out.trans (HBA.out.mono HBZ.out.size))
    have HGL : Aside0 (gm < w.heap.size) := ⟨HMB.out.lt⟩
    have HSZ : Aside0 (w.heap.size + 1 + 1 < w9.heap.size) := ⟨B9'.out.lt⟩
    generalize w9.heap.size = p91 at XA HSZ ⊢
    have HRUN := Aside0.mk (HR.out p91 wa XA.out (HMB.out.below HBW.out))
    clear D5 B8' B9' HR
    have c1 : (c == 0) = false := beq_eq_false_iff_ne.2 HC.out
    have c2 : ¬ c = 0 := HC.out
    have c3 : (c != 0) = true := by simp [c2]
    go_upto_region 13 with (first | (go_at_call 10; (with_reducible refine HRUN.out.mono ?_); rintro _ wb ⟨rfl, hfx, yy, tv2, hbl, hmm, hrr⟩; have G5 := Aside0.mk (E5.out.fix hfx (by have := HGL.out; have := HSZ.out; exact fun h => h.elim (fun h => by omega) (fun h => by omega))); have G8 := Aside0.mk (E8.out.fix hfx (by have := HGL.out; have := HSZ.out; exact fun h => h.elim (fun h => by omega) (fun h => by omega))); have G9 := Aside0.mk (E9.out.fix hfx (by have := HGL.out; have := HSZ.out; exact fun h => h.elim (fun h => by omega) (fun h => by omega))); have XB := Aside0.mk hbl; have MB := Aside0.mk hmm; have RB := Aside0.mk hrr; have HFB := Aside0.mk hfx; clear hbl hmm hrr hfx))
    go_upto_region 14 with fail
    clear c1 c2 c3
    obtain ⟨A, cc, hv, hcc, -⟩ := Kd.R_reads RB.out
    rw [HT.out] at hv hcc
    subst hv
    have hcut : ∀ W : World, (Instr.slice 36 (.slice A 1 cc) none (some (.int .i64 1)) none).run Try.prog W = .ok (.slice A 1 cc) W := fun W => run_same A 1 cc hcc W
    have e304 := XB.out.cell 304 _ rfl
    go_still_tail 17, (by kernel_rfl)
    change wpList _ _ _ _ _ wb.drew
    have HD0 : Aside0 (Below wb.heap.size wb wb.drew) := ⟨below_drew (Below.refl _ _)⟩
    have J5 := Aside0.mk (G5.out.below HD0.out)
    have J8 := Aside0.mk (G8.out.below HD0.out)
    have J9 := Aside0.mk (G9.out.below HD0.out)
    have JX := Aside0.mk (XB.out.below HD0.out)
    have JR := Aside0.mk (Kd.R_below RB.out HD0.out)
    have JM := Aside0.mk (MB.out.below HD0.out)
    generalize wb.drew = wc at HD0 J5 J8 J9 JX JR JM ⊢
    clear G5 G8 G9 XB RB MB e304 hcut
    go_upto_region 15 with (first | ((with_reducible refine wps_one rfl 36 (.tmp 71) (.tmp 68) rfl JX.out ?off_21 ?cs_21 ?hx_21 ?hy_21 ?hv_21 ?h1_21 ?hi_21 ?hl_21 (mcL { yy with tv := Value.slice A 1 cc }) ?hL_21 ?_); (case hx_21 => rfl); (case hy_21 => rfl); (case hv_21 => rfl); (case h1_21 => rfl); (case hi_21 => exact size46); (case hl_21 => exact Nat.le_of_ble_eq_true rfl); (case hL_21 => rfl); intro w9 hb9 hf9; have VX := Aside0.mk hb9; have VF := Aside0.mk hf9; clear hb9 hf9))
    have hsz := HSZ.out
    have V5 := J5.out.fix VF.out (by show ¬ _ = _; omega)
    have V8 := Aside0.mk (J8.out.fix VF.out (by show ¬ _ = _; omega))
    have V9 := Aside0.mk (J9.out.fix VF.out (by show ¬ _ = _; omega))
    have VR := Aside0.mk (row_far JR.out JX.out VF.out)
    have VM := Aside0.mk (JM.out.fix VF.out (by have := HGL.out; show ¬ _ = _; omega))
    have HV5 := Aside0.mk V5
    clear V5
    refine start_ (n := 13) (S := fun w' => BL w' w.heap.size 30 (stL { s with regs := setR s.regs 0 nullC }) ∧ BL w' p91 51 (mcL { yy with tv := Value.slice A 1 cc })) (ds := []) #[false, false, false, false, false, false, false, false, false, false, false, false, false] (by kernel_rfl) rfl rfl ⟨HV5.out, VX.out⟩ (fun hHeld => ?_)
    refine with_tabW tab12_15 bits12_15 (fun HT_ HW_ => ?_)
    have HD1 : Aside0 (Below w9.heap.size w9 w9.drew) := ⟨below_drew (Below.refl _ _)⟩
    have U8 := Aside0.mk (V8.out.below HD1.out)
    have U9 := Aside0.mk (V9.out.below HD1.out)
    generalize w9.drew = wx at HD1 U8 U9 hHeld ⊢
    clear V8 V9
    refine take_ (i := 0) (N := some 72) (v := .agg (stL { s with regs := setR s.regs 0 nullC }).toArray) (a' := ?_) #[true, false, false, false, false, false, false, false, false, false, false, false, false] rfl rfl (take_ofW HT_.out HW_.out (by kernel_rfl)) (fun _ _ _ h => h) (yieldsIf_load_mid (by rfl) 30 (.tmp 5) rfl w.heap.size (0) rfl (stL { s with regs := setR s.regs 0 nullC }) _ (fun w' hS0 => BL.range hS0.1 0 (stL { s with regs := setR s.regs 0 nullC }) (by rw [List.drop_zero, List.take_length])) Try.underlying30 rfl size34) hHeld ?_ ?_
    rotate_left
    · skip
      simp only [Act.put, List.setIfInBounds_toArray, List.set_cons_zero, List.set_cons_succ, i64_w, i32_w]
      rfl
    refine pure_ (i := 1) (N := some 73) (v := ?_) (a' := ?_) #[true, true, false, false, false, false, false, false, false, false, false, false, false] rfl rfl (any_of HT_.out (by kernel_rfl)) (fun _ _ _ h => h) (Or.inl ⟨by rfl, ?_⟩) ?_ ?_
    rotate_left
    · intro w'
      go_simp
      with_reducible rfl
    rotate_left
    · skip
      simp only [Act.put, List.setIfInBounds_toArray, List.set_cons_zero, List.set_cons_succ, i64_w, i32_w]
      rfl
    refine pure_ (i := 3) (N := some 75) (v := ?_) (a' := ?_) #[true, true, false, true, false, false, false, false, false, false, false, false, false] rfl rfl (any_of HT_.out (by kernel_rfl)) (fun _ _ _ h => h) (Or.inl ⟨by rfl, ?_⟩) ?_ ?_
    rotate_left
    · intro w'
      go_simp
      with_reducible rfl
    rotate_left
    · skip
      simp only [Act.put, List.setIfInBounds_toArray, List.set_cons_zero, List.set_cons_succ, i64_w, i32_w]
      rfl
    refine pure_ (i := 4) (N := some 76) (v := ?_) (a' := ?_) #[true, true, false, true, true, false, false, false, false, false, false, false, false] rfl rfl (any_of HT_.out (by kernel_rfl)) (fun _ _ _ h => h) (Or.inl ⟨by rfl, ?_⟩) ?_ ?_
    rotate_left
    · intro w'
      go_simp
      with_reducible rfl
    rotate_left
    · skip
      simp only [Act.put, List.setIfInBounds_toArray, List.set_cons_zero, List.set_cons_succ, i64_w, i32_w]
      rfl
    refine pure_ (i := 5) (N := some 77) (v := ?_) (a' := ?_) #[true, true, false, true, true, true, false, false, false, false, false, false, false] rfl rfl (any_of HT_.out (by kernel_rfl)) (fun _ _ _ h => h) (Or.inl ⟨by rfl, ?_⟩) ?_ ?_
    rotate_left
    · intro w'
      go_simp
      with_reducible rfl
    rotate_left
    · skip
      simp only [Act.put, List.setIfInBounds_toArray, List.set_cons_zero, List.set_cons_succ, i64_w, i32_w]
      rfl
    refine pure_ (i := 6) (N := some 78) (v := ?_) (a' := ?_) #[true, true, false, true, true, true, true, false, false, false, false, false, false] rfl rfl (any_of HT_.out (by kernel_rfl)) (fun _ _ _ h => h) (Or.inl ⟨by rfl, ?_⟩) ?_ ?_
    rotate_left
    · intro w'
      go_simp
      with_reducible rfl
    rotate_left
    · skip
      simp only [Act.put, List.setIfInBounds_toArray, List.set_cons_zero, List.set_cons_succ, i64_w, i32_w]
      rfl
    refine pure_ (i := 7) (N := some 79) (v := ?_) (a' := ?_) #[true, true, false, true, true, true, true, true, false, false, false, false, false] rfl rfl (any_of HT_.out (by kernel_rfl)) (fun _ _ _ h => h) (Or.inl ⟨by rfl, ?_⟩) ?_ ?_
    rotate_left
    · intro w'
      go_simp
      with_reducible rfl
    rotate_left
    · skip
      simp only [Act.put, List.setIfInBounds_toArray, List.set_cons_zero, List.set_cons_succ, i64_w, i32_w]
      rfl
    refine take_ (i := 8) (N := some 80) (v := ?_) (a' := ?_) #[true, true, false, true, true, true, true, true, true, false, false, false, false] rfl rfl (take_ofW HT_.out HW_.out (by kernel_rfl)) (fun _ _ _ h => h) (Or.inl ⟨by rfl, ?_⟩) hHeld ?_ ?_
    rotate_left
    · intro w' hS0
      have e304 := hS0.2.cell 304 _ rfl
      go_simp
      with_reducible rfl
    rotate_left
    · skip
      simp only [Act.put, List.setIfInBounds_toArray, List.set_cons_zero, List.set_cons_succ, i64_w, i32_w]
      rfl
    refine pure_ (i := 9) (N := some 81) (v := ?_) (a' := ?_) #[true, true, false, true, true, true, true, true, true, true, false, false, false] rfl rfl (any_of HT_.out (by kernel_rfl)) (fun _ _ _ h => h) (Or.inl ⟨by rfl, ?_⟩) ?_ ?_
    rotate_left
    · intro w'
      go_simp
      with_reducible rfl
    rotate_left
    · skip
      simp only [Act.put, List.setIfInBounds_toArray, List.set_cons_zero, List.set_cons_succ, i64_w, i32_w]
      rfl
    refine one_ (i := 2) (N := some 74) #[true, true, true, true, true, true, true, true, true, true, false, false, false] rfl rfl (one_of HT_.out (by kernel_rfl)) (by decide) (fun K hK => ?_)
    refine goes_ Try.func9 (by kernel_rfl) rfl #[.agg (stL { s with regs := setR s.regs 0 nullC }).toArray, .int .u32 c] (by rfl) rfl rfl (by (try simp only [List.map_toArray, List.map_cons, List.map_nil]); first | done | rfl) ?_
    refine (trap_calls { s with regs := setR s.regs 0 nullC } c wx).mono ?_
    intro e wy h3
    obtain ⟨h3, hb3⟩ := h3
    subst h3
    refine ⟨_, rfl, ?_⟩
    refine hK.out _ _ ⟨hHeld.1.below hb3, hHeld.2.below hb3⟩ (fun hS3 => ?_)
    clear hK K
    refine norm_ (a' := ?_) ?_ ?_
    rotate_left
    · show Act.put _ (some 74) _ = _
      simp only [Act.put, List.setIfInBounds_toArray, List.set_cons_zero, List.set_cons_succ, i64_w, i32_w]
      rfl
    have U8' := U8.out.below hb3
    have U9' := U9.out.below hb3
    clear hHeld
    have hgl := HGL.out
    refine one_ (i := 10) (N := none) #[true, true, true, true, true, true, true, true, true, true, true, false, false] rfl rfl (one_of HT_.out (by kernel_rfl)) (by decide) (fun K hK => ?_)
    refine store_step (by rfl) rfl 30 (.tmp 8) (.tmp 74) rfl (w.heap.size + 1) 0 U8' (stL (trapS { s with regs := setR s.regs 0 nullC } c)) rfl rfl size34 (stL_one _) (Nat.le_of_ble_eq_true rfl) (fun wd s8 f8 => ?_)
    refine hK.out _ _ ⟨hS3.1.fix f8 (by show ¬ _ = _; omega), hS3.2.fix f8 (by show ¬ _ = _; omega)⟩ (fun hS10 => ?_)
    clear hK K
    have j9 := U9'.fix f8 (by show ¬ _ = _; omega)
    refine one_ (i := 11) (N := none) #[true, true, true, true, true, true, true, true, true, true, true, true, false] rfl rfl (one_of HT_.out (by kernel_rfl)) (by decide) (fun K hK => ?_)
    refine store_step (by rfl) rfl 38 (.tmp 9) (.tmp 81) rfl (w.heap.size + 1 + 1) 0 j9 (dnL ⟨c, Value.slice A 1 cc, false, 0, 0⟩) rfl rfl size48 (dn_one rfl) (Nat.le_of_ble_eq_true rfl) (fun we s9 f9 => ?_)
    refine hK.out _ _ ⟨hS10.1.fix f9 (by show ¬ _ = _; omega), hS10.2.fix f9 (by show ¬ _ = _; omega)⟩ (fun hS11 => ?_)
    clear hK K
    refine pure_ (i := 12) (N := some 10) (v := ?_) (a' := ?_) #[true, true, true, true, true, true, true, true, true, true, true, true, true] rfl rfl (any_of HT_.out (by kernel_rfl)) (fun _ _ _ h => h) (Or.inl ⟨by rfl, ?_⟩) ?_ ?_
    rotate_left
    · intro w'
      go_simp
      with_reducible rfl
    rotate_left
    · skip
      simp only [Act.put, List.setIfInBounds_toArray, List.set_cons_zero, List.set_cons_succ, i64_w, i32_w]
      rfl
    refine done_ (done_of HT_.out (by kernel_rfl)) ?_
    have Z8 := Aside0.mk (bl_of ⟨_, s8.fix f9 (by show ¬ _ = _; omega), splice_all _ _ (by rw [stL_len, stL_len])⟩)
    have Z9 := Aside0.mk (bl_of ⟨_, s9, splice_all _ _ rfl⟩)
    have M9 := Aside0.mk ((((VM.out.below HD1.out).below hb3).fix f8 (by show ¬ _ = _; omega)).fix f9 (by show ¬ _ = _; omega))
    have R9 := Aside0.mk (Kd.R_lower (row_far2 (row_far2 (Kd.R_below (Kd.R_below VR.out HD1.out) hb3) U8' (by decide) f8) j9 (by decide) f9) HBW.out.size)
    have HF9 : Aside0 (Fix (· = gm) w we) := ⟨((((((Fix.of HBW.out).up HFB.out (fun k hk h => h.elim (fun h => by omega) (fun h => h))).up (Fix.of (S := fun _ => False) HD0.out) (fun k hk h => h.elim)).up VF.out (fun k hk h => by omega)).up (Fix.of (S := fun _ => False) (HD1.out.trans (hb3.mono HD1.out.size))) (fun k hk h => h.elim)).up f8 (fun k hk h => by omega)).up f9 (fun k hk h => by omega)⟩
    clear s8 f8 s9 f9 j9 hS10 hS11 hS3 hsz hgl U8' U9' hb3
    go_wp2_with fail
    exact bodyPost_ret (results_step rfl rfl rfl rfl Z8.out Z9.out (stL_len _) rfl) rfl ⟨_, rfl, M9.out, R9.out, HF9.out⟩
end Go.Proofs.Ytadbonmkockakaa.Cp
