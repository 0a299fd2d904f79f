/- Start, Root, and the steps that works takes, by contract. Written by wip/r5/wrk.py. -/
import Derived.Test.YtadbonmkockakaaQStr
import Derived.Test.YtadbonmkockakaaQPln
import Derived.Test.YtadbonmkockakaaQMd
import Derived.Test.YtadbonmkockakaaQNia
namespace Go.Proofs.Ytadbonmkockakaa.Cp
open Go.RowKit Go.Proofs.YtadbonmkockakaaW.PrintWords Go.Proofs.YtadbonmkockakaaW.PrintLast Go.Proofs.YtadbonmkockakaaW.PrintMore Go.Proofs.Ytadbonmkockakaa.QCb Go.Proofs.Ytadbonmkockakaa.QCe
open Go.Proofs.Ytadbonmkockakaa.Ins (I5 getS getV)
open Go.Proofs.Ytadbonmkockakaa.Alu (aluDo do_calls)
set_option linter.unusedVariables false
set_option linter.unusedSimpArgs false
def startS (c : Cap) : St := { zeroS with pcc := c }
theorem built34p (c : Cap) : Try.prog.built 30 [(1, .agg (capL c).toArray)] = some (stL (startS c)).toArray := by
  obtain ⟨x0, x1, x2, x3, x4, x5, x6⟩ := c
  kernel_rfl
theorem info31_ : (Try.prog.info? 27).map (fun i => (i.zero, i.size)) = some (some (.agg (capL nullC).toArray), 7) := by kernel_rfl
theorem info48_ : (Try.prog.info? 38).map (fun i => (i.zero, i.size)) = some (some (.agg (dnL zeroD).toArray), 5) := by kernel_rfl
theorem wpl_allocB {T : TypeId} {L : List Value} {n : Nat} (hinfo : (Try.prog.info? T).map (fun i => (i.zero, i.size)) = some (some (.agg L.toArray), n)) {ops : Array Oper} {rest : List Oper} {o : Oper} {a : Act} {w : World} {Q : Exit → Act → World → Prop} (hgd : o.guard = none) (ho : o.op = .alloc T)
    (h : ∀ w', BL w' w.heap.size T L → Below w.heap.size w w' → wpList Try.prog ops Q rest (a.put o.dst (.pointer (some ⟨w.heap.size, 0, none⟩))) w') : wpList Try.prog ops Q (o :: rest) a w :=
  wpList_allocT hinfo hgd ho (h _ (BL.new _ _ _) (below_alloc (Below.refl _ _) _))
set_option maxRecDepth 100000 in
set_option maxHeartbeats 8000000 in
theorem start_calls (c : Cap) (w : World) :
    Calls Try.prog 14 #[capV c] w fun e w' => e = .returned (stV (startS c)) ∧ Below w.heap.size w w' := by
  obtain ⟨L, hL⟩ : ∃ L, capL c = L := ⟨_, rfl⟩
  have HLL : Aside0 (L.length = 7) := ⟨by rw [← hL]; rfl⟩
  show Calls _ _ #[.agg (capL c).toArray] _ _
  rw [hL]
  have HL := Aside0.mk hL
  clear hL
  go_enter Try.func14, Try.ntmps14
  go_upto_region 1 with (first | ((with_reducible refine wpl_allocB info30 rfl rfl ?_); intro w2 h2 hb2; have B2 := Aside0.mk h2; have HB2 := Aside0.mk hb2; clear h2 hb2))
  have B1 : Aside0 (BL w2 w.heap.size 27 L) := ⟨(BL.new w L 27).below HB2.out⟩
  have HBZ : Aside0 (Below w.heap.size w w2) := ⟨(below_alloc (Below.refl _ _) _).trans (HB2.out.mono (by simp))⟩
  have hs1 : (w.alloc (Obj.cells L.toArray 27)).heap.size = w.heap.size + 1 := by simp
  try rw [hs1] at B2
  try rw [hs1]
  clear HB2 hs1
  try simp only [Act.put, List.setIfInBounds_toArray, List.set_cons_zero, List.set_cons_succ]
  go_wp2_with (first | ((with_reducible refine wpl_agg rfl 27 (.tmp 1) rfl B1.out ?off_9 (L) ?hx_9 ?hc_9 _ Try.underlying27 ?hd_9 ?hi_9 ?_); (case hx_9 => rfl); (case hc_9 => exact by rw [List.drop_zero, List.take_length]); (case hd_9 => rfl); (case hi_9 => exact (by rw [size31, HLL.out]))) | ((with_reducible refine wpl_build rfl 30 #[(1, .tmp 3)] rfl (stL (startS c)) ?hbq ?_); (case hbq => simp only [List.map_toArray, List.map_cons, List.map_nil]; rw [← HL.out]; exact built34p c)) | ((with_reducible refine wps_agg rfl 30 (.tmp 2) (.tmp 4) rfl B2.out ?off_10 ?cs_10 ?hx_10 ?hy_10 ?hi_10 ?h1_10 ?hl_10 (stL (startS c)) ?hL_10 ?_); (case hx_10 => rfl); (case hy_10 => rfl); (case hi_10 => exact size34); (case h1_10 => exact stL_one _); (case hl_10 => exact Nat.le_of_ble_eq_true rfl); (case hL_10 => rfl); intro w9 hb9 hf9; have C2 := Aside0.mk hb9; have F2 := Aside0.mk hf9; clear hb9 hf9))
  exact bodyPost_ret (results_row 30 _ Try.underlying30 rfl (by rw [size34, stL_len]) rfl rfl C2.out) rfl ⟨rfl, HBZ.out.trans (F2.out.below (B := w.heap.size) HBZ.out.size (fun k hk => by omega))⟩
theorem ex4096 : exactS 4096 8192 = (4, 256, 0, 0) := by kernel_rfl
def capP : Cap := ⟨true, 4096, 9, 0, 4, 256, 0⟩
theorem info29_ : (Try.prog.info? 25).map (fun i => (i.zero, i.size)) = some (some (.agg ([.int .u8 0, .int .u16 0, .int .u16 0] : List Value).toArray), 3) := by kernel_rfl
theorem size29 : (Try.prog.info? 25).map (·.size) = some 3 := (zero_of_info info29_).2
theorem builtP : Try.prog.built 27 [(0, .bool true), (1, .int .u32 4096), (2, .int .u8 9), (4, .agg ([.int .u8 4, .int .u16 256, .int .u16 0] : List Value).toArray)] = some (capL capP).toArray := by kernel_rfl
set_option maxRecDepth 100000 in
set_option maxHeartbeats 8000000 in
theorem root_calls (w : World) :
    Calls Try.prog 13 #[.int .u64 4096, .int .u64 8192, .int .u8 9] w fun e w' => e = .returned (.tuple #[capV capP, .int .i64 0]) ∧ Below w.heap.size w w' := by
  have HE := Aside0.mk (fun w => rexact_calls 4096 8192 (by decide) _ ex4096 w)
  go_enter Try.func13, Try.ntmps13
  go_wp2_with (first | ((with_reducible refine wpl_allocB info31_ rfl rfl ?_); intro w0 h0 hb0; have B0 := Aside0.mk h0; have HB0 := Aside0.mk hb0; clear h0 hb0) | (go_at_call 26; (with_reducible refine (HE.out _).mono ?_); rintro _ w1 ⟨rfl, hb⟩; have B1 := Aside0.mk (B0.out.below hb); have HB1 := Aside0.mk (HB0.out.trans (hb.mono HB0.out.size)); clear hb) | ((with_reducible refine wpl_allocB info29_ rfl rfl ?_); intro w2 h2 hb2; have B2 := Aside0.mk (B1.out.below hb2); have C2 := Aside0.mk h2; have HB2 := Aside0.mk (HB1.out.trans (hb2.mono HB1.out.size)); have HLT := Aside0.mk B1.out.lt; clear h2 hb2) | ((with_reducible refine wps_agg rfl 25 (.tmp 8) (.tmp 14) rfl C2.out ?off_11 ?cs_11 ?hx_11 ?hy_11 ?hi_11 ?h1_11 ?hl_11 ([.int .u8 4, .int .u16 256, .int .u16 0]) ?hL_11 ?_); (case hx_11 => rfl); (case hy_11 => rfl); (case hi_11 => exact size29); (case h1_11 => simp [Value.oneCell']); (case hl_11 => exact Nat.le_of_ble_eq_true rfl); (case hL_11 => rfl); intro w9 hb9 hf9; have C3 := Aside0.mk hb9; have F3 := Aside0.mk hf9; have B3 := Aside0.mk (B2.out.fix hf9 (by have := HLT.out; show ¬ _ = _; omega)); clear hb9 hf9) | ((with_reducible refine wpl_build rfl 27 #[(0, .const (.bool true)), (1, .tmp 21), (2, .tmp 22), (4, .tmp 23)] rfl (capL capP) ?hbq ?_); (case hbq => simp only [List.map_toArray, List.map_cons, List.map_nil]; exact builtP)) | ((with_reducible refine wpl_agg rfl 25 (.tmp 8) rfl C3.out ?off_12 ([.int .u8 4, .int .u16 256, .int .u16 0]) ?hx_12 ?hc_12 _ Try.underlying25 ?hd_12 ?hi_12 ?_); (case hx_12 => rfl); (case hc_12 => rfl); (case hd_12 => rfl); (case hi_12 => exact size29)) | ((with_reducible refine wps_agg rfl 27 (.tmp 6) (.tmp 24) rfl B3.out ?off_13 ?cs_13 ?hx_13 ?hy_13 ?hi_13 ?h1_13 ?hl_13 (capL capP) ?hL_13 ?_); (case hx_13 => rfl); (case hy_13 => rfl); (case hi_13 => exact size31); (case h1_13 => exact capL_one _); (case hl_13 => exact Nat.le_of_ble_eq_true rfl); (case hL_13 => rfl); intro w9 hb9 hf9; have B4 := Aside0.mk hb9; have F4 := Aside0.mk hf9; clear hb9 hf9))
  have c0 := B4.out.cell 0 _ rfl
  have c1 := B4.out.cell 1 _ rfl
  have c2 := B4.out.cell 2 _ rfl
  have c3 := B4.out.cell 3 _ rfl
  have c4 := B4.out.cell 4 _ rfl
  have c5 := B4.out.cell 5 _ rfl
  have c6 := B4.out.cell 6 _ rfl
  exact bodyPost_ret (v := .tuple #[capV capP, .int .i64 0]) (by simp [results, Try.results13, go_sem, c0, c1, c2, c3, c4, c5, c6, capV, capP]) rfl ⟨rfl, HB2.out.trans ((F3.out.below (B := w.heap.size) HB2.out.size (fun k hk => by have := HB1.out.size; omega)).trans (F4.out.below (B := w.heap.size) (Nat.le_trans HB2.out.size F3.out.size) (fun k hk => by omega)))⟩
def memW : Mem := storeS zeroM 4096 4 5243027
theorem memW_ok : MemOk memW := by
  intro i
  show 0 ≤ (if 4096 ≤ i ∧ i < 4096 + 4 then (5243027 : Int) / 256 ^ (i - 4096) % 256 else 0) ∧ (if 4096 ≤ i ∧ i < 4096 + 4 then (5243027 : Int) / 256 ^ (i - 4096) % 256 else 0) < 256
  split <;> omega
theorem load_memW : getS (loadS memW 4096 4) = (⟨21, 1, 0, 0, 5⟩, 0) := by kernel_rfl
theorem capP_ok : OkC capP := by unfold OkC OkB capP; decide
theorem w_store (g : Nat) (w : World) (hm : MemB w g zeroM) : Calls Try.prog 12 #[.pointer (some ⟨g, 0, none⟩), .int .u32 4096, .int .i64 4, .int .u32 5243027] w fun e w' => e = .returned (.int .i64 0) ∧ Fix (· = g) w w' ∧ MemB w' g memW :=
  store_calls g 4096 4 zeroM (Or.inr (Or.inr rfl)) (by decide) (by decide) 5243027 (by decide) w hm
def sW : St := startS capP
def xW (gm : Nat) : Mc := ⟨gm, { sW with regs := setR sW.regs 0 nullC }, { sW with regs := setR sW.regs 0 nullC }, 0, .slice none 0 0, false, 0, 0, 0⟩
def yW (gm : Nat) : Mc := putM (nextM (xW gm) (.slice none 0 0)) 1 (intC 5)
theorem memB_ne {w : World} {gm g T : Nat} {M : Mem} {L : List Value} (h : MemB w gm M) (h2 : BL w g T L) (hT : T ≠ 35) : ¬ gm = g := by
  rintro rfl
  obtain ⟨cells, h1, -⟩ := h
  unfold BL at h2
  rw [h1] at h2
  injection h2 with h2
  injection h2 with _ h3
  exact hT h3.symm
theorem w_step (timer : Bool) (gm : Nat) (w : World) (hm : MemB w gm memW) : Calls Try.prog 4 #[.pointer (some ⟨gm, 0, none⟩), stV (startS capP), .bool timer, .int .u32 0] w fun e w' => ∃ s d, e = .returned (.tuple #[stV s, dnV d, .int .i64 0]) ∧ (s.regs 1).addr = 5 ∧ s.pcc.addr = 4100 ∧ d.cause = 0 ∧ d.tv.oneCell' = true ∧ MemB w' gm memW ∧ Fix (· = gm) w w' := by
  refine (step_do gm memW memW memW_ok sW timer 0 rfl (by cases timer <;> rfl) capP_ok (by kernel_rfl) ⟨21, 1, 0, 0, 5⟩ load_memW (yW gm) [⟨1, 4096, 4⟩] w hm ?_).mono ?_
  · intro g base tv w1 h1 h2 h3 h4
    refine (do_default g (nextM (xW gm) tv) (putM (nextM (xW gm) tv) 1 (intC 5)) 21 1 0 0 5 (by decide) (by decide) (by decide) w1 h2 (fun w hw => ?_)).mono ?_
    · exact plain_alu g (nextM (xW gm) tv) 21 0 0 5 1 (by decide) false 0 0 0 0 0 0 false 0 0 0 0 0 0 (by decide) (by decide) (by kernel_rfl) w hw
    · rintro e w2 ⟨rfl, hf, hb⟩
      exact ⟨rfl, hf.mono fun k hk => Or.inl hk, tv, hb, h3.fix hf (memB_ne h3 h2 (by decide)), row_far2 h4 h2 (by decide) hf⟩
  · rintro e w2 ⟨tv, rfl, hm2, hr, hf⟩
    exact ⟨(yW gm).now, ⟨0, tv, false, 0, 0⟩, rfl, by kernel_rfl, by kernel_rfl, rfl, row_cell hr, hm2, hf⟩
theorem w_trap (gm : Nat) (w : World) (hm : MemB w gm memW) : Calls Try.prog 4 #[.pointer (some ⟨gm, 0, none⟩), stV (startS nullC), .bool false, .int .u32 0] w fun e w' => ∃ s d, e = .returned (.tuple #[stV s, dnV d, .int .i64 0]) ∧ s.halted = true ∧ d.cause = 1 ∧ d.tv.oneCell' = true ∧ MemB w' gm memW ∧ Fix (· = gm) w w' := by
  refine (step_trap0 gm memW memW_ok (startS nullC) false 0 1 (by decide) rfl rfl [] rfl w hm ?_).mono ?_
  · intro g w1 h1 h2
    refine (run_fetch g _ (show OkC nullC by unfold OkC OkB nullC; decide) (by kernel_rfl) w1 h1).mono ?_
    rintro e w2 ⟨rfl, hb⟩
    exact ⟨rfl, Fix.of hb, (⟨gm, { startS nullC with regs := setR (startS nullC).regs 0 nullC }, { startS nullC with regs := setR (startS nullC).regs 0 nullC }, 0, .slice none 0 0, false, 0, 0, 0⟩ : Mc), _, h1.below hb, h2.below hb, Kd.R_nil _ _ _ _ _⟩
  · rintro e w2 ⟨tv, rfl, hm2, hr, hf⟩
    exact ⟨_, _, rfl, rfl, rfl, row_cell hr, hm2, hf⟩
end Go.Proofs.Ytadbonmkockakaa.Cp

/- works by contract. Written by wip/r5/wks.py. -/
namespace Go.Proofs.Ytadbonmkockakaa.Cp
open Go.RowKit Go.Proofs.YtadbonmkockakaaW.PrintWords Go.Proofs.YtadbonmkockakaaW.PrintLast Go.Proofs.YtadbonmkockakaaW.PrintMore Go.Proofs.Ytadbonmkockakaa.QCb Go.Proofs.Ytadbonmkockakaa.QCe
set_option linter.unusedVariables false
set_option linter.unusedSimpArgs false
set_option maxRecDepth 100000 in
set_option maxHeartbeats 8000000 in
theorem works_calls (w : World) :
    Calls Try.prog 6 #[] w fun e w' => e = .returned (.bool true) ∧ Below w.heap.size w w' := by
  go_enter Try.func6, Try.ntmps6
  go_upto_region 3 with (first | (go_at_call 11; (with_reducible refine (new_calls _).mono ?_); rintro _ w1 ⟨g, rfl, hg, hm, hb⟩; have HG := Aside0.mk hg; have HM1 := Aside0.mk hm; have HB1 := Aside0.mk hb; clear hg hm hb) | (go_at_call 12; (with_reducible refine (w_store _ _ HM1.out).mono ?_); rintro _ w2 ⟨rfl, hf, hm⟩; have HM := Aside0.mk hm; have HF := Aside0.mk ((Fix.of (S := fun k => w.heap.size ≤ k) HB1.out).trans (hf.mono (fun k hk => by rw [hk]; exact HG.out))); clear hf hm HM1 HB1))
  go_upto_region 4 with (first | (go_at_call 13; (with_reducible refine (root_calls _).mono ?_); rintro _ w3 ⟨rfl, hb⟩; replace HM := Aside0.mk (HM.out.below hb); replace HF := Aside0.mk (HF.out.trans (Fix.of hb)); clear hb) | ((with_reducible refine wpl_allocB info31_ rfl rfl ?_); intro w4 h0 hb0; have B3 := Aside0.mk h0; have HM3 := HM; replace HM := Aside0.mk (HM.out.below hb0); have HW3 : Aside0 (w.heap.size ≤ w3.heap.size) := ⟨HF.out.size⟩; have HGL : Aside0 (g < w3.heap.size) := ⟨HM3.out.lt⟩; replace HF := Aside0.mk (HF.out.trans (Fix.of hb0)); clear h0 hb0) | ((with_reducible refine wps_agg rfl 27 (.tmp 3) (.tmp 19) rfl B3.out ?off_9 ?cs_9 ?hx_9 ?hy_9 ?hi_9 ?h1_9 ?hl_9 (capL capP) ?hL_9 ?_); (case hx_9 => rfl); (case hy_9 => rfl); (case hi_9 => exact size31); (case h1_9 => exact capL_one _); (case hl_9 => exact Nat.le_of_ble_eq_true rfl); (case hL_9 => rfl); intro w9 hb9 hf9; have C3 := Aside0.mk hb9; replace HM := Aside0.mk (HM.out.fix hf9 (by have := HGL.out; show ¬ _ = _; omega)); replace HF := Aside0.mk (HF.out.trans (hf9.mono (fun k hk => by rw [hk]; exact HW3.out))); clear hb9 hf9))
  clear B3 HM3
  have HSP : Aside0 (∀ w, Calls Try.prog 14 #[.agg (capL capP).toArray] w fun e w' => e = .returned (stV (startS capP)) ∧ Below w.heap.size w w') := ⟨fun w => start_calls capP w⟩
  have HSN : Aside0 (∀ w, Calls Try.prog 14 #[.agg #[.bool false, .int .u32 0, .int .u8 0, .int .u8 0, .int .u8 0, .int .u16 0, .int .u16 0]] w fun e w' => e = .returned (stV (startS nullC)) ∧ Below w.heap.size w w') := ⟨fun w => start_calls nullC w⟩
  go_upto_region 5 with (first | ((with_reducible refine wpl_agg rfl 27 (.tmp 3) rfl C3.out ?off_12 (capL capP) ?hx_12 ?hc_12 _ Try.underlying27 ?hd_12 ?hi_12 ?_); (case hx_12 => rfl); (case hc_12 => rfl); (case hd_12 => rfl); (case hi_12 => exact size31)) | ((go_at_call 14; (with_reducible refine (HSP.out _).mono ?_); rintro _ w5 ⟨rfl, hb⟩; replace C3 := Aside0.mk (C3.out.below hb); replace HM := Aside0.mk (HM.out.below hb); replace HF := Aside0.mk (HF.out.trans (Fix.of hb)); clear hb)) | ((go_at_call 4; (with_reducible refine (w_step false g _ HM.out).mono ?_); rintro _ w5 ⟨s4, d4, rfl, h1, h2, h3, ho, hm, hf⟩; replace C3 := Aside0.mk (C3.out.fix hf (by have := HGL.out; show ¬ _ = _; omega)); have F_h14 := Aside0.mk h1; clear h1; have F_h24 := Aside0.mk h2; clear h2; have F_h34 := Aside0.mk h3; clear h3; have HO4 := Aside0.mk ho; replace HM := Aside0.mk hm; replace HF := Aside0.mk (HF.out.trans (hf.mono (fun k hk => by rw [hk]; exact HG.out))); clear ho hm hf)) | ((with_reducible refine wpl_allocB info30 rfl rfl ?_); intro w9 h0 hb0; have A4 := Aside0.mk h0; have O_A4_C3 := Aside0.mk C3.out.lt; have O_A4_HM := Aside0.mk HM.out.lt; have O_A4_w := Aside0.mk HF.out.size; replace C3 := Aside0.mk (C3.out.below hb0); replace HM := Aside0.mk (HM.out.below hb0); replace HF := Aside0.mk (HF.out.trans (Fix.of hb0)); clear h0 hb0) | ((with_reducible refine wpl_allocB info48_ rfl rfl ?_); intro w9 h0 hb0; have E4 := Aside0.mk h0; have O_E4_C3 := Aside0.mk C3.out.lt; have O_E4_A4 := Aside0.mk A4.out.lt; have O_E4_HM := Aside0.mk HM.out.lt; have O_E4_w := Aside0.mk HF.out.size; replace C3 := Aside0.mk (C3.out.below hb0); replace A4 := Aside0.mk (A4.out.below hb0); replace HM := Aside0.mk (HM.out.below hb0); replace HF := Aside0.mk (HF.out.trans (Fix.of hb0)); clear h0 hb0) | ((with_reducible refine wps_agg rfl 30 (.tmp 5) (.tmp 26) rfl A4.out ?off_10 ?cs_10 ?hx_10 ?hy_10 ?hi_10 ?h1_10 ?hl_10 (stL s4) ?hL_10 ?_); (case hx_10 => rfl); (case hy_10 => rfl); (case hi_10 => exact size34); (case h1_10 => exact stL_one _); (case hl_10 => exact Nat.le_of_ble_eq_true rfl); (case hL_10 => exact splice_all _ _ (by first | rfl | rw [stL_len, stL_len])); intro w9 hb9 hf9; have hk9 := hb9; replace C3 := Aside0.mk (C3.out.fix hf9 (by have := O_A4_C3.out; show ¬ _ = _; omega)); replace E4 := Aside0.mk (E4.out.fix hf9 (by have := O_E4_A4.out; show ¬ _ = _; omega)); replace HM := Aside0.mk (HM.out.fix hf9 (by have := O_A4_HM.out; show ¬ _ = _; omega)); replace HF := Aside0.mk (HF.out.trans (hf9.mono (fun k hk => by rw [hk]; exact O_A4_w.out))); clear hb9; replace A4 := Aside0.mk hk9; clear hf9 hk9) | ((with_reducible refine wps_agg rfl 38 (.tmp 6) (.tmp 27) rfl E4.out ?off_11 ?cs_11 ?hx_11 ?hy_11 ?hi_11 ?h1_11 ?hl_11 (dnL d4) ?hL_11 ?_); (case hx_11 => rfl); (case hy_11 => rfl); (case hi_11 => exact size48); (case h1_11 => exact dn_one HO4.out); (case hl_11 => exact Nat.le_of_ble_eq_true rfl); (case hL_11 => exact splice_all _ _ (by first | rfl | rw [stL_len, stL_len])); intro w9 hb9 hf9; have hk9 := hb9; replace C3 := Aside0.mk (C3.out.fix hf9 (by have := O_E4_C3.out; show ¬ _ = _; omega)); replace A4 := Aside0.mk (A4.out.fix hf9 (by have := O_E4_A4.out; show ¬ _ = _; omega)); replace HM := Aside0.mk (HM.out.fix hf9 (by have := O_E4_HM.out; show ¬ _ = _; omega)); replace HF := Aside0.mk (HF.out.trans (hf9.mono (fun k hk => by rw [hk]; exact O_E4_w.out))); clear hb9; replace E4 := Aside0.mk hk9; clear hf9 hk9))
  go_upto_region 6 with (first | ((with_reducible refine wpl_agg rfl 27 (.tmp 3) rfl C3.out ?off_15 (capL capP) ?hx_15 ?hc_15 _ Try.underlying27 ?hd_15 ?hi_15 ?_); (case hx_15 => rfl); (case hc_15 => rfl); (case hd_15 => rfl); (case hi_15 => exact size31)) | ((go_at_call 14; (with_reducible refine (HSN.out _).mono ?_); rintro _ w5 ⟨rfl, hb⟩; replace C3 := Aside0.mk (C3.out.below hb); replace A4 := Aside0.mk (A4.out.below hb); replace E4 := Aside0.mk (E4.out.below hb); replace HM := Aside0.mk (HM.out.below hb); replace HF := Aside0.mk (HF.out.trans (Fix.of hb)); clear hb)) | ((go_at_call 4; (with_reducible refine (w_trap g _ HM.out).mono ?_); rintro _ w5 ⟨s5, d5, rfl, h1, h2, ho, hm, hf⟩; replace C3 := Aside0.mk (C3.out.fix hf (by have := HGL.out; show ¬ _ = _; omega)); replace A4 := Aside0.mk (A4.out.fix hf (by have := O_A4_HM.out; show ¬ _ = _; omega)); replace E4 := Aside0.mk (E4.out.fix hf (by have := O_E4_HM.out; show ¬ _ = _; omega)); have F_h15 := Aside0.mk h1; clear h1; have F_h25 := Aside0.mk h2; clear h2; have HO5 := Aside0.mk ho; replace HM := Aside0.mk hm; replace HF := Aside0.mk (HF.out.trans (hf.mono (fun k hk => by rw [hk]; exact HG.out))); clear ho hm hf)) | ((with_reducible refine wpl_allocB info30 rfl rfl ?_); intro w9 h0 hb0; have A5 := Aside0.mk h0; have O_A5_C3 := Aside0.mk C3.out.lt; have O_A5_A4 := Aside0.mk A4.out.lt; have O_A5_E4 := Aside0.mk E4.out.lt; have O_A5_HM := Aside0.mk HM.out.lt; have O_A5_w := Aside0.mk HF.out.size; replace C3 := Aside0.mk (C3.out.below hb0); replace A4 := Aside0.mk (A4.out.below hb0); replace E4 := Aside0.mk (E4.out.below hb0); replace HM := Aside0.mk (HM.out.below hb0); replace HF := Aside0.mk (HF.out.trans (Fix.of hb0)); clear h0 hb0) | ((with_reducible refine wpl_allocB info48_ rfl rfl ?_); intro w9 h0 hb0; have E5 := Aside0.mk h0; have O_E5_C3 := Aside0.mk C3.out.lt; have O_E5_A4 := Aside0.mk A4.out.lt; have O_E5_E4 := Aside0.mk E4.out.lt; have O_E5_A5 := Aside0.mk A5.out.lt; have O_E5_HM := Aside0.mk HM.out.lt; have O_E5_w := Aside0.mk HF.out.size; replace C3 := Aside0.mk (C3.out.below hb0); replace A4 := Aside0.mk (A4.out.below hb0); replace E4 := Aside0.mk (E4.out.below hb0); replace A5 := Aside0.mk (A5.out.below hb0); replace HM := Aside0.mk (HM.out.below hb0); replace HF := Aside0.mk (HF.out.trans (Fix.of hb0)); clear h0 hb0) | ((with_reducible refine wps_agg rfl 30 (.tmp 8) (.tmp 34) rfl A5.out ?off_13 ?cs_13 ?hx_13 ?hy_13 ?hi_13 ?h1_13 ?hl_13 (stL s5) ?hL_13 ?_); (case hx_13 => rfl); (case hy_13 => rfl); (case hi_13 => exact size34); (case h1_13 => exact stL_one _); (case hl_13 => exact Nat.le_of_ble_eq_true rfl); (case hL_13 => exact splice_all _ _ (by first | rfl | rw [stL_len, stL_len])); intro w9 hb9 hf9; have hk9 := hb9; replace C3 := Aside0.mk (C3.out.fix hf9 (by have := O_A5_C3.out; show ¬ _ = _; omega)); replace A4 := Aside0.mk (A4.out.fix hf9 (by have := O_A5_A4.out; show ¬ _ = _; omega)); replace E4 := Aside0.mk (E4.out.fix hf9 (by have := O_A5_E4.out; show ¬ _ = _; omega)); replace E5 := Aside0.mk (E5.out.fix hf9 (by have := O_E5_A5.out; show ¬ _ = _; omega)); replace HM := Aside0.mk (HM.out.fix hf9 (by have := O_A5_HM.out; show ¬ _ = _; omega)); replace HF := Aside0.mk (HF.out.trans (hf9.mono (fun k hk => by rw [hk]; exact O_A5_w.out))); clear hb9; replace A5 := Aside0.mk hk9; clear hf9 hk9) | ((with_reducible refine wps_agg rfl 38 (.tmp 9) (.tmp 35) rfl E5.out ?off_14 ?cs_14 ?hx_14 ?hy_14 ?hi_14 ?h1_14 ?hl_14 (dnL d5) ?hL_14 ?_); (case hx_14 => rfl); (case hy_14 => rfl); (case hi_14 => exact size48); (case h1_14 => exact dn_one HO5.out); (case hl_14 => exact Nat.le_of_ble_eq_true rfl); (case hL_14 => exact splice_all _ _ (by first | rfl | rw [stL_len, stL_len])); intro w9 hb9 hf9; have hk9 := hb9; replace C3 := Aside0.mk (C3.out.fix hf9 (by have := O_E5_C3.out; show ¬ _ = _; omega)); replace A4 := Aside0.mk (A4.out.fix hf9 (by have := O_E5_A4.out; show ¬ _ = _; omega)); replace E4 := Aside0.mk (E4.out.fix hf9 (by have := O_E5_E4.out; show ¬ _ = _; omega)); replace A5 := Aside0.mk (A5.out.fix hf9 (by have := O_E5_A5.out; show ¬ _ = _; omega)); replace HM := Aside0.mk (HM.out.fix hf9 (by have := O_E5_HM.out; show ¬ _ = _; omega)); replace HF := Aside0.mk (HF.out.trans (hf9.mono (fun k hk => by rw [hk]; exact O_E5_w.out))); clear hb9; replace E5 := Aside0.mk hk9; clear hf9 hk9))
  go_upto_region 7 with (first | ((with_reducible refine wpl_agg rfl 27 (.tmp 3) rfl C3.out ?off_18 (capL capP) ?hx_18 ?hc_18 _ Try.underlying27 ?hd_18 ?hi_18 ?_); (case hx_18 => rfl); (case hc_18 => rfl); (case hd_18 => rfl); (case hi_18 => exact size31)) | ((go_at_call 14; (with_reducible refine (HSP.out _).mono ?_); rintro _ w5 ⟨rfl, hb⟩; replace C3 := Aside0.mk (C3.out.below hb); replace A4 := Aside0.mk (A4.out.below hb); replace E4 := Aside0.mk (E4.out.below hb); replace A5 := Aside0.mk (A5.out.below hb); replace E5 := Aside0.mk (E5.out.below hb); replace HM := Aside0.mk (HM.out.below hb); replace HF := Aside0.mk (HF.out.trans (Fix.of hb)); clear hb)) | ((go_at_call 4; (with_reducible refine (w_step true g _ HM.out).mono ?_); rintro _ w5 ⟨s6, d6, rfl, h1, h2, h3, ho, hm, hf⟩; replace C3 := Aside0.mk (C3.out.fix hf (by have := HGL.out; show ¬ _ = _; omega)); replace A4 := Aside0.mk (A4.out.fix hf (by have := O_A4_HM.out; show ¬ _ = _; omega)); replace E4 := Aside0.mk (E4.out.fix hf (by have := O_E4_HM.out; show ¬ _ = _; omega)); replace A5 := Aside0.mk (A5.out.fix hf (by have := O_A5_HM.out; show ¬ _ = _; omega)); replace E5 := Aside0.mk (E5.out.fix hf (by have := O_E5_HM.out; show ¬ _ = _; omega)); have F_h16 := Aside0.mk h1; clear h1; have F_h26 := Aside0.mk h2; clear h2; have F_h36 := Aside0.mk h3; clear h3; have HO6 := Aside0.mk ho; replace HM := Aside0.mk hm; replace HF := Aside0.mk (HF.out.trans (hf.mono (fun k hk => by rw [hk]; exact HG.out))); clear ho hm hf)) | ((with_reducible refine wpl_allocB info30 rfl rfl ?_); intro w9 h0 hb0; have A6 := Aside0.mk h0; have O_A6_C3 := Aside0.mk C3.out.lt; have O_A6_A4 := Aside0.mk A4.out.lt; have O_A6_E4 := Aside0.mk E4.out.lt; have O_A6_A5 := Aside0.mk A5.out.lt; have O_A6_E5 := Aside0.mk E5.out.lt; have O_A6_HM := Aside0.mk HM.out.lt; have O_A6_w := Aside0.mk HF.out.size; replace C3 := Aside0.mk (C3.out.below hb0); replace A4 := Aside0.mk (A4.out.below hb0); replace E4 := Aside0.mk (E4.out.below hb0); replace A5 := Aside0.mk (A5.out.below hb0); replace E5 := Aside0.mk (E5.out.below hb0); replace HM := Aside0.mk (HM.out.below hb0); replace HF := Aside0.mk (HF.out.trans (Fix.of hb0)); clear h0 hb0) | ((with_reducible refine wpl_allocB info48_ rfl rfl ?_); intro w9 h0 hb0; have E6 := Aside0.mk h0; have O_E6_C3 := Aside0.mk C3.out.lt; have O_E6_A4 := Aside0.mk A4.out.lt; have O_E6_E4 := Aside0.mk E4.out.lt; have O_E6_A5 := Aside0.mk A5.out.lt; have O_E6_E5 := Aside0.mk E5.out.lt; have O_E6_A6 := Aside0.mk A6.out.lt; have O_E6_HM := Aside0.mk HM.out.lt; have O_E6_w := Aside0.mk HF.out.size; replace C3 := Aside0.mk (C3.out.below hb0); replace A4 := Aside0.mk (A4.out.below hb0); replace E4 := Aside0.mk (E4.out.below hb0); replace A5 := Aside0.mk (A5.out.below hb0); replace E5 := Aside0.mk (E5.out.below hb0); replace A6 := Aside0.mk (A6.out.below hb0); replace HM := Aside0.mk (HM.out.below hb0); replace HF := Aside0.mk (HF.out.trans (Fix.of hb0)); clear h0 hb0) | ((with_reducible refine wps_agg rfl 30 (.tmp 11) (.tmp 42) rfl A6.out ?off_16 ?cs_16 ?hx_16 ?hy_16 ?hi_16 ?h1_16 ?hl_16 (stL s6) ?hL_16 ?_); (case hx_16 => rfl); (case hy_16 => rfl); (case hi_16 => exact size34); (case h1_16 => exact stL_one _); (case hl_16 => exact Nat.le_of_ble_eq_true rfl); (case hL_16 => exact splice_all _ _ (by first | rfl | rw [stL_len, stL_len])); intro w9 hb9 hf9; have hk9 := hb9; replace C3 := Aside0.mk (C3.out.fix hf9 (by have := O_A6_C3.out; show ¬ _ = _; omega)); replace A4 := Aside0.mk (A4.out.fix hf9 (by have := O_A6_A4.out; show ¬ _ = _; omega)); replace E4 := Aside0.mk (E4.out.fix hf9 (by have := O_A6_E4.out; show ¬ _ = _; omega)); replace A5 := Aside0.mk (A5.out.fix hf9 (by have := O_A6_A5.out; show ¬ _ = _; omega)); replace E5 := Aside0.mk (E5.out.fix hf9 (by have := O_A6_E5.out; show ¬ _ = _; omega)); replace E6 := Aside0.mk (E6.out.fix hf9 (by have := O_E6_A6.out; show ¬ _ = _; omega)); replace HM := Aside0.mk (HM.out.fix hf9 (by have := O_A6_HM.out; show ¬ _ = _; omega)); replace HF := Aside0.mk (HF.out.trans (hf9.mono (fun k hk => by rw [hk]; exact O_A6_w.out))); clear hb9; replace A6 := Aside0.mk hk9; clear hf9 hk9) | ((with_reducible refine wps_agg rfl 38 (.tmp 12) (.tmp 43) rfl E6.out ?off_17 ?cs_17 ?hx_17 ?hy_17 ?hi_17 ?h1_17 ?hl_17 (dnL d6) ?hL_17 ?_); (case hx_17 => rfl); (case hy_17 => rfl); (case hi_17 => exact size48); (case h1_17 => exact dn_one HO6.out); (case hl_17 => exact Nat.le_of_ble_eq_true rfl); (case hL_17 => exact splice_all _ _ (by first | rfl | rw [stL_len, stL_len])); intro w9 hb9 hf9; have hk9 := hb9; replace C3 := Aside0.mk (C3.out.fix hf9 (by have := O_E6_C3.out; show ¬ _ = _; omega)); replace A4 := Aside0.mk (A4.out.fix hf9 (by have := O_E6_A4.out; show ¬ _ = _; omega)); replace E4 := Aside0.mk (E4.out.fix hf9 (by have := O_E6_E4.out; show ¬ _ = _; omega)); replace A5 := Aside0.mk (A5.out.fix hf9 (by have := O_E6_A5.out; show ¬ _ = _; omega)); replace E5 := Aside0.mk (E5.out.fix hf9 (by have := O_E6_E5.out; show ¬ _ = _; omega)); replace A6 := Aside0.mk (A6.out.fix hf9 (by have := O_E6_A6.out; show ¬ _ = _; omega)); replace HM := Aside0.mk (HM.out.fix hf9 (by have := O_E6_HM.out; show ¬ _ = _; omega)); replace HF := Aside0.mk (HF.out.trans (hf9.mono (fun k hk => by rw [hk]; exact O_E6_w.out))); clear hb9; replace E6 := Aside0.mk hk9; clear hf9 hk9))
  have e1 := A4.out.cell 8 (.int .u32 (s4.regs 1).addr) rfl
  rw [F_h14.out] at e1
  have e2 := A4.out.cell 113 (.int .u32 s4.pcc.addr) rfl
  rw [F_h24.out] at e2
  have e3 := E4.out.cell 0 (.int .u32 d4.cause) rfl
  rw [F_h34.out] at e3
  have e4 := A5.out.cell 150 (.bool s5.halted) rfl
  rw [F_h15.out] at e4
  have e5 := E5.out.cell 0 (.int .u32 d5.cause) rfl
  rw [F_h25.out] at e5
  have e6 := E6.out.cell 0 (.int .u32 d6.cause) rfl
  rw [F_h36.out] at e6
  go_wp2_with fail
  go_ret
  exact ⟨rfl, HF.out.below (B := w.heap.size) (Nat.le_refl _) (fun k hk => hk)⟩
end Go.Proofs.Ytadbonmkockakaa.Cp

namespace Go.Proofs.Ytadbonmkockakaa.Cp
open Go.RowKit Go.Proofs.YtadbonmkockakaaW.PrintWords Go.Proofs.YtadbonmkockakaaW.PrintLast Go.Proofs.YtadbonmkockakaaW.PrintMore Go.Proofs.Ytadbonmkockakaa.QCb Go.Proofs.Ytadbonmkockakaa.QCe
set_option linter.unusedVariables false
set_option linter.unusedSimpArgs false
set_option maxRecDepth 100000 in
set_option maxHeartbeats 4000000 in
theorem same_zero (w : World) : Calls Try.prog 5 #[dnV zeroD, .agg #[.int .u32 0, .slice none 0 0, .bool false, .int .u32 0, .int .u32 0]] w fun e w' => e = .returned (.bool true) ∧ Below w.heap.size w w' := by
  show Calls _ _ #[.agg #[.int .u32 0, .slice none 0 0, .bool false, .int .u32 0, .int .u32 0], _] _ _
  go_enter Try.func5, Try.ntmps5
  go_wp2
  go_wp2_with (first | (refine wp_loop_once ?_))
  go_ret
  exact ⟨rfl, below_alloc (below_alloc (Below.refl _ _) _) _⟩
end Go.Proofs.Ytadbonmkockakaa.Cp

namespace Go.Proofs.Ytadbonmkockakaa.Cp
open Go.RowKit Go.Proofs.YtadbonmkockakaaW.PrintWords Go.Proofs.YtadbonmkockakaaW.PrintLast Go.Proofs.YtadbonmkockakaaW.PrintMore Go.Proofs.Ytadbonmkockakaa.QCb Go.Proofs.Ytadbonmkockakaa.QCe
set_option linter.unusedVariables false
set_option linter.unusedSimpArgs false
theorem built35 : Try.prog.built 35 [] = some (Try.zeroCells35.toList).toArray := by kernel_rfl
theorem zc35 : Try.zeroCells35.toList[0]? = some (.bool false) := by kernel_rfl
section
variable {ops : Array Oper} {rest : List Oper} {o : Oper} {a : Act} {w : World} {Q : Exit → Act → World → Prop}
theorem wplg (hw : Region.wanted o (yielded ops a.tmps) = true) (h : ∀ K : Act → World → Prop, (∀ a w, wpList Try.prog ops Q rest a w → K a w) → o.wp Try.prog a w K Q) : wpList Try.prog ops Q (o :: rest) a w :=
  wpList_step fun K hK => by rw [if_pos hw]; exact h K hK
theorem wplg_row {b : Nat} {T : TypeId} {L : List Value} (hw : Region.wanted o (yielded ops a.tmps) = true) (ty : TypeId) (x : Operand) (ho : o.op = .load ty x) (hB : BL w b T L) (hx : a.eval x = .pointer (some ⟨b, 0, none⟩)) (d : TypeDesc) (hu : Try.prog.underlying ty = some d) (hd : d.isRow = true) (hi : (Try.prog.info? ty).map (·.size) = some L.length)
    (h : wpList Try.prog ops Q rest (a.put o.dst (.agg L.toArray)) w) : wpList Try.prog ops Q (o :: rest) a w :=
  wplg hw fun K hK => wp_load_mid ty x ho b 0 hx L d (hB.range 0 L (by rw [List.drop_zero, List.take_length])) hu hd hi (hK _ _ h)
theorem wplg_build (hw : Region.wanted o (yielded ops a.tmps) = true) (t : TypeId) (parts : Array (Nat × Operand)) (ho : o.op = .build t parts) (cells : List Value) (hb : Try.prog.built t (parts.map fun (i, x) => (i, a.eval x)).toList = some cells.toArray)
    (h : wpList Try.prog ops Q rest (a.put o.dst (.agg cells.toArray)) w) : wpList Try.prog ops Q (o :: rest) a w :=
  wplg hw fun K hK => by
    refine wp_build t parts ho (by rw [hb]; rfl) ?_
    rw [hb]; exact hK _ _ h
theorem wplg_eq (hw : Region.wanted o (yielded ops a.tmps) = true) (ho : o.op = .binOp .eql 30 (.tmp 25) (.tmp 26) 30) (hx : a.eval (.tmp 25) = .agg (stL zeroS).toArray) (hy : a.eval (.tmp 26) = .agg (stL zeroS).toArray)
    (h : wpList Try.prog ops Q rest (a.put o.dst (.bool true)) w) : wpList Try.prog ops Q (o :: rest) a w :=
  wplg hw fun K hK => by
    have e : (execOp a.eval o).run Try.prog w = .ok (.value (.bool true)) w := by
      unfold execOp
      simp only [ho, hx, hy]
      kernel_rfl
    unfold Oper.wp
    rw [e, Oper.upon_value]
    exact hK _ _ h
end
set_option maxRecDepth 100000 in
set_option maxHeartbeats 8000000 in
theorem nil_walk (L : List Value) (hl : L.length = 151) (timer zero : Bool) (w : World) : Calls Try.prog 3 #[.agg L.toArray, .bool timer, .bool zero] w fun e w' => e = .returned (.bool true) ∧ Below w.heap.size w w' := by
  have HLL := Aside0.mk hl
  clear hl
  have HSM : Aside0 (∀ w, Calls Try.prog 5 #[.agg (dnL zeroD).toArray, .agg #[.int .u32 0, .slice none 0 0, .bool false, .int .u32 0, .int .u32 0]] w fun e w' => e = .returned (.bool true) ∧ Below w.heap.size w w') := ⟨fun w => same_zero w⟩
  cases zero
  · go_enter Try.func3, Try.ntmps3
    go_upto_region 1 with fail
    generalize hw1 : w.alloc (Obj.cells L.toArray 30) = w1
    have B3 : Aside0 (BL w1 w.heap.size 30 L) := ⟨by rw [← hw1]; exact BL.new _ _ _⟩
    have HF : Aside0 (Fix (fun k => w.heap.size ≤ k) w w1) := ⟨by rw [← hw1]; exact Fix.of (below_alloc (Below.refl _ _) _)⟩
    clear hw1
    go_upto_region 4 with fail
    go_upto_region 5 with (first | ((with_reducible refine wpl_agg rfl 30 (.tmp 3) rfl B3.out ?off_1 (L) ?hx_1 ?hc_1 _ Try.underlying30 ?hd_1 ?hi_1 ?_); (case hx_1 => rfl); (case hc_1 => exact by rw [List.drop_zero, List.take_length]); (case hd_1 => rfl); (case hi_1 => exact (by rw [size34, HLL.out]))) | (go_at_call 4; (with_reducible refine (step_nilL L timer 1 _).mono ?_); rintro _ w3 ⟨rfl, hb⟩; replace HF := Aside0.mk (HF.out.trans (Fix.of hb)); clear hb) | ((with_reducible refine wpl_allocB info30 rfl rfl ?_); intro w9 h0 hb0; have A := Aside0.mk h0; skip; have S_A := Aside0.mk HF.out.size; replace HF := Aside0.mk (HF.out.trans (Fix.of hb0)); clear h0 hb0) | ((with_reducible refine wpl_allocB info48_ rfl rfl ?_); intro w9 h0 hb0; have E := Aside0.mk h0; have O_E_A := Aside0.mk A.out.lt; replace A := Aside0.mk (A.out.below hb0); have S_E := Aside0.mk HF.out.size; replace HF := Aside0.mk (HF.out.trans (Fix.of hb0)); clear h0 hb0) | ((with_reducible refine wps_agg rfl 30 (.tmp 8) (.tmp 19) rfl A.out ?off_2 ?cs_2 ?hx_2 ?hy_2 ?hi_2 ?h1_2 ?hl_2 (stL zeroS) ?hL_2 ?_); (case hx_2 => rfl); (case hy_2 => rfl); (case hi_2 => exact size34); (case h1_2 => exact stL_one _); (case hl_2 => exact Nat.le_of_ble_eq_true rfl); (case hL_2 => exact splice_all _ _ (by first | rfl | rw [stL_len, stL_len])); intro w9 hb9 hf9; have hk9 := hb9; replace E := Aside0.mk (E.out.fix hf9 (by have := O_E_A.out; show ¬ _ = _; omega)); replace HF := Aside0.mk (HF.out.trans (hf9.mono (fun k hk => by rw [hk]; exact S_A.out))); clear hb9; replace A := Aside0.mk hk9; clear hf9 hk9) | ((with_reducible refine wps_agg rfl 38 (.tmp 9) (.tmp 20) rfl E.out ?off_3 ?cs_3 ?hx_3 ?hy_3 ?hi_3 ?h1_3 ?hl_3 (dnL zeroD) ?hL_3 ?_); (case hx_3 => rfl); (case hy_3 => rfl); (case hi_3 => exact size48); (case h1_3 => exact dn_one rfl); (case hl_3 => exact Nat.le_of_ble_eq_true rfl); (case hL_3 => exact splice_all _ _ (by first | rfl | rw [stL_len, stL_len])); intro w9 hb9 hf9; have hk9 := hb9; replace A := Aside0.mk (A.out.fix hf9 (by have := O_E_A.out; show ¬ _ = _; omega)); replace HF := Aside0.mk (HF.out.trans (hf9.mono (fun k hk => by rw [hk]; exact S_E.out))); clear hb9; replace E := Aside0.mk hk9; clear hf9 hk9))
    go_wp2_with (first | ((with_reducible refine wplg_row ?hwA0 30 (.tmp 8) rfl A.out ?hxA0 _ Try.underlying30 ?hdA0 ?hiA0 ?_); (case hwA0 => rfl); (case hxA0 => rfl); (case hdA0 => rfl); (case hiA0 => exact (by rw [size34, stL_len]))) | ((with_reducible refine wplg_build ?hwB0 30 #[] rfl (stL zeroS) ?hbB0 ?_); (case hwB0 => rfl); (case hbB0 => simp only [List.map_toArray, List.map_nil]; exact built34)) | ((with_reducible refine wplg_eq ?hwC0 rfl ?hxC0 ?hyC0 ?_); (case hwC0 => rfl); (case hxC0 => rfl); (case hyC0 => rfl)) | ((with_reducible refine wplg_row ?hwD0 38 (.tmp 9) rfl E.out ?hxD0 _ Try.underlying38 ?hdD0 ?hiD0 ?_); (case hwD0 => rfl); (case hxD0 => rfl); (case hdD0 => rfl); (case hiD0 => exact size48)) | (go_at_call 5; (with_reducible refine (HSM.out _).mono ?_); rintro _ wx ⟨rfl, hb⟩; replace HF := Aside0.mk (HF.out.trans (Fix.of hb)); clear hb) | (go_at_call 6; (with_reducible refine (works_calls _).mono ?_); rintro _ wy ⟨rfl, hb⟩; replace HF := Aside0.mk (HF.out.trans (Fix.of hb)); clear hb))
    go_ret
    exact ⟨rfl, HF.out.below (B := w.heap.size) (Nat.le_refl _) (fun k hk => hk)⟩
  · go_enter Try.func3, Try.ntmps3
    go_upto_region 1 with fail
    generalize hw1 : w.alloc (Obj.cells L.toArray 30) = w1
    have B3 : Aside0 (BL w1 w.heap.size 30 L) := ⟨by rw [← hw1]; exact BL.new _ _ _⟩
    have HF : Aside0 (Fix (fun k => w.heap.size ≤ k) w w1) := ⟨by rw [← hw1]; exact Fix.of (below_alloc (Below.refl _ _) _)⟩
    clear hw1
    obtain ⟨Z, hZ⟩ : ∃ Z, Try.zeroCells35.toList = Z := ⟨_, rfl⟩
    have HZB : Aside0 (Try.prog.built 35 [] = some Z.toArray) := ⟨by rw [← hZ]; exact built35⟩
    have HZ0 : Aside0 (Z[0]? = some (.bool false)) := ⟨by rw [← hZ]; exact zc35⟩
    clear hZ
    go_upto_region 4 with (first | ((with_reducible refine wpl_build rfl 35 #[] rfl Z ?hbz ?_); (case hbz => simp only [List.map_toArray, List.map_nil]; exact HZB.out)))
    generalize hw2 : w1.alloc (Obj.cells Z.toArray 35) = w2
    have BZ : Aside0 (BL w2 w1.heap.size 35 Z) := ⟨by rw [← hw2]; exact BL.new _ _ _⟩
    have HB2 : Aside0 (Below w1.heap.size w1 w2) := ⟨by rw [← hw2]; exact below_alloc (Below.refl _ _) _⟩
    replace B3 := Aside0.mk (B3.out.below HB2.out)
    replace HF := Aside0.mk (HF.out.trans (Fix.of HB2.out))
    clear hw2
    go_upto_region 5 with (first | ((with_reducible refine wpl_agg rfl 30 (.tmp 3) rfl B3.out ?off_4 (L) ?hx_4 ?hc_4 _ Try.underlying30 ?hd_4 ?hi_4 ?_); (case hx_4 => rfl); (case hc_4 => exact by rw [List.drop_zero, List.take_length]); (case hd_4 => rfl); (case hi_4 => exact (by rw [size34, HLL.out]))) | (go_at_call 4; (with_reducible refine (step_zeroL _ L timer 1 _ (BZ.out.cell 0 _ HZ0.out)).mono ?_); rintro _ w3 ⟨rfl, hb⟩; replace HF := Aside0.mk (HF.out.trans (Fix.of hb)); clear hb) | ((with_reducible refine wpl_allocB info30 rfl rfl ?_); intro w9 h0 hb0; have A := Aside0.mk h0; skip; have S_A := Aside0.mk HF.out.size; replace HF := Aside0.mk (HF.out.trans (Fix.of hb0)); clear h0 hb0) | ((with_reducible refine wpl_allocB info48_ rfl rfl ?_); intro w9 h0 hb0; have E := Aside0.mk h0; have O_E_A := Aside0.mk A.out.lt; replace A := Aside0.mk (A.out.below hb0); have S_E := Aside0.mk HF.out.size; replace HF := Aside0.mk (HF.out.trans (Fix.of hb0)); clear h0 hb0) | ((with_reducible refine wps_agg rfl 30 (.tmp 8) (.tmp 19) rfl A.out ?off_5 ?cs_5 ?hx_5 ?hy_5 ?hi_5 ?h1_5 ?hl_5 (stL zeroS) ?hL_5 ?_); (case hx_5 => rfl); (case hy_5 => rfl); (case hi_5 => exact size34); (case h1_5 => exact stL_one _); (case hl_5 => exact Nat.le_of_ble_eq_true rfl); (case hL_5 => exact splice_all _ _ (by first | rfl | rw [stL_len, stL_len])); intro w9 hb9 hf9; have hk9 := hb9; replace E := Aside0.mk (E.out.fix hf9 (by have := O_E_A.out; show ¬ _ = _; omega)); replace HF := Aside0.mk (HF.out.trans (hf9.mono (fun k hk => by rw [hk]; exact S_A.out))); clear hb9; replace A := Aside0.mk hk9; clear hf9 hk9) | ((with_reducible refine wps_agg rfl 38 (.tmp 9) (.tmp 20) rfl E.out ?off_6 ?cs_6 ?hx_6 ?hy_6 ?hi_6 ?h1_6 ?hl_6 (dnL zeroD) ?hL_6 ?_); (case hx_6 => rfl); (case hy_6 => rfl); (case hi_6 => exact size48); (case h1_6 => exact dn_one rfl); (case hl_6 => exact Nat.le_of_ble_eq_true rfl); (case hL_6 => exact splice_all _ _ (by first | rfl | rw [stL_len, stL_len])); intro w9 hb9 hf9; have hk9 := hb9; replace A := Aside0.mk (A.out.fix hf9 (by have := O_E_A.out; show ¬ _ = _; omega)); replace HF := Aside0.mk (HF.out.trans (hf9.mono (fun k hk => by rw [hk]; exact S_E.out))); clear hb9; replace E := Aside0.mk hk9; clear hf9 hk9))
    go_wp2_with (first | ((with_reducible refine wplg_row ?hwA1 30 (.tmp 8) rfl A.out ?hxA1 _ Try.underlying30 ?hdA1 ?hiA1 ?_); (case hwA1 => rfl); (case hxA1 => rfl); (case hdA1 => rfl); (case hiA1 => exact (by rw [size34, stL_len]))) | ((with_reducible refine wplg_build ?hwB1 30 #[] rfl (stL zeroS) ?hbB1 ?_); (case hwB1 => rfl); (case hbB1 => simp only [List.map_toArray, List.map_nil]; exact built34)) | ((with_reducible refine wplg_eq ?hwC1 rfl ?hxC1 ?hyC1 ?_); (case hwC1 => rfl); (case hxC1 => rfl); (case hyC1 => rfl)) | ((with_reducible refine wplg_row ?hwD1 38 (.tmp 9) rfl E.out ?hxD1 _ Try.underlying38 ?hdD1 ?hiD1 ?_); (case hwD1 => rfl); (case hxD1 => rfl); (case hdD1 => rfl); (case hiD1 => exact size48)) | (go_at_call 5; (with_reducible refine (HSM.out _).mono ?_); rintro _ wx ⟨rfl, hb⟩; replace HF := Aside0.mk (HF.out.trans (Fix.of hb)); clear hb) | (go_at_call 6; (with_reducible refine (works_calls _).mono ?_); rintro _ wy ⟨rfl, hb⟩; replace HF := Aside0.mk (HF.out.trans (Fix.of hb)); clear hb))
    go_ret
    exact ⟨rfl, HF.out.below (B := w.heap.size) (Nat.le_refl _) (fun k hk => hk)⟩
end Go.Proofs.Ytadbonmkockakaa.Cp
