/- cpu.Step by contract. Written by wip/r5/stp.py. -/
import Derived.Test.YtadbonmkockakaaQRdo
import Derived.Laws.Tables
namespace Go.Proofs.Ytadbonmkockakaa.Cp
open Go.RowKit Go.Proofs.YtadbonmkockakaaW.PrintWords Go.Proofs.YtadbonmkockakaaW.PrintLast Go.Proofs.YtadbonmkockakaaW.PrintMore Go.Proofs.Ytadbonmkockakaa.QCb Go.Proofs.Ytadbonmkockakaa.QCe
set_option linter.unusedVariables false
set_option linter.unusedSimpArgs false
set_option maxRecDepth 100000 in
theorem built91 (m : Nat) (s u : St) (ans : Int) : Try.prog.built 51 [(0, .pointer (some ⟨m, 0, none⟩)), (1, .agg (stL s).toArray), (2, .agg (stL u).toArray), (4, .int .u32 ans)] = some (mcL ⟨m, s, u, 0, .slice none 0 0, false, 0, 0, ans⟩).toArray := by kernel_rfl
theorem built34 : Try.prog.built 30 [] = some (stL zeroS).toArray := by kernel_rfl
structure Dn where
  cause : Int
  tv : Value
  told : Bool
  out : Int
  to_ : Int
def dnL (d : Dn) : List Value := [.int .u32 d.cause, d.tv, .bool d.told, .int .u32 d.out, .int .u32 d.to_]
def dnV (d : Dn) : Value := .agg (dnL d).toArray
def zeroD : Dn := ⟨0, .slice none 0 0, false, 0, 0⟩
theorem size48 : (Try.prog.info? 38).map (·.size) = some 5 := by kernel_rfl
theorem size91 : (Try.prog.info? 51).map (·.size) = some 309 := by kernel_rfl
section
variable {P : Program} {ops : Array Oper} {rest : List Oper} {o : Oper} {a : Act} {w : World} {Q : Exit → Act → World → Prop}
theorem wpl_build (hgd : o.guard = none) (t : TypeId) (parts : Array (Nat × Operand)) (ho : o.op = .build t parts) (cells : List Value) (hb : P.built t (parts.map fun (i, x) => (i, a.eval x)).toList = some cells.toArray)
    (h : wpList P ops Q rest (a.put o.dst (.agg cells.toArray)) w) : wpList P ops Q (o :: rest) a w := by
  refine wpList_build hgd t parts ho (by rw [hb]; rfl) ?_
  rw [hb]; exact h
end
theorem results_three {P : Program} {f : Func} {a : Act} {w : World} {b1 b2 t1 t2 t3 : Nat} {T1 T2 : TypeId} {v1 v2 v : Value} (hf : f.results = #[.cell t1 T1, .cell t2 T2, .tmp t3]) (hp1 : a.tmps[t1]? = some (.pointer (some ⟨b1, 0, none⟩))) (hp2 : a.tmps[t2]? = some (.pointer (some ⟨b2, 0, none⟩))) (hp3 : a.tmps[t3]? = some v)
    (h1 : (loadVar T1 ⟨b1, 0, none⟩).run P w = .ok v1 w) (h2 : (loadVar T2 ⟨b2, 0, none⟩).run P w = .ok v2 w) : (results f a.tmps).run P w = .ok (.tuple #[v1, v2, v]) w := by
  have e1 : a.tmps.getD t1 undef = .pointer (some ⟨b1, 0, none⟩) := by simp [Array.getD_eq_getD_getElem?, hp1]
  have e2 : a.tmps.getD t2 undef = .pointer (some ⟨b2, 0, none⟩) := by simp [Array.getD_eq_getD_getElem?, hp2]
  have e3 : a.tmps.getD t3 undef = v := by simp [Array.getD_eq_getD_getElem?, hp3]
  unfold results
  rw [hf]
  rw [Sem.run_bind]
  simp only [Array.mapM_eq_mapM_toList, List.mapM_cons, List.mapM_nil, Sem.run_bind, Sem.run_pure, Result.andThen_ok, e1, e2, e3, asAddr, h1, h2, Sem.run_map]
  first | done | rfl | simp
theorem results_step {f : Func} {a : Act} {w : World} {b1 b2 t1 t2 t3 : Nat} {L D : List Value} {v : Value} (hf : f.results = #[.cell t1 30, .cell t2 38, .tmp t3]) (hp1 : a.tmps[t1]? = some (.pointer (some ⟨b1, 0, none⟩))) (hp2 : a.tmps[t2]? = some (.pointer (some ⟨b2, 0, none⟩))) (hp3 : a.tmps[t3]? = some v)
    (hL : BL w b1 30 L) (hD : BL w b2 38 D) (hl : L.length = 151) (hd : D.length = 5) : (results f a.tmps).run Try.prog w = .ok (.tuple #[.agg L.toArray, .agg D.toArray, v]) w :=
  results_three hf hp1 hp2 hp3 (run_loadVar_mid (P := Try.prog) w b1 0 30 L _ (hL.range 0 L (by rw [List.drop_zero, List.take_length])) Try.underlying30 rfl (by rw [size34, hl])) (run_loadVar_mid (P := Try.prog) w b2 0 38 D _ (hD.range 0 D (by rw [List.drop_zero, List.take_length])) Try.underlying38 rfl (by rw [size48, hd]))
set_option maxRecDepth 100000 in
set_option maxHeartbeats 8000000 in
theorem step_nil (s : St) (timer : Bool) (ans : Int) (w : World) :
    Calls Try.prog 4 #[.pointer none, stV s, .bool timer, .int .u32 ans] w fun e w' => e = .returned (.tuple #[stV zeroS, dnV zeroD, .int .i64 1]) ∧ Below w.heap.size w w' := by
  obtain ⟨L, hL⟩ : ∃ L, stL s = L := ⟨_, rfl⟩
  show Calls _ _ #[_, .agg (stL s).toArray, _, _] _ _
  rw [hL]
  have HL := Aside0.mk hL
  clear hL
  go_enter Try.func4, Try.ntmps4
  go_upto_region 1 with (first | ((with_reducible refine wpList_allocT info30 rfl rfl ?_)))
  have hs1 : (w.alloc (Obj.cells L.toArray 30)).heap.size = w.heap.size + 1 := by simp
  have hs2 : ((w.alloc (Obj.cells L.toArray 30)).alloc (Obj.cells (stL zeroS).toArray 30)).heap.size = w.heap.size + 1 + 1 := by simp
  try rw [hs2]
  try rw [hs1]
  generalize hw1 : ((w.alloc (Obj.cells L.toArray 30)).alloc (Obj.cells (stL zeroS).toArray 30)).alloc (Obj.cells #[.int .u32 0, .slice none 0 0, .bool false, .int .u32 0, .int .u32 0] 38) = w1
  have HB1 : Aside0 (Below w.heap.size w w1) := ⟨by rw [← hw1]; exact below_alloc (below_alloc (below_alloc (Below.refl _ _) _) _) _⟩
  have B5 : Aside0 (BL w1 w.heap.size 30 L) := ⟨by rw [← hw1]; exact ((BL.new w L 30).below (below_alloc (Below.refl _ _) _)).below (below_alloc (Below.refl _ _) _)⟩
  have B8 : Aside0 (BL w1 (w.heap.size + 1) 30 (stL zeroS)) := ⟨by rw [← hw1]; have h := (BL.new (w.alloc (Obj.cells L.toArray 30)) (stL zeroS) 30).below (below_alloc (Below.refl _ _) (Obj.cells #[.int .u32 0, .slice none 0 0, .bool false, .int .u32 0, .int .u32 0] 38)); rw [hs1] at h; exact h⟩
  have B9 : Aside0 (BL w1 (w.heap.size + 1 + 1) 38 (dnL zeroD)) := ⟨by rw [← hw1]; have h := BL.new ((w.alloc (Obj.cells L.toArray 30)).alloc (Obj.cells (stL zeroS).toArray 30)) (dnL zeroD) 38; rw [hs2] at h; exact h⟩
  clear hw1 hs1 hs2
  try simp only [Act.put, List.setIfInBounds_toArray, List.set_cons_zero, List.set_cons_succ]
  have B8' := B8
  have B9' := B9
  have HBZ := HB1
  go_wp2_with (first | ((with_reducible refine wpl_build rfl 30 #[] rfl (stL zeroS) ?hba ?_); (case hba => simp only [List.map_toArray, List.map_nil]; exact built34)) | ((with_reducible refine wps_agg rfl 30 (.tmp 8) (.tmp 17) rfl B8'.out ?off_1 ?cs_1 ?hx_1 ?hy_1 ?hi_1 ?h1_1 ?hl_1 (stL zeroS) ?hL_1 ?_); (case hx_1 => rfl); (case hy_1 => rfl); (case hi_1 => exact size34); (case h1_1 => exact stL_one _); (case hl_1 => exact Nat.le_of_ble_eq_true rfl); (case hL_1 => rfl); intro w9 hb9 hf9; have C8 := Aside0.mk hb9; have F8 := Aside0.mk hf9; have C9 := Aside0.mk (B9'.out.fix hf9 (by show ¬ _ = _; omega)); clear hb9 hf9) | ((with_reducible refine wps_agg rfl 38 (.tmp 9) (.tmp 18) rfl C9.out ?off_2 ?cs_2 ?hx_2 ?hy_2 ?hi_2 ?h1_2 ?hl_2 (dnL zeroD) ?hL_2 ?_); (case hx_2 => rfl); (case hy_2 => rfl); (case hi_2 => exact size48); (case h1_2 => simp [Value.oneCell']); (case hl_2 => exact Nat.le_of_ble_eq_true rfl); (case hL_2 => rfl); intro w9 hb9 hf9; have D9 := Aside0.mk hb9; have F9 := Aside0.mk hf9; have D8 := Aside0.mk (C8.out.fix hf9 (by show ¬ _ = _; omega)); clear hb9 hf9))
  exact bodyPost_ret (results_step rfl rfl rfl rfl D8.out D9.out (stL_len _) rfl) rfl ⟨rfl, HBZ.out.trans ((F8.out.below (B := w.heap.size) HBZ.out.size (fun k hk => by omega)).trans (F9.out.below (B := w.heap.size) (Nat.le_trans HBZ.out.size F8.out.size) (fun k hk => by omega)))⟩
set_option maxRecDepth 100000 in
set_option maxHeartbeats 4000000 in
theorem load_zero (g : Nat) (a n : Int) (w : World) (e0 : w.cell? ⟨g, 0, none⟩ = some (.bool false)) : Calls Try.prog 7 #[.pointer (some ⟨g, 0, none⟩), .int .u32 a, .int .i64 n] w fun e w' => e = .returned (.tuple #[.int .u32 0, .int .i64 1]) ∧ Below w.heap.size w w' := by
  have H1 := Aside0.mk (none_zero g w e0)
  clear e0
  go_enter Try.func7, Try.ntmps7
  go_wp2_with (first | (go_at_call 15; (with_reducible refine H1.out.mono ?_); rintro _ w1 ⟨rfl, hb⟩; have HB1 := Aside0.mk hb; clear hb))
  go_ret2
  exact ⟨rfl, HB1.out⟩
set_option maxRecDepth 100000 in
set_option maxHeartbeats 8000000 in
theorem step_zero (gm : Nat) (s : St) (timer : Bool) (ans : Int) (w : World) (hz : w.cell? ⟨gm, 0, none⟩ = some (.bool false)) :
    Calls Try.prog 4 #[.pointer (some ⟨gm, 0, none⟩), stV s, .bool timer, .int .u32 ans] w fun e w' => e = .returned (.tuple #[stV zeroS, dnV zeroD, .int .i64 1]) ∧ Below w.heap.size w w' := by
  have HZ := Aside0.mk hz
  have hlt := World.block_lt_of_cell? w _ hz
  clear hz
  obtain ⟨L, hL⟩ : ∃ L, stL s = L := ⟨_, rfl⟩
  show Calls _ _ #[_, .agg (stL s).toArray, _, _] _ _
  rw [hL]
  have HL := Aside0.mk hL
  clear hL
  go_enter Try.func4, Try.ntmps4
  go_upto_region 1 with (first | ((with_reducible refine wpList_allocT info30 rfl rfl ?_)))
  have hs1 : (w.alloc (Obj.cells L.toArray 30)).heap.size = w.heap.size + 1 := by simp
  have hs2 : ((w.alloc (Obj.cells L.toArray 30)).alloc (Obj.cells (stL zeroS).toArray 30)).heap.size = w.heap.size + 1 + 1 := by simp
  try rw [hs2]
  try rw [hs1]
  generalize hw1 : ((w.alloc (Obj.cells L.toArray 30)).alloc (Obj.cells (stL zeroS).toArray 30)).alloc (Obj.cells #[.int .u32 0, .slice none 0 0, .bool false, .int .u32 0, .int .u32 0] 38) = w1
  have HB1 : Aside0 (Below w.heap.size w w1) := ⟨by rw [← hw1]; exact below_alloc (below_alloc (below_alloc (Below.refl _ _) _) _) _⟩
  have B5 : Aside0 (BL w1 w.heap.size 30 L) := ⟨by rw [← hw1]; exact ((BL.new w L 30).below (below_alloc (Below.refl _ _) _)).below (below_alloc (Below.refl _ _) _)⟩
  have B8 : Aside0 (BL w1 (w.heap.size + 1) 30 (stL zeroS)) := ⟨by rw [← hw1]; have h := (BL.new (w.alloc (Obj.cells L.toArray 30)) (stL zeroS) 30).below (below_alloc (Below.refl _ _) (Obj.cells #[.int .u32 0, .slice none 0 0, .bool false, .int .u32 0, .int .u32 0] 38)); rw [hs1] at h; exact h⟩
  have B9 : Aside0 (BL w1 (w.heap.size + 1 + 1) 38 (dnL zeroD)) := ⟨by rw [← hw1]; have h := BL.new ((w.alloc (Obj.cells L.toArray 30)).alloc (Obj.cells (stL zeroS).toArray 30)) (dnL zeroD) 38; rw [hs2] at h; exact h⟩
  clear hw1 hs1 hs2
  try simp only [Act.put, List.setIfInBounds_toArray, List.set_cons_zero, List.set_cons_succ]
  have HLZ := Aside0.mk (load_zero gm 0 1 w1 ((HB1.out.cell hlt).trans HZ.out))
  clear hlt
  go_upto_region 4 with (first | (go_at_call 7; (with_reducible refine HLZ.out.mono ?_); rintro _ w2 ⟨rfl, hb⟩; have HBZ := Aside0.mk (HB1.out.trans (hb.mono HB1.out.size)); have B8' := Aside0.mk (B8.out.below hb); have B9' := Aside0.mk (B9.out.below hb); clear hb))
  go_wp2_with (first | ((with_reducible refine wpl_build rfl 30 #[] rfl (stL zeroS) ?hbb ?_); (case hbb => simp only [List.map_toArray, List.map_nil]; exact built34)) | ((with_reducible refine wps_agg rfl 30 (.tmp 8) (.tmp 26) rfl B8'.out ?off_3 ?cs_3 ?hx_3 ?hy_3 ?hi_3 ?h1_3 ?hl_3 (stL zeroS) ?hL_3 ?_); (case hx_3 => rfl); (case hy_3 => rfl); (case hi_3 => exact size34); (case h1_3 => exact stL_one _); (case hl_3 => exact Nat.le_of_ble_eq_true rfl); (case hL_3 => rfl); intro w9 hb9 hf9; have C8 := Aside0.mk hb9; have F8 := Aside0.mk hf9; have C9 := Aside0.mk (B9'.out.fix hf9 (by show ¬ _ = _; omega)); clear hb9 hf9) | ((with_reducible refine wps_agg rfl 38 (.tmp 9) (.tmp 27) rfl C9.out ?off_4 ?cs_4 ?hx_4 ?hy_4 ?hi_4 ?h1_4 ?hl_4 (dnL zeroD) ?hL_4 ?_); (case hx_4 => rfl); (case hy_4 => rfl); (case hi_4 => exact size48); (case h1_4 => simp [Value.oneCell']); (case hl_4 => exact Nat.le_of_ble_eq_true rfl); (case hL_4 => rfl); intro w9 hb9 hf9; have D9 := Aside0.mk hb9; have F9 := Aside0.mk hf9; have D8 := Aside0.mk (C8.out.fix hf9 (by show ¬ _ = _; omega)); clear hb9 hf9))
  exact bodyPost_ret (results_step rfl rfl rfl rfl D8.out D9.out (stL_len _) rfl) rfl ⟨rfl, HBZ.out.trans ((F8.out.below (B := w.heap.size) HBZ.out.size (fun k hk => by omega)).trans (F9.out.below (B := w.heap.size) (Nat.le_trans HBZ.out.size F8.out.size) (fun k hk => by omega)))⟩
set_option maxRecDepth 100000 in
set_option maxHeartbeats 8000000 in
theorem step_halted (gm : Nat) (M : Mem) (hM : MemOk M) (s : St) (timer : Bool) (ans : Int) (hh : s.halted = true) (w : World) (hm : MemB w gm M) :
    Calls Try.prog 4 #[.pointer (some ⟨gm, 0, none⟩), stV s, .bool timer, .int .u32 ans] w fun e w' => e = .returned (.tuple #[stV { s with regs := setR s.regs 0 nullC }, dnV zeroD, .int .i64 0]) ∧ Below w.heap.size w w' := by
  have HMB := Aside0.mk hm
  clear hm
  obtain ⟨L, hL⟩ : ∃ L, stL s = L := ⟨_, rfl⟩
  show Calls _ _ #[_, .agg (stL s).toArray, _, _] _ _
  rw [hL]
  have HL := Aside0.mk hL
  clear hL
  go_enter Try.func4, Try.ntmps4
  go_upto_region 1 with (first | ((with_reducible refine wpList_allocT info30 rfl rfl ?_)))
  have hs1 : (w.alloc (Obj.cells L.toArray 30)).heap.size = w.heap.size + 1 := by simp
  have hs2 : ((w.alloc (Obj.cells L.toArray 30)).alloc (Obj.cells (stL zeroS).toArray 30)).heap.size = w.heap.size + 1 + 1 := by simp
  try rw [hs2]
  try rw [hs1]
  generalize hw1 : ((w.alloc (Obj.cells L.toArray 30)).alloc (Obj.cells (stL zeroS).toArray 30)).alloc (Obj.cells #[.int .u32 0, .slice none 0 0, .bool false, .int .u32 0, .int .u32 0] 38) = w1
  have HB1 : Aside0 (Below w.heap.size w w1) := ⟨by rw [← hw1]; exact below_alloc (below_alloc (below_alloc (Below.refl _ _) _) _) _⟩
  have B5 : Aside0 (BL w1 w.heap.size 30 L) := ⟨by rw [← hw1]; exact ((BL.new w L 30).below (below_alloc (Below.refl _ _) _)).below (below_alloc (Below.refl _ _) _)⟩
  have B8 : Aside0 (BL w1 (w.heap.size + 1) 30 (stL zeroS)) := ⟨by rw [← hw1]; have h := (BL.new (w.alloc (Obj.cells L.toArray 30)) (stL zeroS) 30).below (below_alloc (Below.refl _ _) (Obj.cells #[.int .u32 0, .slice none 0 0, .bool false, .int .u32 0, .int .u32 0] 38)); rw [hs1] at h; exact h⟩
  have B9 : Aside0 (BL w1 (w.heap.size + 1 + 1) 38 (dnL zeroD)) := ⟨by rw [← hw1]; have h := BL.new ((w.alloc (Obj.cells L.toArray 30)).alloc (Obj.cells (stL zeroS).toArray 30)) (dnL zeroD) 38; rw [hs2] at h; exact h⟩
  clear hw1 hs1 hs2
  try simp only [Act.put, List.setIfInBounds_toArray, List.set_cons_zero, List.set_cons_succ]
  have HLD : Aside0 (∀ w, MemB w gm M → Calls Try.prog 7 #[.pointer (some ⟨gm, 0, none⟩), .int .u32 0, .int .i64 1] w fun e w' => e = .returned (.tuple #[.int .u32 (loadS M 0 1), .int .i64 0]) ∧ Below w.heap.size w w') := ⟨fun w h => load_calls gm 0 1 M hM (by decide) (by decide) (by decide) w h⟩
  clear hM
  go_upto_region 4 with (first | (go_at_call 7; (with_reducible refine (HLD.out _ (HMB.out.below HB1.out)).mono ?_); rintro _ w2 ⟨rfl, hb⟩; have HB2 := Aside0.mk (HB1.out.trans (hb.mono HB1.out.size)); have B5' := Aside0.mk (B5.out.below hb); have B8' := Aside0.mk (B8.out.below hb); have B9' := Aside0.mk (B9.out.below hb); clear hb))
  rw [← HL.out] at B5'
  clear HLD B5 B8 B9 HB1
  go_upto_region 6 with fail
  go_upto_region 7 with (first | (go_at_call 8; (with_reducible refine (null_calls _).mono ?_); rintro _ w3 ⟨rfl, hb⟩; have HB3 := Aside0.mk (HB2.out.trans (hb.mono HB2.out.size)); have C5 := Aside0.mk (B5'.out.below hb); have C8 := Aside0.mk (B8'.out.below hb); have C9 := Aside0.mk (B9'.out.below hb); clear hb) | ((with_reducible refine wps_agg rfl 27 (.tmp 30) (.tmp 28) rfl C5.out ?off_5 ?cs_5 ?hx_5 ?hy_5 ?hi_5 ?h1_5 ?hl_5 (stL { s with regs := setR s.regs 0 nullC }) ?hL_5 ?_); (case hx_5 => rfl); (case hy_5 => rfl); (case hi_5 => exact size31); (case h1_5 => simp [Value.oneCell']); (case hl_5 => exact Nat.le_of_ble_eq_true rfl); (case hL_5 => rfl); intro w9 hb9 hf9; have D5 := Aside0.mk hb9; have B8' := Aside0.mk (C8.out.fix hf9 (by show ¬ _ = _; omega)); have B9' := Aside0.mk (C9.out.fix hf9 (by show ¬ _ = _; omega)); have HBZ : Aside0 (Below w.heap.size w w9) := ⟨HB3.out.trans (hf9.below (B := w.heap.size) HB3.out.size (fun k hk => by omega))⟩; clear hb9 hf9))
  have x150 := D5.out.cell 150 _ rfl
  have x148 := D5.out.cell 148 _ rfl
  clear C5 C8 C9 B5' HB2 HB3
  rw [show ({ s with regs := setR s.regs 0 nullC } : St).halted = true from hh] at x150
  clear hh
  go_wp2_with (first | ((with_reducible refine wpl_agg rfl 30 (.tmp 5) rfl D5.out ?off_6 (stL { s with regs := setR s.regs 0 nullC }) ?hx_6 ?hc_6 _ Try.underlying30 ?hd_6 ?hi_6 ?_); (case hx_6 => rfl); (case hc_6 => rfl); (case hd_6 => rfl); (case hi_6 => exact size34)) | ((with_reducible refine wps_agg rfl 30 (.tmp 8) (.tmp 34) rfl B8'.out ?off_7 ?cs_7 ?hx_7 ?hy_7 ?hi_7 ?h1_7 ?hl_7 (stL { s with regs := setR s.regs 0 nullC }) ?hL_7 ?_); (case hx_7 => rfl); (case hy_7 => rfl); (case hi_7 => exact size34); (case h1_7 => exact stL_one _); (case hl_7 => exact Nat.le_of_ble_eq_true rfl); (case hL_7 => rfl); intro w9 hb9 hf9; have C8 := Aside0.mk hb9; have F8 := Aside0.mk hf9; have C9 := Aside0.mk (B9'.out.fix hf9 (by show ¬ _ = _; omega)); clear hb9 hf9) | ((with_reducible refine wps_agg rfl 38 (.tmp 9) (.tmp 35) rfl C9.out ?off_8 ?cs_8 ?hx_8 ?hy_8 ?hi_8 ?h1_8 ?hl_8 (dnL zeroD) ?hL_8 ?_); (case hx_8 => rfl); (case hy_8 => rfl); (case hi_8 => exact size48); (case h1_8 => simp [Value.oneCell']); (case hl_8 => exact Nat.le_of_ble_eq_true rfl); (case hL_8 => rfl); intro w9 hb9 hf9; have D9 := Aside0.mk hb9; have F9 := Aside0.mk hf9; have D8 := Aside0.mk (C8.out.fix hf9 (by show ¬ _ = _; omega)); clear hb9 hf9))
  exact bodyPost_ret (results_step rfl rfl rfl rfl D8.out D9.out (stL_len _) rfl) rfl ⟨rfl, HBZ.out.trans ((F8.out.below (B := w.heap.size) HBZ.out.size (fun k hk => by omega)).trans (F9.out.below (B := w.heap.size) (Nat.le_trans HBZ.out.size F8.out.size) (fun k hk => by omega)))⟩
end Go.Proofs.Ytadbonmkockakaa.Cp
