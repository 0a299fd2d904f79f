/- cpu.Step of no memory and of a zero one, whatever the state's cells; same of two that are zero; the law's walk. -/
import Derived.Test.YtadbonmkockakaaQStp
namespace Go.Proofs.Ytadbonmkockakaa.Cp
open Go.RowKit Go.Proofs.YtadbonmkockakaaW.PrintWords Go.Proofs.YtadbonmkockakaaW.PrintLast Go.Proofs.YtadbonmkockakaaW.PrintMore Go.Proofs.Ytadbonmkockakaa.QCb Go.Proofs.Ytadbonmkockakaa.QCe
set_option linter.unusedVariables false
set_option linter.unusedSimpArgs false
set_option maxRecDepth 100000 in
set_option maxHeartbeats 8000000 in
theorem step_nilL (L : List Value) (timer : Bool) (ans : Int) (w : World) :
    Calls Try.prog 4 #[.pointer none, (.agg L.toArray), .bool timer, .int .u32 ans] w fun e w' => e = .returned (.tuple #[stV zeroS, dnV zeroD, .int .i64 1]) ∧ Below w.heap.size w w' := by
  go_enter Try.func4, Try.ntmps4
  go_upto_region 1 with (first | ((with_reducible refine wpList_allocT info30 rfl rfl ?_)))
  have hs1 : (w.alloc (Obj.cells L.toArray 30)).heap.size = w.heap.size + 1 := by simp
  have hs2 : ((w.alloc (Obj.cells L.toArray 30)).alloc (Obj.cells (stL zeroS).toArray 30)).heap.size = w.heap.size + 1 + 1 := by simp
  try rw [hs2]
  try rw [hs1]
  generalize hw1 : ((w.alloc (Obj.cells L.toArray 30)).alloc (Obj.cells (stL zeroS).toArray 30)).alloc (Obj.cells #[.int .u32 0, .slice none 0 0, .bool false, .int .u32 0, .int .u32 0] 38) = w1
  have HB1 : Aside0 (Below w.heap.size w w1) := ⟨by rw [← hw1]; exact below_alloc (below_alloc (below_alloc (Below.refl _ _) _) _) _⟩
  have B5 : Aside0 (BL w1 w.heap.size 30 L) := ⟨by rw [← hw1]; exact ((BL.new w L 30).below (below_alloc (Below.refl _ _) _)).below (below_alloc (Below.refl _ _) _)⟩
  have B8 : Aside0 (BL w1 (w.heap.size + 1) 30 (stL zeroS)) := ⟨by rw [← hw1]; have h := (BL.new (w.alloc (Obj.cells L.toArray 30)) (stL zeroS) 30).below (below_alloc (Below.refl _ _) (Obj.cells #[.int .u32 0, .slice none 0 0, .bool false, .int .u32 0, .int .u32 0] 38)); rw [hs1] at h; exact h⟩
  have B9 : Aside0 (BL w1 (w.heap.size + 1 + 1) 38 (dnL zeroD)) := ⟨by rw [← hw1]; have h := BL.new ((w.alloc (Obj.cells L.toArray 30)).alloc (Obj.cells (stL zeroS).toArray 30)) (dnL zeroD) 38; rw [hs2] at h; exact h⟩
  clear hw1 hs1 hs2
  try simp only [Act.put, List.setIfInBounds_toArray, List.set_cons_zero, List.set_cons_succ]
  have B8' := B8
  have B9' := B9
  have HBZ := HB1
  go_wp2_with (first | ((with_reducible refine wpl_build rfl 30 #[] rfl (stL zeroS) ?hba ?_); (case hba => simp only [List.map_toArray, List.map_nil]; exact built34)) | ((with_reducible refine wps_agg rfl 30 (.tmp 8) (.tmp 17) rfl B8'.out ?off_1 ?cs_1 ?hx_1 ?hy_1 ?hi_1 ?h1_1 ?hl_1 (stL zeroS) ?hL_1 ?_); (case hx_1 => rfl); (case hy_1 => rfl); (case hi_1 => exact size34); (case h1_1 => exact stL_one _); (case hl_1 => exact Nat.le_of_ble_eq_true rfl); (case hL_1 => rfl); intro w9 hb9 hf9; have C8 := Aside0.mk hb9; have F8 := Aside0.mk hf9; have C9 := Aside0.mk (B9'.out.fix hf9 (by show ¬ _ = _; omega)); clear hb9 hf9) | ((with_reducible refine wps_agg rfl 38 (.tmp 9) (.tmp 18) rfl C9.out ?off_2 ?cs_2 ?hx_2 ?hy_2 ?hi_2 ?h1_2 ?hl_2 (dnL zeroD) ?hL_2 ?_); (case hx_2 => rfl); (case hy_2 => rfl); (case hi_2 => exact size48); (case h1_2 => simp [Value.oneCell']); (case hl_2 => exact Nat.le_of_ble_eq_true rfl); (case hL_2 => rfl); intro w9 hb9 hf9; have D9 := Aside0.mk hb9; have F9 := Aside0.mk hf9; have D8 := Aside0.mk (C8.out.fix hf9 (by show ¬ _ = _; omega)); clear hb9 hf9))
  exact bodyPost_ret (results_step rfl rfl rfl rfl D8.out D9.out (stL_len _) rfl) rfl ⟨rfl, HBZ.out.trans ((F8.out.below (B := w.heap.size) HBZ.out.size (fun k hk => by omega)).trans (F9.out.below (B := w.heap.size) (Nat.le_trans HBZ.out.size F8.out.size) (fun k hk => by omega)))⟩
set_option maxRecDepth 100000 in
set_option maxHeartbeats 8000000 in
theorem step_zeroL (gm : Nat) (L : List Value) (timer : Bool) (ans : Int) (w : World) (hz : w.cell? ⟨gm, 0, none⟩ = some (.bool false)) :
    Calls Try.prog 4 #[.pointer (some ⟨gm, 0, none⟩), (.agg L.toArray), .bool timer, .int .u32 ans] w fun e w' => e = .returned (.tuple #[stV zeroS, dnV zeroD, .int .i64 1]) ∧ Below w.heap.size w w' := by
  have HZ := Aside0.mk hz
  have hlt := World.block_lt_of_cell? w _ hz
  clear hz
  go_enter Try.func4, Try.ntmps4
  go_upto_region 1 with (first | ((with_reducible refine wpList_allocT info30 rfl rfl ?_)))
  have hs1 : (w.alloc (Obj.cells L.toArray 30)).heap.size = w.heap.size + 1 := by simp
  have hs2 : ((w.alloc (Obj.cells L.toArray 30)).alloc (Obj.cells (stL zeroS).toArray 30)).heap.size = w.heap.size + 1 + 1 := by simp
  try rw [hs2]
  try rw [hs1]
  generalize hw1 : ((w.alloc (Obj.cells L.toArray 30)).alloc (Obj.cells (stL zeroS).toArray 30)).alloc (Obj.cells #[.int .u32 0, .slice none 0 0, .bool false, .int .u32 0, .int .u32 0] 38) = w1
  have HB1 : Aside0 (Below w.heap.size w w1) := ⟨by rw [← hw1]; exact below_alloc (below_alloc (below_alloc (Below.refl _ _) _) _) _⟩
  have B5 : Aside0 (BL w1 w.heap.size 30 L) := ⟨by rw [← hw1]; exact ((BL.new w L 30).below (below_alloc (Below.refl _ _) _)).below (below_alloc (Below.refl _ _) _)⟩
  have B8 : Aside0 (BL w1 (w.heap.size + 1) 30 (stL zeroS)) := ⟨by rw [← hw1]; have h := (BL.new (w.alloc (Obj.cells L.toArray 30)) (stL zeroS) 30).below (below_alloc (Below.refl _ _) (Obj.cells #[.int .u32 0, .slice none 0 0, .bool false, .int .u32 0, .int .u32 0] 38)); rw [hs1] at h; exact h⟩
  have B9 : Aside0 (BL w1 (w.heap.size + 1 + 1) 38 (dnL zeroD)) := ⟨by rw [← hw1]; have h := BL.new ((w.alloc (Obj.cells L.toArray 30)).alloc (Obj.cells (stL zeroS).toArray 30)) (dnL zeroD) 38; rw [hs2] at h; exact h⟩
  clear hw1 hs1 hs2
  try simp only [Act.put, List.setIfInBounds_toArray, List.set_cons_zero, List.set_cons_succ]
  have HLZ := Aside0.mk (load_zero gm 0 1 w1 ((HB1.out.cell hlt).trans HZ.out))
  clear hlt
  go_upto_region 4 with (first | (go_at_call 7; (with_reducible refine HLZ.out.mono ?_); rintro _ w2 ⟨rfl, hb⟩; have HBZ := Aside0.mk (HB1.out.trans (hb.mono HB1.out.size)); have B8' := Aside0.mk (B8.out.below hb); have B9' := Aside0.mk (B9.out.below hb); clear hb))
  go_wp2_with (first | ((with_reducible refine wpl_build rfl 30 #[] rfl (stL zeroS) ?hbb ?_); (case hbb => simp only [List.map_toArray, List.map_nil]; exact built34)) | ((with_reducible refine wps_agg rfl 30 (.tmp 8) (.tmp 26) rfl B8'.out ?off_3 ?cs_3 ?hx_3 ?hy_3 ?hi_3 ?h1_3 ?hl_3 (stL zeroS) ?hL_3 ?_); (case hx_3 => rfl); (case hy_3 => rfl); (case hi_3 => exact size34); (case h1_3 => exact stL_one _); (case hl_3 => exact Nat.le_of_ble_eq_true rfl); (case hL_3 => rfl); intro w9 hb9 hf9; have C8 := Aside0.mk hb9; have F8 := Aside0.mk hf9; have C9 := Aside0.mk (B9'.out.fix hf9 (by show ¬ _ = _; omega)); clear hb9 hf9) | ((with_reducible refine wps_agg rfl 38 (.tmp 9) (.tmp 27) rfl C9.out ?off_4 ?cs_4 ?hx_4 ?hy_4 ?hi_4 ?h1_4 ?hl_4 (dnL zeroD) ?hL_4 ?_); (case hx_4 => rfl); (case hy_4 => rfl); (case hi_4 => exact size48); (case h1_4 => simp [Value.oneCell']); (case hl_4 => exact Nat.le_of_ble_eq_true rfl); (case hL_4 => rfl); intro w9 hb9 hf9; have D9 := Aside0.mk hb9; have F9 := Aside0.mk hf9; have D8 := Aside0.mk (C8.out.fix hf9 (by show ¬ _ = _; omega)); clear hb9 hf9))
  exact bodyPost_ret (results_step rfl rfl rfl rfl D8.out D9.out (stL_len _) rfl) rfl ⟨rfl, HBZ.out.trans ((F8.out.below (B := w.heap.size) HBZ.out.size (fun k hk => by omega)).trans (F9.out.below (B := w.heap.size) (Nat.le_trans HBZ.out.size F8.out.size) (fun k hk => by omega)))⟩
end Go.Proofs.Ytadbonmkockakaa.Cp
