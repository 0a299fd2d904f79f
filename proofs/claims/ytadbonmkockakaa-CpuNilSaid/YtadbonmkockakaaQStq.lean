/- cpu.Step where an instruction is done, by do's contract. Written by wip/r5/stq.py. -/
import Derived.Test.YtadbonmkockakaaQStp
namespace Go.Proofs.Ytadbonmkockakaa.Cp
open Go.RowKit Go.Proofs.YtadbonmkockakaaW.PrintWords Go.Proofs.YtadbonmkockakaaW.PrintLast Go.Proofs.YtadbonmkockakaaW.PrintMore Go.Proofs.Ytadbonmkockakaa.QCb Go.Proofs.Ytadbonmkockakaa.QCe
open Go.Proofs.Ytadbonmkockakaa.Ins (I5 getS getV)
set_option linter.unusedVariables false
set_option linter.unusedSimpArgs false
def T12_16 : Bool × List (List Nat × List Nat) := (true, [([], []), ([0], [0]), ([1], [1]), ([2], [2]), ([], []), ([4], [4]), ([5], [5]), ([6], [6]), ([3, 0, 1, 2, 3], [3]), ([7, 8, 0, 1, 2, 3, 4, 5, 6, 7, 8], [7]), ([9, 0, 1, 2, 3, 4, 5, 6, 7, 8, 9], [])])
theorem tab12_16 : rtab .any (opsOf Try.f4 16) = T12_16 := by kernel_rfl
def B12_16 : List Nat := [0, 1, 3, 7, 0, 16, 48, 112, 15, 511, 1023]
theorem bits12_16 : waitsOk T12_16.2 B12_16 = true := by kernel_rfl
theorem mcL_now (x : Mc) : ((mcL x).drop 152).take (stL x.now).length = stL x.now := by
  have e : mcL x = (.pointer (some ⟨x.m, 0, none⟩) :: stL x.was) ++ (stL x.now ++ [.int .u32 x.cause, x.tv, .bool x.told, .int .u32 x.out, .int .u32 x.to_, .int .u32 x.ans]) := by unfold mcL; simp
  rw [e, List.drop_left' (by simp [stL_len]), List.take_left]
theorem mcL_done (x : Mc) : ((mcL x).drop 303).take (dnL ⟨x.cause, x.tv, x.told, x.out, x.to_⟩).length = dnL ⟨x.cause, x.tv, x.told, x.out, x.to_⟩ := by
  have e : mcL x = ((.pointer (some ⟨x.m, 0, none⟩) :: stL x.was) ++ stL x.now) ++ (dnL ⟨x.cause, x.tv, x.told, x.out, x.to_⟩ ++ [.int .u32 x.ans]) := by unfold mcL dnL; simp
  rw [e, List.drop_left' (by simp [stL_len]), List.take_left]
theorem bl_of {w : World} {b : Nat} {T : TypeId} {L : List Value} (h : ∃ L', BL w b T L' ∧ L' = L) : BL w b T L := by
  obtain ⟨_, h, rfl⟩ := h
  exact h
theorem dn_one {c o t : Int} {v : Value} {b : Bool} (h : v.oneCell' = true) : (dnL ⟨c, v, b, o, t⟩).toArray.all (·.oneCell') = true := by
  rw [Array.all_eq_true_iff_forall_mem]
  intro u hu
  rw [List.mem_toArray] at hu
  simp only [dnL, List.mem_cons, List.not_mem_nil, or_false] at hu
  rcases hu with rfl | rfl | rfl | rfl | rfl
  · rfl
  · exact h
  all_goals rfl
theorem row_far2 {w w' : World} {base g t : Nat} {v : Value} {T : List Tch} {L : List Value} (h : k52.R 54 w base (fun _ => True) v T) (hg : BL w g t L) (ht : ∀ q, q ∈ 54 :: k52.E → q ≠ t) (hf : Fix (· = g) w w') : k52.R 54 w' base (fun _ => True) v T :=
  Kd.R_mono (Kd.R_step (Kd.R_types h (show w.heap[g]? = some (.cells _ t (0, 0)) from hg) ht) (fun k hk hlt => hf.block k hlt hk.2)) (fun _ _ => trivial)
theorem Fix.up {S S' : Nat → Prop} {w w1 w2 : World} (h : Fix S w w1) (k : Fix S' w1 w2) (hs : ∀ i, i < w.heap.size → S' i → S i) : Fix S w w2 :=
  ⟨k.os.trans h.os, k.tape.trans h.tape, k.output.trans h.output, Nat.le_trans h.size k.size, fun i hi hn => (k.block i (Nat.lt_of_lt_of_le hi h.size) (fun e => hn (hs i hi e))).trans (h.block i hi hn)⟩
theorem row_cell {w : World} {base : Nat} {v : Value} {T : List Tch} (h : k52.R 54 w base (fun _ => True) v T) : v.oneCell' = true := by
  obtain ⟨A, c, rfl⟩ := Kd.R_slice h
  rfl
set_option maxRecDepth 100000 in
set_option maxHeartbeats 8000000 in
theorem step_do (gm : Nat) (M M' : Mem) (hM : MemOk M) (s : St) (timer : Bool) (ans : Int) (hh : s.halted = false) (hto : (timer && s.on) = false) (ok : OkC s.pcc) (hf : fetchS s.pcc = true) (i : I5) (hget : getS (loadS M s.pcc.addr.toNat 4) = (i, 0)) (yy : Mc) (T : List Tch) (w : World) (hm : MemB w gm M)
    (hdo : ∀ (g base : Nat) (tv : Value) (w1 : World), base ≤ w1.heap.size → BL w1 g 51 (mcL (nextM (⟨gm, { s with regs := setR s.regs 0 nullC }, { s with regs := setR s.regs 0 nullC }, 0, .slice none 0 0, false, 0, 0, ans⟩ : Mc) tv)) → MemB w1 gm M → k52.R 54 w1 base (fun _ => True) tv [⟨1, s.pcc.addr, 4⟩] → Calls Try.prog 25 #[.pointer (some ⟨g, 0, none⟩), .agg (insL i).toArray] w1 fun e w2 => e = .returned (.tuple #[]) ∧ Fix (fun k => k = g ∨ k = gm ∨ some k = tv.ownBlock) w1 w2 ∧ ∃ tv2, BL w2 g 51 (mcL { yy with tv := tv2 }) ∧ MemB w2 gm M' ∧ k52.R 54 w2 base (fun _ => True) tv2 T) :
    Calls Try.prog 4 #[.pointer (some ⟨gm, 0, none⟩), stV s, .bool timer, .int .u32 ans] w fun e w' => ∃ tv, e = .returned (.tuple #[stV yy.now, dnV ⟨yy.cause, tv, yy.told, yy.out, yy.to_⟩, .int .i64 0]) ∧ MemB w' gm M' ∧ k52.R 54 w' w.heap.size (fun _ => True) tv T ∧ Fix (· = gm) w w' := by
  have HM := Aside0.mk hM
  have HOK : Aside0 (OkC ((⟨gm, { s with regs := setR s.regs 0 nullC }, { s with regs := setR s.regs 0 nullC }, 0, .slice none 0 0, false, 0, 0, ans⟩ : Mc)).was.pcc) := ⟨ok⟩
  have HF : Aside0 (fetchS ((⟨gm, { s with regs := setR s.regs 0 nullC }, { s with regs := setR s.regs 0 nullC }, 0, .slice none 0 0, false, 0, 0, ans⟩ : Mc)).was.pcc = true) := ⟨hf⟩
  have HGET : Aside0 (getS (loadS M ((⟨gm, { s with regs := setR s.regs 0 nullC }, { s with regs := setR s.regs 0 nullC }, 0, .slice none 0 0, false, 0, 0, ans⟩ : Mc)).was.pcc.addr.toNat 4) = (i, 0)) := ⟨hget⟩
  have HDO := Aside0.mk hdo
  have HH := Aside0.mk hh
  have HTO := Aside0.mk hto
  clear ok hf hget hdo hh hto
  have HMB := Aside0.mk hm
  clear hm
  obtain ⟨L, hL⟩ : ∃ L, stL s = L := ⟨_, rfl⟩
  show Calls _ _ #[_, .agg (stL s).toArray, _, _] _ _
  rw [hL]
  have HL := Aside0.mk hL
  clear hL
  go_enter Try.func4, Try.ntmps4
  go_upto_region 1 with (first | ((with_reducible refine wpList_allocT info30 rfl rfl ?_)))
  have hs1 : (w.alloc (Obj.cells L.toArray 30)).heap.size = w.heap.size + 1 := by simp
  have hs2 : ((w.alloc (Obj.cells L.toArray 30)).alloc (Obj.cells (stL zeroS).toArray 30)).heap.size = w.heap.size + 1 + 1 := by simp
  try rw [hs2]
  try rw [hs1]
  generalize hw1 : ((w.alloc (Obj.cells L.toArray 30)).alloc (Obj.cells (stL zeroS).toArray 30)).alloc (Obj.cells #[.int .u32 0, .slice none 0 0, .bool false, .int .u32 0, .int .u32 0] 38) = w1
  have HB1 : Aside0 (Below w.heap.size w w1) := ⟨by rw [← hw1]; exact below_alloc (below_alloc (below_alloc (Below.refl _ _) _) _) _⟩
  have B5 : Aside0 (BL w1 w.heap.size 30 L) := ⟨by rw [← hw1]; exact ((BL.new w L 30).below (below_alloc (Below.refl _ _) _)).below (below_alloc (Below.refl _ _) _)⟩
  have B8 : Aside0 (BL w1 (w.heap.size + 1) 30 (stL zeroS)) := ⟨by rw [← hw1]; have h := (BL.new (w.alloc (Obj.cells L.toArray 30)) (stL zeroS) 30).below (below_alloc (Below.refl _ _) (Obj.cells #[.int .u32 0, .slice none 0 0, .bool false, .int .u32 0, .int .u32 0] 38)); rw [hs1] at h; exact h⟩
  have B9 : Aside0 (BL w1 (w.heap.size + 1 + 1) 38 (dnL zeroD)) := ⟨by rw [← hw1]; have h := BL.new ((w.alloc (Obj.cells L.toArray 30)).alloc (Obj.cells (stL zeroS).toArray 30)) (dnL zeroD) 38; rw [hs2] at h; exact h⟩
  clear hw1 hs1 hs2
  try simp only [Act.put, List.setIfInBounds_toArray, List.set_cons_zero, List.set_cons_succ]
  have HLD : Aside0 (∀ w, MemB w gm M → Calls Try.prog 7 #[.pointer (some ⟨gm, 0, none⟩), .int .u32 0, .int .i64 1] w fun e w' => e = .returned (.tuple #[.int .u32 (loadS M 0 1), .int .i64 0]) ∧ Below w.heap.size w w') := ⟨fun w h => load_calls gm 0 1 M hM (by decide) (by decide) (by decide) w h⟩
  clear hM
  go_upto_region 4 with (first | (go_at_call 7; (with_reducible refine (HLD.out _ (HMB.out.below HB1.out)).mono ?_); rintro _ w2 ⟨rfl, hb⟩; have HB2 := Aside0.mk (HB1.out.trans (hb.mono HB1.out.size)); have B5' := Aside0.mk (B5.out.below hb); have B8' := Aside0.mk (B8.out.below hb); have B9' := Aside0.mk (B9.out.below hb); clear hb))
  rw [← HL.out] at B5'
  clear HLD B5 B8 B9 HB1
  go_upto_region 6 with fail
  go_upto_region 7 with (first | (go_at_call 8; (with_reducible refine (null_calls _).mono ?_); rintro _ w3 ⟨rfl, hb⟩; have HB3 := Aside0.mk (HB2.out.trans (hb.mono HB2.out.size)); have C5 := Aside0.mk (B5'.out.below hb); have C8 := Aside0.mk (B8'.out.below hb); have C9 := Aside0.mk (B9'.out.below hb); clear hb) | ((with_reducible refine wps_agg rfl 27 (.tmp 30) (.tmp 28) rfl C5.out ?off_9 ?cs_9 ?hx_9 ?hy_9 ?hi_9 ?h1_9 ?hl_9 (stL { s with regs := setR s.regs 0 nullC }) ?hL_9 ?_); (case hx_9 => rfl); (case hy_9 => rfl); (case hi_9 => exact size31); (case h1_9 => simp [Value.oneCell']); (case hl_9 => exact Nat.le_of_ble_eq_true rfl); (case hL_9 => rfl); intro w9 hb9 hf9; have D5 := Aside0.mk hb9; have B8' := Aside0.mk (C8.out.fix hf9 (by show ¬ _ = _; omega)); have B9' := Aside0.mk (C9.out.fix hf9 (by show ¬ _ = _; omega)); have HBZ : Aside0 (Below w.heap.size w w9) := ⟨HB3.out.trans (hf9.below (B := w.heap.size) HB3.out.size (fun k hk => by omega))⟩; clear hb9 hf9))
  have x150 := D5.out.cell 150 _ rfl
  have x148 := D5.out.cell 148 _ rfl
  clear C5 C8 C9 B5' HB2 HB3
  rw [show ({ s with regs := setR s.regs 0 nullC } : St).halted = false from HH.out] at x150
  rw [show ({ s with regs := setR s.regs 0 nullC } : St).on = s.on from rfl] at x148
  cases timer
  · go_upto_region 12 with (first | ((with_reducible refine wpl_agg rfl 30 (.tmp 5) rfl D5.out ?off_10 (stL { s with regs := setR s.regs 0 nullC }) ?hx_10 ?hc_10 _ Try.underlying30 ?hd_10 ?hi_10 ?_); (case hx_10 => rfl); (case hc_10 => rfl); (case hd_10 => rfl); (case hi_10 => exact size34)) | ((with_reducible refine wpl_build rfl 51 #[(0, .tmp 45), (1, .tmp 46), (2, .tmp 47), (4, .tmp 48)] rfl (mcL (⟨gm, { s with regs := setR s.regs 0 nullC }, { s with regs := setR s.regs 0 nullC }, 0, .slice none 0 0, false, 0, 0, ans⟩ : Mc)) ?hbmf ?_); (case hbmf => simp only [List.map_toArray, List.map_cons, List.map_nil]; exact built91 gm { s with regs := setR s.regs 0 nullC } { s with regs := setR s.regs 0 nullC } ans)))
    generalize hwq : w9.alloc (Obj.cells (mcL (⟨gm, { s with regs := setR s.regs 0 nullC }, { s with regs := setR s.regs 0 nullC }, 0, .slice none 0 0, false, 0, 0, ans⟩ : Mc)).toArray 51) = wa
    have hsa : w9.heap.size < wa.heap.size := by rw [← hwq]; simp
    have HBA : Aside0 (Below w9.heap.size w9 wa) := ⟨by rw [← hwq]; exact below_alloc (Below.refl _ _) _⟩
    have XA : Aside0 (BL wa w9.heap.size 51 (mcL (⟨gm, { s with regs := setR s.regs 0 nullC }, { s with regs := setR s.regs 0 nullC }, 0, .slice none 0 0, false, 0, 0, ans⟩ : Mc))) := ⟨by rw [← hwq]; exact BL.new _ _ _⟩
    have HSA := Aside0.mk hsa
    clear hwq hsa x150 x148
    have E5 := Aside0.mk (D5.out.below HBA.out)
    have E8 := Aside0.mk (B8'.out.below HBA.out)
    have E9 := Aside0.mk (B9'.out.below HBA.out)
    have HBW := Aside0.mk (HBZ.out.trans (HBA.out.mono HBZ.out.size))
    have HRUN := Aside0.mk (run_do w9.heap.size (⟨gm, { s with regs := setR s.regs 0 nullC }, { s with regs := setR s.regs 0 nullC }, 0, .slice none 0 0, false, 0, 0, ans⟩ : Mc) M M' HM.out HOK.out HF.out i HGET.out rfl (fun tv2 => { yy with tv := tv2 }) T wa XA.out (HMB.out.below HBW.out) (fun tv w1 h1 h2 h3 h4 => HDO.out w9.heap.size wa.heap.size tv w1 h1 h2 h3 h4))
    have HGL : Aside0 (gm < w.heap.size) := ⟨HMB.out.lt⟩
    have HSZ : Aside0 (w.heap.size + 1 + 1 < w9.heap.size) := ⟨B9'.out.lt⟩
    clear D5 B8' B9' HDO
    go_upto_region 13 with (first | (go_at_call 10; (with_reducible refine HRUN.out.mono ?_); rintro _ wb ⟨rfl, hfx, tv2, hbl, hmm, hrr⟩; have G5 := Aside0.mk (E5.out.fix hfx (by have := HGL.out; have := HSZ.out; exact fun h => h.elim (fun h => by omega) (fun h => by omega))); have G8 := Aside0.mk (E8.out.fix hfx (by have := HGL.out; have := HSZ.out; exact fun h => h.elim (fun h => by omega) (fun h => by omega))); have G9 := Aside0.mk (E9.out.fix hfx (by have := HGL.out; have := HSZ.out; exact fun h => h.elim (fun h => by omega) (fun h => by omega))); have XB := Aside0.mk hbl; have MB := Aside0.mk hmm; have RB := Aside0.mk hrr; have HFB := Aside0.mk hfx; clear hbl hmm hrr hfx))
    go_upto_region 16 with fail
    refine start_ (n := 11) (S := fun w' => BL w' w9.heap.size 51 (mcL { yy with tv := tv2 })) (ds := []) #[false, false, false, false, false, false, false, false, false, false, false] (by kernel_rfl) rfl rfl XB.out (fun hHeld => ?_)
    refine with_tabW tab12_16 bits12_16 (fun HT_ HW_ => ?_)
    have HD0 : Aside0 (Below wb.heap.size wb wb.drew) := ⟨below_drew (Below.refl _ _)⟩
    have J8 := Aside0.mk (G8.out.below HD0.out)
    have J9 := Aside0.mk (G9.out.below HD0.out)
    generalize wb.drew = wc at HD0 J8 J9 hHeld ⊢
    clear G5 G8 G9
    refine pure_ (i := 0) (N := some 82) (v := ?_) (a' := ?_) #[true, false, false, false, false, false, false, false, false, false, false] rfl rfl (any_of HT_.out (by kernel_rfl)) (fun _ _ _ h => h) (Or.inl ⟨by rfl, ?_⟩) ?_ ?_
    rotate_left
    · intro w'
      go_simp
      with_reducible rfl
    rotate_left
    · skip
      simp only [Act.put, List.setIfInBounds_toArray, List.set_cons_zero, List.set_cons_succ, i64_w, i32_w]
      rfl
    refine pure_ (i := 1) (N := some 83) (v := ?_) (a' := ?_) #[true, true, false, false, false, false, false, false, false, false, false] rfl rfl (any_of HT_.out (by kernel_rfl)) (fun _ _ _ h => h) (Or.inl ⟨by rfl, ?_⟩) ?_ ?_
    rotate_left
    · intro w'
      go_simp
      with_reducible rfl
    rotate_left
    · skip
      simp only [Act.put, List.setIfInBounds_toArray, List.set_cons_zero, List.set_cons_succ, i64_w, i32_w]
      rfl
    refine pure_ (i := 2) (N := some 84) (v := ?_) (a' := ?_) #[true, true, true, false, false, false, false, false, false, false, false] rfl rfl (any_of HT_.out (by kernel_rfl)) (fun _ _ _ h => h) (Or.inl ⟨by rfl, ?_⟩) ?_ ?_
    rotate_left
    · intro w'
      go_simp
      with_reducible rfl
    rotate_left
    · skip
      simp only [Act.put, List.setIfInBounds_toArray, List.set_cons_zero, List.set_cons_succ, i64_w, i32_w]
      rfl
    refine take_ (i := 3) (N := some 85) (v := .agg (stL yy.now).toArray) (a' := ?_) #[true, true, true, true, false, false, false, false, false, false, false] rfl rfl (take_ofW HT_.out HW_.out (by kernel_rfl)) (fun _ _ _ h => h) (yieldsIf_load_mid (by rfl) 30 (.tmp 84) rfl w9.heap.size (152) rfl (stL yy.now) _ (fun w' hS0 => BL.range hS0 152 (stL yy.now) (mcL_now { yy with tv := tv2 })) Try.underlying30 rfl size34) hHeld ?_ ?_
    rotate_left
    · skip
      simp only [Act.put, List.setIfInBounds_toArray, List.set_cons_zero, List.set_cons_succ, i64_w, i32_w]
      rfl
    refine pure_ (i := 4) (N := some 86) (v := ?_) (a' := ?_) #[true, true, true, true, true, false, false, false, false, false, false] rfl rfl (any_of HT_.out (by kernel_rfl)) (fun _ _ _ h => h) (Or.inl ⟨by rfl, ?_⟩) ?_ ?_
    rotate_left
    · intro w'
      go_simp
      with_reducible rfl
    rotate_left
    · skip
      simp only [Act.put, List.setIfInBounds_toArray, List.set_cons_zero, List.set_cons_succ, i64_w, i32_w]
      rfl
    refine pure_ (i := 5) (N := some 87) (v := ?_) (a' := ?_) #[true, true, true, true, true, true, false, false, false, false, false] rfl rfl (any_of HT_.out (by kernel_rfl)) (fun _ _ _ h => h) (Or.inl ⟨by rfl, ?_⟩) ?_ ?_
    rotate_left
    · intro w'
      go_simp
      with_reducible rfl
    rotate_left
    · skip
      simp only [Act.put, List.setIfInBounds_toArray, List.set_cons_zero, List.set_cons_succ, i64_w, i32_w]
      rfl
    refine pure_ (i := 6) (N := some 88) (v := ?_) (a' := ?_) #[true, true, true, true, true, true, true, false, false, false, false] rfl rfl (any_of HT_.out (by kernel_rfl)) (fun _ _ _ h => h) (Or.inl ⟨by rfl, ?_⟩) ?_ ?_
    rotate_left
    · intro w'
      go_simp
      with_reducible rfl
    rotate_left
    · skip
      simp only [Act.put, List.setIfInBounds_toArray, List.set_cons_zero, List.set_cons_succ, i64_w, i32_w]
      rfl
    refine take_ (i := 7) (N := some 89) (v := .agg (dnL ⟨yy.cause, tv2, yy.told, yy.out, yy.to_⟩).toArray) (a' := ?_) #[true, true, true, true, true, true, true, true, false, false, false] rfl rfl (take_ofW HT_.out HW_.out (by kernel_rfl)) (fun _ _ _ h => h) (yieldsIf_load_mid (by rfl) 38 (.tmp 88) rfl w9.heap.size (303) rfl (dnL ⟨yy.cause, tv2, yy.told, yy.out, yy.to_⟩) _ (fun w' hS0 => BL.range hS0 303 (dnL ⟨yy.cause, tv2, yy.told, yy.out, yy.to_⟩) (mcL_done { yy with tv := tv2 })) Try.underlying38 rfl size48) hHeld ?_ ?_
    rotate_left
    · skip
      simp only [Act.put, List.setIfInBounds_toArray, List.set_cons_zero, List.set_cons_succ, i64_w, i32_w]
      rfl
    have hsz := HSZ.out
    refine one_ (i := 8) (N := none) #[true, true, true, true, true, true, true, true, true, false, false] rfl rfl (one_of HT_.out (by kernel_rfl)) (by decide) (fun K hK => ?_)
    refine store_step (by rfl) rfl 30 (.tmp 8) (.tmp 85) rfl (w.heap.size + 1) 0 J8.out (stL yy.now) rfl rfl size34 (stL_one _) (Nat.le_of_ble_eq_true rfl) (fun wd s8 f8 => ?_)
    refine hK.out _ _ (hHeld.fix f8 (by show ¬ _ = _; omega)) (fun hS8 => ?_)
    clear hK K
    have j9 := J9.out.fix f8 (by show ¬ _ = _; omega)
    refine one_ (i := 9) (N := none) #[true, true, true, true, true, true, true, true, true, true, false] rfl rfl (one_of HT_.out (by kernel_rfl)) (by decide) (fun K hK => ?_)
    refine store_step (by rfl) rfl 38 (.tmp 9) (.tmp 89) rfl (w.heap.size + 1 + 1) 0 j9 (dnL ⟨yy.cause, tv2, yy.told, yy.out, yy.to_⟩) rfl rfl size48 (dn_one (row_cell RB.out)) (Nat.le_of_ble_eq_true rfl) (fun we s9 f9 => ?_)
    refine hK.out _ _ (hS8.fix f9 (by show ¬ _ = _; omega)) (fun hS9 => ?_)
    clear hK K
    refine pure_ (i := 10) (N := some 10) (v := ?_) (a' := ?_) #[true, true, true, true, true, true, true, true, true, true, true] rfl rfl (any_of HT_.out (by kernel_rfl)) (fun _ _ _ h => h) (Or.inl ⟨by rfl, ?_⟩) ?_ ?_
    rotate_left
    · intro w'
      go_simp
      with_reducible rfl
    rotate_left
    · skip
      simp only [Act.put, List.setIfInBounds_toArray, List.set_cons_zero, List.set_cons_succ, i64_w, i32_w]
      rfl
    refine done_ (done_of HT_.out (by kernel_rfl)) ?_
    have Z8 := Aside0.mk (bl_of ⟨_, s8.fix f9 (by show ¬ _ = _; omega), splice_all _ _ (by rw [stL_len, stL_len])⟩)
    have Z9 := Aside0.mk (bl_of ⟨_, s9, splice_all _ _ rfl⟩)
    have M9 := Aside0.mk (((MB.out.below HD0.out).fix f8 (by have := HGL.out; show ¬ _ = _; omega)).fix f9 (by have := HGL.out; show ¬ _ = _; omega))
    have R9 := Aside0.mk (Kd.R_lower (row_far2 (row_far2 (Kd.R_below RB.out HD0.out) J8.out (by decide) f8) j9 (by decide) f9) HBW.out.size)
    have HF9 : Aside0 (Fix (· = gm) w we) := ⟨((((Fix.of HBW.out).up HFB.out (fun k hk h => h.elim (fun h => by omega) (fun h => h))).up (Fix.of (S := fun _ => False) HD0.out) (fun k hk h => h.elim)).up f8 (fun k hk h => by omega)).up f9 (fun k hk h => by omega)⟩
    clear s8 f8 s9 f9 j9 hS8 hS9 hHeld hsz
    go_wp2_with fail
    exact bodyPost_ret (results_step rfl rfl rfl rfl Z8.out Z9.out (stL_len _) rfl) rfl ⟨tv2, rfl, M9.out, R9.out, HF9.out⟩
  · have hon : s.on = false := HTO.out
    rw [hon] at x148
    clear hon
    go_upto_region 12 with (first | ((with_reducible refine wpl_agg rfl 30 (.tmp 5) rfl D5.out ?off_11 (stL { s with regs := setR s.regs 0 nullC }) ?hx_11 ?hc_11 _ Try.underlying30 ?hd_11 ?hi_11 ?_); (case hx_11 => rfl); (case hc_11 => rfl); (case hd_11 => rfl); (case hi_11 => exact size34)) | ((with_reducible refine wpl_build rfl 51 #[(0, .tmp 45), (1, .tmp 46), (2, .tmp 47), (4, .tmp 48)] rfl (mcL (⟨gm, { s with regs := setR s.regs 0 nullC }, { s with regs := setR s.regs 0 nullC }, 0, .slice none 0 0, false, 0, 0, ans⟩ : Mc)) ?hbmt ?_); (case hbmt => simp only [List.map_toArray, List.map_cons, List.map_nil]; exact built91 gm { s with regs := setR s.regs 0 nullC } { s with regs := setR s.regs 0 nullC } ans)))
    generalize hwq : w9.alloc (Obj.cells (mcL (⟨gm, { s with regs := setR s.regs 0 nullC }, { s with regs := setR s.regs 0 nullC }, 0, .slice none 0 0, false, 0, 0, ans⟩ : Mc)).toArray 51) = wa
    have hsa : w9.heap.size < wa.heap.size := by rw [← hwq]; simp
    have HBA : Aside0 (Below w9.heap.size w9 wa) := ⟨by rw [← hwq]; exact below_alloc (Below.refl _ _) _⟩
    have XA : Aside0 (BL wa w9.heap.size 51 (mcL (⟨gm, { s with regs := setR s.regs 0 nullC }, { s with regs := setR s.regs 0 nullC }, 0, .slice none 0 0, false, 0, 0, ans⟩ : Mc))) := ⟨by rw [← hwq]; exact BL.new _ _ _⟩
    have HSA := Aside0.mk hsa
    clear hwq hsa x150 x148
    have E5 := Aside0.mk (D5.out.below HBA.out)
    have E8 := Aside0.mk (B8'.out.below HBA.out)
    have E9 := Aside0.mk (B9'.out.below HBA.out)
    have HBW := Aside0.mk (HBZ.out.trans (HBA.out.mono HBZ.out.size))
    have HRUN := Aside0.mk (run_do w9.heap.size (⟨gm, { s with regs := setR s.regs 0 nullC }, { s with regs := setR s.regs 0 nullC }, 0, .slice none 0 0, false, 0, 0, ans⟩ : Mc) M M' HM.out HOK.out HF.out i HGET.out rfl (fun tv2 => { yy with tv := tv2 }) T wa XA.out (HMB.out.below HBW.out) (fun tv w1 h1 h2 h3 h4 => HDO.out w9.heap.size wa.heap.size tv w1 h1 h2 h3 h4))
    have HGL : Aside0 (gm < w.heap.size) := ⟨HMB.out.lt⟩
    have HSZ : Aside0 (w.heap.size + 1 + 1 < w9.heap.size) := ⟨B9'.out.lt⟩
    clear D5 B8' B9' HDO
    go_upto_region 13 with (first | (go_at_call 10; (with_reducible refine HRUN.out.mono ?_); rintro _ wb ⟨rfl, hfx, tv2, hbl, hmm, hrr⟩; have G5 := Aside0.mk (E5.out.fix hfx (by have := HGL.out; have := HSZ.out; exact fun h => h.elim (fun h => by omega) (fun h => by omega))); have G8 := Aside0.mk (E8.out.fix hfx (by have := HGL.out; have := HSZ.out; exact fun h => h.elim (fun h => by omega) (fun h => by omega))); have G9 := Aside0.mk (E9.out.fix hfx (by have := HGL.out; have := HSZ.out; exact fun h => h.elim (fun h => by omega) (fun h => by omega))); have XB := Aside0.mk hbl; have MB := Aside0.mk hmm; have RB := Aside0.mk hrr; have HFB := Aside0.mk hfx; clear hbl hmm hrr hfx))
    go_upto_region 16 with fail
    refine start_ (n := 11) (S := fun w' => BL w' w9.heap.size 51 (mcL { yy with tv := tv2 })) (ds := []) #[false, false, false, false, false, false, false, false, false, false, false] (by kernel_rfl) rfl rfl XB.out (fun hHeld => ?_)
    refine with_tabW tab12_16 bits12_16 (fun HT_ HW_ => ?_)
    have HD0 : Aside0 (Below wb.heap.size wb wb.drew) := ⟨below_drew (Below.refl _ _)⟩
    have J8 := Aside0.mk (G8.out.below HD0.out)
    have J9 := Aside0.mk (G9.out.below HD0.out)
    generalize wb.drew = wc at HD0 J8 J9 hHeld ⊢
    clear G5 G8 G9
    refine pure_ (i := 0) (N := some 82) (v := ?_) (a' := ?_) #[true, false, false, false, false, false, false, false, false, false, false] rfl rfl (any_of HT_.out (by kernel_rfl)) (fun _ _ _ h => h) (Or.inl ⟨by rfl, ?_⟩) ?_ ?_
    rotate_left
    · intro w'
      go_simp
      with_reducible rfl
    rotate_left
    · skip
      simp only [Act.put, List.setIfInBounds_toArray, List.set_cons_zero, List.set_cons_succ, i64_w, i32_w]
      rfl
    refine pure_ (i := 1) (N := some 83) (v := ?_) (a' := ?_) #[true, true, false, false, false, false, false, false, false, false, false] rfl rfl (any_of HT_.out (by kernel_rfl)) (fun _ _ _ h => h) (Or.inl ⟨by rfl, ?_⟩) ?_ ?_
    rotate_left
    · intro w'
      go_simp
      with_reducible rfl
    rotate_left
    · skip
      simp only [Act.put, List.setIfInBounds_toArray, List.set_cons_zero, List.set_cons_succ, i64_w, i32_w]
      rfl
    refine pure_ (i := 2) (N := some 84) (v := ?_) (a' := ?_) #[true, true, true, false, false, false, false, false, false, false, false] rfl rfl (any_of HT_.out (by kernel_rfl)) (fun _ _ _ h => h) (Or.inl ⟨by rfl, ?_⟩) ?_ ?_
    rotate_left
    · intro w'
      go_simp
      with_reducible rfl
    rotate_left
    · skip
      simp only [Act.put, List.setIfInBounds_toArray, List.set_cons_zero, List.set_cons_succ, i64_w, i32_w]
      rfl
    refine take_ (i := 3) (N := some 85) (v := .agg (stL yy.now).toArray) (a' := ?_) #[true, true, true, true, false, false, false, false, false, false, false] rfl rfl (take_ofW HT_.out HW_.out (by kernel_rfl)) (fun _ _ _ h => h) (yieldsIf_load_mid (by rfl) 30 (.tmp 84) rfl w9.heap.size (152) rfl (stL yy.now) _ (fun w' hS0 => BL.range hS0 152 (stL yy.now) (mcL_now { yy with tv := tv2 })) Try.underlying30 rfl size34) hHeld ?_ ?_
    rotate_left
    · skip
      simp only [Act.put, List.setIfInBounds_toArray, List.set_cons_zero, List.set_cons_succ, i64_w, i32_w]
      rfl
    refine pure_ (i := 4) (N := some 86) (v := ?_) (a' := ?_) #[true, true, true, true, true, false, false, false, false, false, false] rfl rfl (any_of HT_.out (by kernel_rfl)) (fun _ _ _ h => h) (Or.inl ⟨by rfl, ?_⟩) ?_ ?_
    rotate_left
    · intro w'
      go_simp
      with_reducible rfl
    rotate_left
    · skip
      simp only [Act.put, List.setIfInBounds_toArray, List.set_cons_zero, List.set_cons_succ, i64_w, i32_w]
      rfl
    refine pure_ (i := 5) (N := some 87) (v := ?_) (a' := ?_) #[true, true, true, true, true, true, false, false, false, false, false] rfl rfl (any_of HT_.out (by kernel_rfl)) (fun _ _ _ h => h) (Or.inl ⟨by rfl, ?_⟩) ?_ ?_
    rotate_left
    · intro w'
      go_simp
      with_reducible rfl
    rotate_left
    · skip
      simp only [Act.put, List.setIfInBounds_toArray, List.set_cons_zero, List.set_cons_succ, i64_w, i32_w]
      rfl
    refine pure_ (i := 6) (N := some 88) (v := ?_) (a' := ?_) #[true, true, true, true, true, true, true, false, false, false, false] rfl rfl (any_of HT_.out (by kernel_rfl)) (fun _ _ _ h => h) (Or.inl ⟨by rfl, ?_⟩) ?_ ?_
    rotate_left
    · intro w'
      go_simp
      with_reducible rfl
    rotate_left
    · skip
      simp only [Act.put, List.setIfInBounds_toArray, List.set_cons_zero, List.set_cons_succ, i64_w, i32_w]
      rfl
    refine take_ (i := 7) (N := some 89) (v := .agg (dnL ⟨yy.cause, tv2, yy.told, yy.out, yy.to_⟩).toArray) (a' := ?_) #[true, true, true, true, true, true, true, true, false, false, false] rfl rfl (take_ofW HT_.out HW_.out (by kernel_rfl)) (fun _ _ _ h => h) (yieldsIf_load_mid (by rfl) 38 (.tmp 88) rfl w9.heap.size (303) rfl (dnL ⟨yy.cause, tv2, yy.told, yy.out, yy.to_⟩) _ (fun w' hS0 => BL.range hS0 303 (dnL ⟨yy.cause, tv2, yy.told, yy.out, yy.to_⟩) (mcL_done { yy with tv := tv2 })) Try.underlying38 rfl size48) hHeld ?_ ?_
    rotate_left
    · skip
      simp only [Act.put, List.setIfInBounds_toArray, List.set_cons_zero, List.set_cons_succ, i64_w, i32_w]
      rfl
    have hsz := HSZ.out
    refine one_ (i := 8) (N := none) #[true, true, true, true, true, true, true, true, true, false, false] rfl rfl (one_of HT_.out (by kernel_rfl)) (by decide) (fun K hK => ?_)
    refine store_step (by rfl) rfl 30 (.tmp 8) (.tmp 85) rfl (w.heap.size + 1) 0 J8.out (stL yy.now) rfl rfl size34 (stL_one _) (Nat.le_of_ble_eq_true rfl) (fun wd s8 f8 => ?_)
    refine hK.out _ _ (hHeld.fix f8 (by show ¬ _ = _; omega)) (fun hS8 => ?_)
    clear hK K
    have j9 := J9.out.fix f8 (by show ¬ _ = _; omega)
    refine one_ (i := 9) (N := none) #[true, true, true, true, true, true, true, true, true, true, false] rfl rfl (one_of HT_.out (by kernel_rfl)) (by decide) (fun K hK => ?_)
    refine store_step (by rfl) rfl 38 (.tmp 9) (.tmp 89) rfl (w.heap.size + 1 + 1) 0 j9 (dnL ⟨yy.cause, tv2, yy.told, yy.out, yy.to_⟩) rfl rfl size48 (dn_one (row_cell RB.out)) (Nat.le_of_ble_eq_true rfl) (fun we s9 f9 => ?_)
    refine hK.out _ _ (hS8.fix f9 (by show ¬ _ = _; omega)) (fun hS9 => ?_)
    clear hK K
    refine pure_ (i := 10) (N := some 10) (v := ?_) (a' := ?_) #[true, true, true, true, true, true, true, true, true, true, true] rfl rfl (any_of HT_.out (by kernel_rfl)) (fun _ _ _ h => h) (Or.inl ⟨by rfl, ?_⟩) ?_ ?_
    rotate_left
    · intro w'
      go_simp
      with_reducible rfl
    rotate_left
    · skip
      simp only [Act.put, List.setIfInBounds_toArray, List.set_cons_zero, List.set_cons_succ, i64_w, i32_w]
      rfl
    refine done_ (done_of HT_.out (by kernel_rfl)) ?_
    have Z8 := Aside0.mk (bl_of ⟨_, s8.fix f9 (by show ¬ _ = _; omega), splice_all _ _ (by rw [stL_len, stL_len])⟩)
    have Z9 := Aside0.mk (bl_of ⟨_, s9, splice_all _ _ rfl⟩)
    have M9 := Aside0.mk (((MB.out.below HD0.out).fix f8 (by have := HGL.out; show ¬ _ = _; omega)).fix f9 (by have := HGL.out; show ¬ _ = _; omega))
    have R9 := Aside0.mk (Kd.R_lower (row_far2 (row_far2 (Kd.R_below RB.out HD0.out) J8.out (by decide) f8) j9 (by decide) f9) HBW.out.size)
    have HF9 : Aside0 (Fix (· = gm) w we) := ⟨((((Fix.of HBW.out).up HFB.out (fun k hk h => h.elim (fun h => by omega) (fun h => h))).up (Fix.of (S := fun _ => False) HD0.out) (fun k hk h => h.elim)).up f8 (fun k hk h => by omega)).up f9 (fun k hk h => by omega)⟩
    clear s8 f8 s9 f9 j9 hS8 hS9 hHeld hsz
    go_wp2_with fail
    exact bodyPost_ret (results_step rfl rfl rfl rfl Z8.out Z9.out (stL_len _) rfl) rfl ⟨tv2, rfl, M9.out, R9.out, HF9.out⟩
end Go.Proofs.Ytadbonmkockakaa.Cp
