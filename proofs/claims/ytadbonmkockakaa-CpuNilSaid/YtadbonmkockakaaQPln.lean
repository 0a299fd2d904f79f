/- The machine's plain at an operator of the unit, by contract. Written by wip/r5/pln.py. -/
import Derived.Test.YtadbonmkockakaaQMc
import Derived.Test.YtadbonmkockakaaQAluA
namespace Go.Proofs.Ytadbonmkockakaa.Cp
open Go.RowKit Go.Proofs.YtadbonmkockakaaW.PrintWords Go.Proofs.YtadbonmkockakaaW.PrintLast Go.Proofs.YtadbonmkockakaaW.PrintMore Go.Proofs.Ytadbonmkockakaa.QCb Go.Proofs.Ytadbonmkockakaa.QCe
open Go.Proofs.Ytadbonmkockakaa.Alu (aluDo do_calls)
set_option linter.unusedVariables false
set_option linter.unusedSimpArgs false
def T105_1 : Bool × List (List Nat × List Nat) := (true, [([], []), ([0], [0]), ([], []), ([2], [2]), ([], []), ([], []), ([4, 5], [4, 5]), ([1, 3, 6, 6], [1, 3, 6]), ([7], [7]), ([8], [8]), ([8], [8]), ([9, 7, 0, 1, 2, 3, 4, 5, 6, 7, 8, 9], [9]), ([10, 11, 0, 1, 2, 3, 4, 5, 6, 7, 8, 9, 10, 11], [10])])
theorem tab105_1 : rtab .any (opsOf Try.f43 1) = T105_1 := by kernel_rfl
def B105_1 : List Nat := [0, 1, 0, 4, 0, 0, 48, 127, 255, 511, 511, 1023, 4095]
theorem bits105_1 : waitsOk T105_1.2 B105_1 = true := by kernel_rfl
set_option maxRecDepth 100000 in
set_option maxHeartbeats 8000000 in
theorem plain_alu (g : Nat) (x : Mc) (op rs1 rs2 imm : Int) (k : Nat) (hk : k < 16) (a0 : Bool) (a1 a2 a3 a4 a5 a6 : Int) (b0 : Bool) (b1 b2 b3 b4 b5 b6 : Int) (ha : 0 ≤ a1 ∧ a1 < 4294967296) (hb : 0 ≤ b1 ∧ b1 < 4294967296)
    (hd : (aluDo op a1 (operandS op imm b1)).2 = 0) (w : World) (hx : BL w g 51 (mcL x)) :
    Calls Try.prog 43 #[.pointer (some ⟨g, 0, none⟩), .agg #[.int .u8 op, .int .u8 (k : Int), .int .u8 rs1, .int .u8 rs2, .int .i32 imm], .agg #[.bool a0, .int .u32 a1, .int .u8 a2, .int .u8 a3, .int .u8 a4, .int .u16 a5, .int .u16 a6], .agg #[.bool b0, .int .u32 b1, .int .u8 b2, .int .u8 b3, .int .u8 b4, .int .u16 b5, .int .u16 b6]] w fun e w' => e = .returned (.tuple #[]) ∧ Fix (· = g) w w' ∧ BL w' g 51 (mcL (putM x k (intC (aluDo op a1 (operandS op imm b1)).1))) := by
  have HX := Aside0.mk hx
  have hop : 0 ≤ operandS op imm b1 ∧ operandS op imm b1 < 4294967296 := by
    unfold operandS
    split
    · omega
    · exact hb
  obtain ⟨q, hq⟩ : ∃ q, operandS op imm b1 = q := ⟨_, rfl⟩
  have HO : Aside0 (∀ w, Calls Try.prog 70 #[.agg #[.int .u8 op, .int .u8 (k : Int), .int .u8 rs1, .int .u8 rs2, .int .i32 imm], .agg #[.bool b0, .int .u32 b1, .int .u8 b2, .int .u8 b3, .int .u8 b4, .int .u16 b5, .int .u16 b6]] w fun r w' => r = .returned (.int .u32 q) ∧ Below w.heap.size w w') := ⟨fun w => by rw [← hq]; exact operand_calls op (k : Int) rs1 rs2 imm b0 b1 b2 b3 b4 b5 b6 w⟩
  rw [hq] at hop hd ⊢
  obtain ⟨⟨n, er⟩, hn⟩ : ∃ n, aluDo op a1 q = n := ⟨_, rfl⟩
  rw [hn] at hd ⊢
  obtain rfl : er = 0 := hd
  have HD : Aside0 (∀ w, Calls Try.prog 69 #[.int .u8 op, .int .u32 a1, .int .u32 q] w fun e w' => e = .returned (.tuple #[.int .u32 n, .int .i64 0]) ∧ Below w.heap.size w w') := ⟨fun w => (do_calls op a1 q w ha.1 ha.2 hop.1 hop.2).mono fun e w' h => ⟨by rw [h.1, hn], h.2.below⟩⟩
  have HN : Aside0 (∀ w, BL w g 51 (mcL x) → Calls Try.prog 35 #[.pointer (some ⟨g, 0, none⟩), .int .u8 (k : Int), .int .u32 n] w fun e w' => e = .returned (.tuple #[]) ∧ Fix (· = g) w w' ∧ BL w' g 51 (mcL (putM x k (intC n)))) := ⟨fun w h => mnumber_calls g x k hk n w h⟩
  clear hx hop hq hn ha hb
  go_enter Try.func43, Try.ntmps43
  go_upto_region 1 with fail
  generalize hw1 : ((w.alloc (Obj.cells #[.int .u8 op, .int .u8 (k : Int), .int .u8 rs1, .int .u8 rs2, .int .i32 imm] 74)).alloc (Obj.cells #[.bool a0, .int .u32 a1, .int .u8 a2, .int .u8 a3, .int .u8 a4, .int .u16 a5, .int .u16 a6] 27)).alloc (Obj.cells #[.bool b0, .int .u32 b1, .int .u8 b2, .int .u8 b3, .int .u8 b4, .int .u16 b5, .int .u16 b6] 27) = w1
  have HB1 : Aside0 (Below w.heap.size w w1) := ⟨by rw [← hw1]; exact below_alloc (below_alloc (below_alloc (Below.refl _ _) _) _) _⟩
  have K5 : Aside0 (BL w1 w.heap.size 74 [.int .u8 op, .int .u8 (k : Int), .int .u8 rs1, .int .u8 rs2, .int .i32 imm]) := ⟨by rw [← hw1]; exact ((BL.new w _ 74).below (below_alloc (Below.refl _ _) _)).below (below_alloc (Below.refl _ _) _)⟩
  have K6 : Aside0 (BL w1 (w.heap.size + 1) 27 [.bool a0, .int .u32 a1, .int .u8 a2, .int .u8 a3, .int .u8 a4, .int .u16 a5, .int .u16 a6]) := ⟨by rw [← hw1]; have h := (BL.new (w.alloc (Obj.cells #[.int .u8 op, .int .u8 (k : Int), .int .u8 rs1, .int .u8 rs2, .int .i32 imm] 74)) [.bool a0, .int .u32 a1, .int .u8 a2, .int .u8 a3, .int .u8 a4, .int .u16 a5, .int .u16 a6] 27).below (below_alloc (Below.refl _ _) (Obj.cells #[.bool b0, .int .u32 b1, .int .u8 b2, .int .u8 b3, .int .u8 b4, .int .u16 b5, .int .u16 b6] 27)); simpa using h⟩
  have K7 : Aside0 (BL w1 (w.heap.size + 1 + 1) 27 [.bool b0, .int .u32 b1, .int .u8 b2, .int .u8 b3, .int .u8 b4, .int .u16 b5, .int .u16 b6]) := ⟨by rw [← hw1]; have h := BL.new ((w.alloc (Obj.cells #[.int .u8 op, .int .u8 (k : Int), .int .u8 rs1, .int .u8 rs2, .int .i32 imm] 74)).alloc (Obj.cells #[.bool a0, .int .u32 a1, .int .u8 a2, .int .u8 a3, .int .u8 a4, .int .u16 a5, .int .u16 a6] 27)) [.bool b0, .int .u32 b1, .int .u8 b2, .int .u8 b3, .int .u8 b4, .int .u16 b5, .int .u16 b6] 27; simpa using h⟩
  clear hw1
  refine start_ (n := 13) (S := fun w' => BL w' w.heap.size 74 [.int .u8 op, .int .u8 (k : Int), .int .u8 rs1, .int .u8 rs2, .int .i32 imm] ∧ BL w' (w.heap.size + 1) 27 [.bool a0, .int .u32 a1, .int .u8 a2, .int .u8 a3, .int .u8 a4, .int .u16 a5, .int .u16 a6] ∧ BL w' (w.heap.size + 1 + 1) 27 [.bool b0, .int .u32 b1, .int .u8 b2, .int .u8 b3, .int .u8 b4, .int .u16 b5, .int .u16 b6]) (ds := []) #[false, false, false, false, false, false, false, false, false, false, false, false, false] (by kernel_rfl) rfl rfl ⟨K5.out, K6.out, K7.out⟩ (fun hHeld => ?_)
  refine with_tabW tab105_1 bits105_1 (fun HT_ HW_ => ?_)
  have HBD : Aside0 (Below w.heap.size w w1.drew) := ⟨below_drew HB1.out⟩
  generalize w1.drew = w2 at HBD hHeld ⊢
  clear HB1 K5 K6 K7
  refine pure_ (i := 0) (N := some 12) (v := ?_) (a' := ?_) #[true, false, false, false, false, false, false, false, false, false, false, false, false] rfl rfl (any_of HT_.out (by kernel_rfl)) (fun _ _ _ h => h) (Or.inl ⟨by rfl, ?_⟩) ?_ ?_
  rotate_left
  · intro w'
    go_simp
    with_reducible rfl
  rotate_left
  · skip
    simp only [Act.put, List.setIfInBounds_toArray, List.set_cons_zero, List.set_cons_succ, i64_w, i32_w]
    rfl
  refine take_ (i := 1) (N := some 13) (v := ?_) (a' := ?_) #[true, true, false, false, false, false, false, false, false, false, false, false, false] rfl rfl (take_ofW HT_.out HW_.out (by kernel_rfl)) (fun _ _ _ h => h) (Or.inl ⟨by rfl, ?_⟩) hHeld ?_ ?_
  rotate_left
  · intro w' hS0
    have x0 := hS0.1.cell 0 _ rfl
    go_simp
    with_reducible rfl
  rotate_left
  · skip
    simp only [Act.put, List.setIfInBounds_toArray, List.set_cons_zero, List.set_cons_succ, i64_w, i32_w]
    rfl
  refine pure_ (i := 2) (N := some 14) (v := ?_) (a' := ?_) #[true, true, true, false, false, false, false, false, false, false, false, false, false] rfl rfl (any_of HT_.out (by kernel_rfl)) (fun _ _ _ h => h) (Or.inl ⟨by rfl, ?_⟩) ?_ ?_
  rotate_left
  · intro w'
    go_simp
    with_reducible rfl
  rotate_left
  · skip
    simp only [Act.put, List.setIfInBounds_toArray, List.set_cons_zero, List.set_cons_succ, i64_w, i32_w]
    rfl
  refine take_ (i := 3) (N := some 15) (v := ?_) (a' := ?_) #[true, true, true, true, false, false, false, false, false, false, false, false, false] rfl rfl (take_ofW HT_.out HW_.out (by kernel_rfl)) (fun _ _ _ h => h) (Or.inl ⟨by rfl, ?_⟩) hHeld ?_ ?_
  rotate_left
  · intro w' hS0
    have x1 := hS0.2.1.cell 1 _ rfl
    go_simp
    with_reducible rfl
  rotate_left
  · skip
    simp only [Act.put, List.setIfInBounds_toArray, List.set_cons_zero, List.set_cons_succ, i64_w, i32_w]
    rfl
  refine take_ (i := 4) (N := some 16) (v := ?_) (a' := ?_) #[true, true, true, true, true, false, false, false, false, false, false, false, false] rfl rfl (take_ofW HT_.out HW_.out (by kernel_rfl)) (fun _ _ _ h => h) (Or.inl ⟨by rfl, ?_⟩) hHeld ?_ ?_
  rotate_left
  · intro w' hS0
    have x0 := hS0.1.cell 0 _ rfl
    have x1 := hS0.1.cell 1 _ rfl
    have x2 := hS0.1.cell 2 _ rfl
    have x3 := hS0.1.cell 3 _ rfl
    have x4 := hS0.1.cell 4 _ rfl
    go_simp
    with_reducible rfl
  rotate_left
  · skip
    simp only [Act.put, List.setIfInBounds_toArray, List.set_cons_zero, List.set_cons_succ, i64_w, i32_w]
    rfl
  refine take_ (i := 5) (N := some 17) (v := ?_) (a' := ?_) #[true, true, true, true, true, true, false, false, false, false, false, false, false] rfl rfl (take_ofW HT_.out HW_.out (by kernel_rfl)) (fun _ _ _ h => h) (Or.inl ⟨by rfl, ?_⟩) hHeld ?_ ?_
  rotate_left
  · intro w' hS0
    have x0 := hS0.2.2.cell 0 _ rfl
    have x1 := hS0.2.2.cell 1 _ rfl
    have x2 := hS0.2.2.cell 2 _ rfl
    have x3 := hS0.2.2.cell 3 _ rfl
    have x4 := hS0.2.2.cell 4 _ rfl
    have x5 := hS0.2.2.cell 5 _ rfl
    have x6 := hS0.2.2.cell 6 _ rfl
    go_simp
    with_reducible rfl
  rotate_left
  · skip
    simp only [Act.put, List.setIfInBounds_toArray, List.set_cons_zero, List.set_cons_succ, i64_w, i32_w]
    rfl
  refine one_ (i := 6) (N := some 18) #[true, true, true, true, true, true, true, false, false, false, false, false, false] rfl rfl (one_of HT_.out (by kernel_rfl)) (by decide) (fun K hK => ?_)
  refine goes_ Try.func70 (by kernel_rfl) rfl #[.agg #[.int .u8 op, .int .u8 (k : Int), .int .u8 rs1, .int .u8 rs2, .int .i32 imm], .agg #[.bool b0, .int .u32 b1, .int .u8 b2, .int .u8 b3, .int .u8 b4, .int .u16 b5, .int .u16 b6]] (by rfl) rfl rfl (by (try simp only [List.map_toArray, List.map_cons, List.map_nil]); first | done | rfl) ?_
  refine (HO.out w2).mono ?_
  intro e w3 h3
  obtain ⟨h3, hb3⟩ := h3
  subst h3
  refine ⟨_, rfl, ?_⟩
  refine hK.out _ _ ⟨hHeld.1.below hb3, hHeld.2.1.below hb3, hHeld.2.2.below hb3⟩ (fun hS3 => ?_)
  clear hK K
  refine norm_ (a' := ?_) ?_ ?_
  rotate_left
  · show Act.put _ (some 18) _ = _
    simp only [Act.put, List.setIfInBounds_toArray, List.set_cons_zero, List.set_cons_succ, i64_w, i32_w]
    rfl
  have HB3 : Aside0 (Below w.heap.size w w3) := ⟨HBD.out.trans (hb3.mono HBD.out.size)⟩
  clear HBD hb3 hHeld
  refine one_ (i := 7) (N := some 19) #[true, true, true, true, true, true, true, true, false, false, false, false, false] rfl rfl (one_of HT_.out (by kernel_rfl)) (by decide) (fun K hK => ?_)
  refine goes_ Try.func69 (by kernel_rfl) rfl #[.int .u8 op, .int .u32 a1, .int .u32 q] (by rfl) rfl rfl (by (try simp only [List.map_toArray, List.map_cons, List.map_nil]); first | done | rfl) ?_
  refine (HD.out w3).mono ?_
  intro e w4 h4
  obtain ⟨h4, hb4⟩ := h4
  subst h4
  refine ⟨_, rfl, ?_⟩
  refine hK.out _ _ ⟨hS3.1.below hb4, hS3.2.1.below hb4, hS3.2.2.below hb4⟩ (fun hS4 => ?_)
  clear hK K
  refine norm_ (a' := ?_) ?_ ?_
  rotate_left
  · show Act.put _ (some 19) _ = _
    simp only [Act.put, List.setIfInBounds_toArray, List.set_cons_zero, List.set_cons_succ, i64_w, i32_w]
    rfl
  have HB4 : Aside0 (Below w.heap.size w w4) := ⟨HB3.out.trans (hb4.mono HB3.out.size)⟩
  have K4 := Aside0.mk hS4
  clear HB3 hb4 hS3 hS4
  refine pure_ (i := 8) (N := some 11) (v := ?_) (a' := ?_) #[true, true, true, true, true, true, true, true, true, false, false, false, false] rfl rfl (any_of HT_.out (by kernel_rfl)) (fun _ _ _ h => h) (Or.inl ⟨by rfl, ?_⟩) ?_ ?_
  rotate_left
  · intro w'
    go_simp
    with_reducible rfl
  rotate_left
  · skip
    simp only [Act.put, List.setIfInBounds_toArray, List.set_cons_zero, List.set_cons_succ, i64_w, i32_w]
    rfl
  refine pure_ (i := 9) (N := some 20) (v := ?_) (a' := ?_) #[true, true, true, true, true, true, true, true, true, true, false, false, false] rfl rfl (any_of HT_.out (by kernel_rfl)) (fun _ _ _ h => h) (Or.inl ⟨by rfl, ?_⟩) ?_ ?_
  rotate_left
  · intro w'
    go_simp
    with_reducible rfl
  rotate_left
  · skip
    simp only [Act.put, List.setIfInBounds_toArray, List.set_cons_zero, List.set_cons_succ, i64_w, i32_w]
    rfl
  refine pure_ (i := 10) (N := some 21) (v := ?_) (a' := ?_) #[true, true, true, true, true, true, true, true, true, true, true, false, false] rfl rfl (any_of HT_.out (by kernel_rfl)) (fun _ _ _ h => h) (Or.inl ⟨by rfl, ?_⟩) ?_ ?_
  rotate_left
  · intro w'
    go_simp
    with_reducible rfl
  rotate_left
  · skip
    simp only [Act.put, List.setIfInBounds_toArray, List.set_cons_zero, List.set_cons_succ, i64_w, i32_w]
    rfl
  refine pure_ (i := 11) (N := some 8) (v := ?_) (a' := ?_) #[true, true, true, true, true, true, true, true, true, true, true, true, false] rfl rfl (any_of HT_.out (by kernel_rfl)) (fun _ _ _ h => h) (Or.inl ⟨by rfl, ?_⟩) ?_ ?_
  rotate_left
  · intro w'
    go_simp
    with_reducible rfl
  rotate_left
  · skip
    simp only [Act.put, List.setIfInBounds_toArray, List.set_cons_zero, List.set_cons_succ, i64_w, i32_w]
    rfl
  refine pure_ (i := 12) (N := some 9) (v := ?_) (a' := ?_) #[true, true, true, true, true, true, true, true, true, true, true, true, true] rfl rfl (any_of HT_.out (by kernel_rfl)) (fun _ _ _ h => h) (Or.inl ⟨by rfl, ?_⟩) ?_ ?_
  rotate_left
  · intro w'
    go_simp
    with_reducible rfl
  rotate_left
  · skip
    simp only [Act.put, List.setIfInBounds_toArray, List.set_cons_zero, List.set_cons_succ, i64_w, i32_w]
    rfl
  refine done_ (done_of HT_.out (by kernel_rfl)) ?_
  have x1 := K4.out.1.cell 1 _ rfl
  go_wp2_with (first | (go_at_call 35; (with_reducible refine (HN.out _ (HX.out.below HB4.out)).mono ?_); rintro _ w5 ⟨rfl, hf, hb⟩; have HB5 := Aside0.mk hb; have HF5 := Aside0.mk ((Fix.of HB4.out).trans hf); clear hb hf))
  refine bodyPost_ret (results_none rfl _ _ _) rfl ?_
  exact ⟨rfl, HF5.out, HB5.out⟩
end Go.Proofs.Ytadbonmkockakaa.Cp
