/- The machine's do where an instruction is none of the switch's, by contract. Written by wip/r5/dod.py. -/
import Derived.Test.YtadbonmkockakaaQMc
import Derived.Defers
import Derived.Recover
import Derived.Laws.Pointers
namespace Go.Proofs.Ytadbonmkockakaa.Cp
open Go.RowKit Go.Proofs.YtadbonmkockakaaW.PrintWords Go.Proofs.YtadbonmkockakaaW.PrintLast Go.Proofs.YtadbonmkockakaaW.PrintMore Go.Proofs.Ytadbonmkockakaa.QCb Go.Proofs.Ytadbonmkockakaa.QCe
set_option linter.unusedVariables false
set_option linter.unusedSimpArgs false
theorem BL.wasReg {w : World} {g : Nat} {x : Mc} (h : BL w g 51 (mcL x)) (k : Nat) (hk : k < 16) : w.rangeAt g (1 + k * 7) (capL (x.was.regs k)) := by
  refine h.range _ _ ?_
  have e1 : mcL x = [.pointer (some ⟨x.m, 0, none⟩)] ++ (regsL x.was.regs ++ ((capL x.was.pcc ++ (capL x.was.mtcc ++ (capL x.was.mtdc ++ (capL x.was.mscr ++ (capL x.was.mepcc ++ [.int .u32 x.was.cause, .bool x.was.on, .bool x.was.was, .bool x.was.halted]))))) ++ (stL x.now ++ [.int .u32 x.cause, x.tv, .bool x.told, .int .u32 x.out, .int .u32 x.to_, .int .u32 x.ans]))) := by
    unfold mcL
    rw [show stL x.was = regsL x.was.regs ++ _ from rfl]
    simp only [List.append_assoc, List.cons_append, List.nil_append]
  rw [e1, capL_len]
  exact regs_at x.was.regs k hk _ _ 1 rfl
section
variable {P : Program} {ops : Array Oper} {o : Oper} {a : Act} {w : World} {K : Act → World → Prop} {Q : Exit → Act → World → Prop}
theorem store_step (hw : Region.wanted o (yielded ops a.tmps) = true) (hN : o.dst = none) (ty : TypeId) (x y : Operand) (ho : o.op = .store ty x y) (b off : Nat) {T : TypeId} {L : List Value} (hB : BL w b T L) (cs : List Value)
    (hx : a.eval x = .pointer (some ⟨b, off, none⟩)) (hy : a.eval y = .agg cs.toArray) (hi : (P.info? ty).map (·.size) = some cs.length) (h1 : cs.toArray.all (·.oneCell') = true) (hl : off + cs.length ≤ L.length)
    (h : ∀ w', BL w' b T (splice L off cs) → Fix (· = b) w w' → K a w') : if Region.wanted o (yielded ops a.tmps) = true then Oper.wp P o a w K Q else K (a.put none undef) w := by
  rw [if_pos hw]
  refine wp_store_mid ty x y ho b off cs.toArray hx hy (hB.there _ _ (by simpa using hl)) (by simpa using hi) h1 ?_
  rw [hN]
  exact h _ (hB.sets _ _ _ _ hl) (Fix.sets (S := (· = b)) rfl _ _ _ (Fix.refl _ _))
end
def T66_1 : Bool × List (List Nat × List Nat) := (true, [([], []), ([], []), ([1], [1]), ([0], [0]), ([3], [3]), ([4], [4]), ([5, 2], [2, 5]), ([6], [6]), ([], []), ([], []), ([9], [9]), ([8], [8]), ([11], [11]), ([12], [12]), ([13, 10], [10, 13]), ([14], [14]), ([], []), ([], []), ([16, 7, 0, 1, 2, 3, 4, 5, 6, 7, 16, 17], [7, 16]), ([17, 15, 18, 0, 1, 2, 3, 4, 5, 6, 7, 8, 9, 10, 11, 12, 13, 14, 15, 16, 17, 18], [15, 17])])
theorem tab66_1 : rtab .any (opsOf Try.f25 1) = T66_1 := by kernel_rfl
def B66_1 : List Nat := [0, 0, 2, 1, 9, 25, 63, 127, 0, 0, 512, 256, 2304, 6400, 16128, 32512, 0, 0, 196863, 524287]
theorem bits66_1 : waitsOk T66_1.2 B66_1 = true := by kernel_rfl
set_option maxRecDepth 100000 in
set_option maxHeartbeats 8000000 in
theorem do_default (g : Nat) (x y : Mc) (op rd : Int) (k1 k2 : Nat) (imm : Int) (h1 : k1 < 16) (h2 : k2 < 16) (hne : ∀ k ∈ ([1, 2, 3, 4, 5, 6, 7, 8, 9, 10, 11, 12, 13, 14, 15, 16, 17, 18, 19, 20, 67, 51, 52, 66, 68] : List Int), op ≠ k)
    (w : World) (hx : BL w g 51 (mcL x)) (hp : ∀ w, BL w g 51 (mcL x) → Calls Try.prog 43 #[.pointer (some ⟨g, 0, none⟩), .agg #[.int .u8 op, .int .u8 rd, .int .u8 (k1 : Int), .int .u8 (k2 : Int), .int .i32 imm], capV (x.was.regs k1), capV (x.was.regs k2)] w fun e w' => e = .returned (.tuple #[]) ∧ Fix (· = g) w w' ∧ BL w' g 51 (mcL y)) :
    Calls Try.prog 25 #[.pointer (some ⟨g, 0, none⟩), .agg #[.int .u8 op, .int .u8 rd, .int .u8 (k1 : Int), .int .u8 (k2 : Int), .int .i32 imm]] w fun e w' => e = .returned (.tuple #[]) ∧ Fix (· = g) w w' ∧ BL w' g 51 (mcL y) := by
  have HX := Aside0.mk hx
  simp only [capV_L] at hp
  have HP := Aside0.mk hp
  have HK1 := Aside0.mk h1
  have HK2 := Aside0.mk h2
  have HNE := Aside0.mk hne
  have i1 : (0 : Int) ≤ (k1 : Int) := by omega
  have i2 : (k1 : Int) < 16 := by omega
  have i3 : (0 : Int) ≤ (k2 : Int) := by omega
  have i4 : (k2 : Int) < 16 := by omega
  clear hx hp hne
  go_enter Try.func25, Try.ntmps25
  go_upto_region 1 with fail
  generalize hw1 : w.alloc (Obj.cells #[.int .u8 op, .int .u8 rd, .int .u8 (k1 : Int), .int .u8 (k2 : Int), .int .i32 imm] 74) = w1
  have HB1 : Aside0 (Below w.heap.size w w1) := ⟨by rw [← hw1]; exact below_alloc (Below.refl _ _) _⟩
  have K1 : Aside0 (BL w1 w.heap.size 74 [.int .u8 op, .int .u8 rd, .int .u8 (k1 : Int), .int .u8 (k2 : Int), .int .i32 imm]) := ⟨by rw [← hw1]; exact BL.new _ _ _⟩
  have HX1 := Aside0.mk (HX.out.below HB1.out)
  clear hw1 h1 h2
  refine start_ (n := 20) (S := fun w' => BL w' w.heap.size 74 [.int .u8 op, .int .u8 rd, .int .u8 (k1 : Int), .int .u8 (k2 : Int), .int .i32 imm] ∧ BL w' g 51 (mcL x)) (ds := []) #[false, false, false, false, false, false, false, false, false, false, false, false, false, false, false, false, false, false, false, false] (by kernel_rfl) rfl rfl ⟨K1.out, HX1.out⟩ (fun hHeld => ?_)
  refine with_tabW tab66_1 bits66_1 (fun HT_ HW_ => ?_)
  have HBD : Aside0 (Below w.heap.size w w1.drew) := ⟨below_drew HB1.out⟩
  generalize w1.drew = w2 at HBD hHeld ⊢
  clear HB1 K1 HX1
  refine pure_ (i := 0) (N := some 8) (v := ?_) (a' := ?_) #[true, false, false, false, false, false, false, false, false, false, false, false, false, false, false, false, false, false, false, false] rfl rfl (any_of HT_.out (by kernel_rfl)) (fun _ _ _ h => h) (Or.inl ⟨by rfl, ?_⟩) ?_ ?_
  rotate_left
  · intro w'
    go_simp
    with_reducible rfl
  rotate_left
  · skip
    simp only [Act.put, List.setIfInBounds_toArray, List.set_cons_zero, List.set_cons_succ, i64_w, i32_w]
    rfl
  refine pure_ (i := 1) (N := some 9) (v := ?_) (a' := ?_) #[true, true, false, false, false, false, false, false, false, false, false, false, false, false, false, false, false, false, false, false] rfl rfl (any_of HT_.out (by kernel_rfl)) (fun _ _ _ h => h) (Or.inl ⟨by rfl, ?_⟩) ?_ ?_
  rotate_left
  · intro w'
    go_simp
    with_reducible rfl
  rotate_left
  · skip
    simp only [Act.put, List.setIfInBounds_toArray, List.set_cons_zero, List.set_cons_succ, i64_w, i32_w]
    rfl
  refine take_ (i := 2) (N := some 10) (v := ?_) (a' := ?_) #[true, true, true, false, false, false, false, false, false, false, false, false, false, false, false, false, false, false, false, false] rfl rfl (take_ofW HT_.out HW_.out (by kernel_rfl)) (fun _ _ _ h => h) (Or.inl ⟨by rfl, ?_⟩) hHeld ?_ ?_
  rotate_left
  · intro w' hS0
    have x2 := hS0.1.cell 2 _ rfl
    go_simp
    with_reducible rfl
  rotate_left
  · skip
    simp only [Act.put, List.setIfInBounds_toArray, List.set_cons_zero, List.set_cons_succ, i64_w, i32_w]
    rfl
  refine pure_ (i := 3) (N := some 11) (v := ?_) (a' := ?_) #[true, true, true, true, false, false, false, false, false, false, false, false, false, false, false, false, false, false, false, false] rfl rfl (any_of HT_.out (by kernel_rfl)) (fun _ _ _ h => h) (Or.inl ⟨by rfl, ?_⟩) ?_ ?_
  rotate_left
  · intro w'
    go_simp
    with_reducible rfl
  rotate_left
  · skip
    simp only [Act.put, List.setIfInBounds_toArray, List.set_cons_zero, List.set_cons_succ, i64_w, i32_w]
    rfl
  refine pure_ (i := 4) (N := some 12) (v := ?_) (a' := ?_) #[true, true, true, true, true, false, false, false, false, false, false, false, false, false, false, false, false, false, false, false] rfl rfl (any_of HT_.out (by kernel_rfl)) (fun _ _ _ h => h) (Or.inl ⟨by rfl, ?_⟩) ?_ ?_
  rotate_left
  · intro w'
    go_simp
    with_reducible rfl
  rotate_left
  · skip
    simp only [Act.put, List.setIfInBounds_toArray, List.set_cons_zero, List.set_cons_succ, i64_w, i32_w]
    rfl
  refine pure_ (i := 5) (N := some 13) (v := ?_) (a' := ?_) #[true, true, true, true, true, true, false, false, false, false, false, false, false, false, false, false, false, false, false, false] rfl rfl (any_of HT_.out (by kernel_rfl)) (fun _ _ _ h => h) (Or.inl ⟨by rfl, ?_⟩) ?_ ?_
  rotate_left
  · intro w'
    go_simp
    with_reducible rfl
  rotate_left
  · skip
    simp only [Act.put, List.setIfInBounds_toArray, List.set_cons_zero, List.set_cons_succ, i64_w, i32_w]
    rfl
  refine pure_ (i := 6) (N := some 14) (v := ?_) (a' := ?_) #[true, true, true, true, true, true, true, false, false, false, false, false, false, false, false, false, false, false, false, false] rfl rfl (any_of HT_.out (by kernel_rfl)) (fun _ _ _ h => h) (Or.inl ⟨by rfl, ?_⟩) ?_ ?_
  rotate_left
  · intro w'
    go_simp
    with_reducible rfl
  rotate_left
  · skip
    simp only [Act.put, List.setIfInBounds_toArray, List.set_cons_zero, List.set_cons_succ, i64_w, i32_w]
    rfl
  refine take_ (i := 7) (N := some 15) (v := .agg (capL (x.was.regs k1)).toArray) (a' := ?_) #[true, true, true, true, true, true, true, true, false, false, false, false, false, false, false, false, false, false, false, false] rfl rfl (take_ofW HT_.out HW_.out (by kernel_rfl)) (fun _ _ _ h => h) (yieldsIf_load_mid (by rfl) 27 (.tmp 14) rfl g (1 + k1 * 7) rfl (capL (x.was.regs k1)) _ (fun w' hS0 => BL.wasReg hS0.2 k1 HK1.out) Try.underlying27 rfl size31) hHeld ?_ ?_
  rotate_left
  · skip
    simp only [Act.put, List.setIfInBounds_toArray, List.set_cons_zero, List.set_cons_succ, i64_w, i32_w]
    rfl
  refine pure_ (i := 8) (N := some 16) (v := ?_) (a' := ?_) #[true, true, true, true, true, true, true, true, true, false, false, false, false, false, false, false, false, false, false, false] rfl rfl (any_of HT_.out (by kernel_rfl)) (fun _ _ _ h => h) (Or.inl ⟨by rfl, ?_⟩) ?_ ?_
  rotate_left
  · intro w'
    go_simp
    with_reducible rfl
  rotate_left
  · skip
    simp only [Act.put, List.setIfInBounds_toArray, List.set_cons_zero, List.set_cons_succ, i64_w, i32_w]
    rfl
  refine pure_ (i := 9) (N := some 17) (v := ?_) (a' := ?_) #[true, true, true, true, true, true, true, true, true, true, false, false, false, false, false, false, false, false, false, false] rfl rfl (any_of HT_.out (by kernel_rfl)) (fun _ _ _ h => h) (Or.inl ⟨by rfl, ?_⟩) ?_ ?_
  rotate_left
  · intro w'
    go_simp
    with_reducible rfl
  rotate_left
  · skip
    simp only [Act.put, List.setIfInBounds_toArray, List.set_cons_zero, List.set_cons_succ, i64_w, i32_w]
    rfl
  refine take_ (i := 10) (N := some 18) (v := ?_) (a' := ?_) #[true, true, true, true, true, true, true, true, true, true, true, false, false, false, false, false, false, false, false, false] rfl rfl (take_ofW HT_.out HW_.out (by kernel_rfl)) (fun _ _ _ h => h) (Or.inl ⟨by rfl, ?_⟩) hHeld ?_ ?_
  rotate_left
  · intro w' hS0
    have x3 := hS0.1.cell 3 _ rfl
    go_simp
    with_reducible rfl
  rotate_left
  · skip
    simp only [Act.put, List.setIfInBounds_toArray, List.set_cons_zero, List.set_cons_succ, i64_w, i32_w]
    rfl
  refine pure_ (i := 11) (N := some 19) (v := ?_) (a' := ?_) #[true, true, true, true, true, true, true, true, true, true, true, true, false, false, false, false, false, false, false, false] rfl rfl (any_of HT_.out (by kernel_rfl)) (fun _ _ _ h => h) (Or.inl ⟨by rfl, ?_⟩) ?_ ?_
  rotate_left
  · intro w'
    go_simp
    with_reducible rfl
  rotate_left
  · skip
    simp only [Act.put, List.setIfInBounds_toArray, List.set_cons_zero, List.set_cons_succ, i64_w, i32_w]
    rfl
  refine pure_ (i := 12) (N := some 20) (v := ?_) (a' := ?_) #[true, true, true, true, true, true, true, true, true, true, true, true, true, false, false, false, false, false, false, false] rfl rfl (any_of HT_.out (by kernel_rfl)) (fun _ _ _ h => h) (Or.inl ⟨by rfl, ?_⟩) ?_ ?_
  rotate_left
  · intro w'
    go_simp
    with_reducible rfl
  rotate_left
  · skip
    simp only [Act.put, List.setIfInBounds_toArray, List.set_cons_zero, List.set_cons_succ, i64_w, i32_w]
    rfl
  refine pure_ (i := 13) (N := some 21) (v := ?_) (a' := ?_) #[true, true, true, true, true, true, true, true, true, true, true, true, true, true, false, false, false, false, false, false] rfl rfl (any_of HT_.out (by kernel_rfl)) (fun _ _ _ h => h) (Or.inl ⟨by rfl, ?_⟩) ?_ ?_
  rotate_left
  · intro w'
    go_simp
    with_reducible rfl
  rotate_left
  · skip
    simp only [Act.put, List.setIfInBounds_toArray, List.set_cons_zero, List.set_cons_succ, i64_w, i32_w]
    rfl
  refine pure_ (i := 14) (N := some 22) (v := ?_) (a' := ?_) #[true, true, true, true, true, true, true, true, true, true, true, true, true, true, true, false, false, false, false, false] rfl rfl (any_of HT_.out (by kernel_rfl)) (fun _ _ _ h => h) (Or.inl ⟨by rfl, ?_⟩) ?_ ?_
  rotate_left
  · intro w'
    go_simp
    with_reducible rfl
  rotate_left
  · skip
    simp only [Act.put, List.setIfInBounds_toArray, List.set_cons_zero, List.set_cons_succ, i64_w, i32_w]
    rfl
  refine take_ (i := 15) (N := some 23) (v := .agg (capL (x.was.regs k2)).toArray) (a' := ?_) #[true, true, true, true, true, true, true, true, true, true, true, true, true, true, true, true, false, false, false, false] rfl rfl (take_ofW HT_.out HW_.out (by kernel_rfl)) (fun _ _ _ h => h) (yieldsIf_load_mid (by rfl) 27 (.tmp 22) rfl g (1 + k2 * 7) rfl (capL (x.was.regs k2)) _ (fun w' hS0 => BL.wasReg hS0.2 k2 HK2.out) Try.underlying27 rfl size31) hHeld ?_ ?_
  rotate_left
  · skip
    simp only [Act.put, List.setIfInBounds_toArray, List.set_cons_zero, List.set_cons_succ, i64_w, i32_w]
    rfl
  clear i1 i2 i3 i4
  refine join_ (σ := Nat × Nat) 0 #[true, true, true, true, true, true, true, true, true, true, true, true, true, true, true, true, true, true, true, true] (fun s => [(4, .pointer (some ⟨s.1, 0, none⟩)), (5, .pointer (some ⟨s.2, 0, none⟩))]) (fun s w' => BL w' s.1 27 (capL (x.was.regs k1)) ∧ BL w' s.2 27 (capL (x.was.regs k2)) ∧ Below w2.heap.size w2 w') ?_ ?_
  rotate_left
  · intro hJ
    refine two_ (i := 16) (j := 17) (Ni := some 4) (Nj := some 5) #[true, true, true, true, true, true, true, true, true, true, true, true, true, true, true, true, true, false, false, false] #[true, true, true, true, true, true, true, true, true, true, true, true, true, true, true, true, false, true, false, false] rfl rfl rfl rfl (two_of HT_.out (by kernel_rfl)) (by decide) (by decide) (fun K hK => ?_) (fun K hK => ?_)
    · refine value_ (w1 := ?_) (v := ?_) (by rfl) rfl ?_ ?_
      rotate_left 2
      · go_simp
        constructor
        · rfl
        · rfl
      refine hK.out _ _ ⟨hHeld.1.below (below_alloc (Below.refl _ _) _), hHeld.2.below (below_alloc (Below.refl _ _) _)⟩ (fun hS3 => ?_)
      clear hK K
      refine norm_ (a' := ?_) ?_ ?_
      rotate_left
      · show Act.put _ (some 4) _ = _
        simp only [Act.put, List.setIfInBounds_toArray, List.set_cons_zero, List.set_cons_succ, i64_w, i32_w]
        rfl
      refine one_ (i := 17) (N := some 5) #[true, true, true, true, true, true, true, true, true, true, true, true, true, true, true, true, true, true, false, false] rfl rfl (one_of HT_.out (by kernel_rfl)) (by decide) (fun K hK => ?_)
      refine value_ (w1 := ?_) (v := ?_) (by rfl) rfl ?_ ?_
      rotate_left 2
      · go_simp
        constructor
        · rfl
        · rfl
      refine hK.out _ _ ⟨hS3.1.below (below_alloc (Below.refl _ _) _), hS3.2.below (below_alloc (Below.refl _ _) _)⟩ (fun hS4 => ?_)
      clear hK K
      refine norm_ (a' := ?_) ?_ ?_
      rotate_left
      · show Act.put _ (some 5) _ = _
        simp only [Act.put, List.setIfInBounds_toArray, List.set_cons_zero, List.set_cons_succ, i64_w, i32_w]
        rfl
      have hsz : (w2.alloc (Obj.cells #[.bool false, .int .u32 0, .int .u8 0, .int .u8 0, .int .u8 0, .int .u16 0, .int .u16 0] 27)).heap.size = w2.heap.size + 1 := by simp
      try rw [hsz]
      have hlt := hHeld.1.lt
      have hlg := hHeld.2.lt
      have q0 : BL ((w2.alloc (Obj.cells #[.bool false, .int .u32 0, .int .u8 0, .int .u8 0, .int .u8 0, .int .u16 0, .int .u16 0] 27)).alloc (Obj.cells #[.bool false, .int .u32 0, .int .u8 0, .int .u8 0, .int .u8 0, .int .u16 0, .int .u16 0] 27)) w2.heap.size 27 (capL nullC) := (BL.new w2 (capL nullC) 27).below (below_alloc (Below.refl _ _) _)
      have q1 : BL ((w2.alloc (Obj.cells #[.bool false, .int .u32 0, .int .u8 0, .int .u8 0, .int .u8 0, .int .u16 0, .int .u16 0] 27)).alloc (Obj.cells #[.bool false, .int .u32 0, .int .u8 0, .int .u8 0, .int .u8 0, .int .u16 0, .int .u16 0] 27)) (w2.heap.size + 1) 27 (capL nullC) := by have h := BL.new (w2.alloc (Obj.cells #[.bool false, .int .u32 0, .int .u8 0, .int .u8 0, .int .u8 0, .int .u16 0, .int .u16 0] 27)) (capL nullC) 27; rw [hsz] at h; exact h
      have hb4 : Below w2.heap.size w2 ((w2.alloc (Obj.cells #[.bool false, .int .u32 0, .int .u8 0, .int .u8 0, .int .u8 0, .int .u16 0, .int .u16 0] 27)).alloc (Obj.cells #[.bool false, .int .u32 0, .int .u8 0, .int .u8 0, .int .u8 0, .int .u16 0, .int .u16 0] 27)) := below_alloc (below_alloc (Below.refl _ _) _) _
      generalize (w2.alloc (Obj.cells #[.bool false, .int .u32 0, .int .u8 0, .int .u8 0, .int .u8 0, .int .u16 0, .int .u16 0] 27)).alloc (Obj.cells #[.bool false, .int .u32 0, .int .u8 0, .int .u8 0, .int .u8 0, .int .u16 0, .int .u16 0] 27) = w4 at hS4 q0 q1 hb4 ⊢
      clear hS3 hsz
      refine one_ (i := 18) (N := none) #[true, true, true, true, true, true, true, true, true, true, true, true, true, true, true, true, true, true, true, false] rfl rfl (one_of HT_.out (by kernel_rfl)) (by decide) (fun K hK => ?_)
      refine store_step (by rfl) rfl 27 (.tmp 4) (.tmp 15) rfl w2.heap.size 0 q0 (capL (x.was.regs k1)) rfl rfl size31 (capL_one _) (Nat.le_refl 7) (fun w5 s5 f5 => ?_)
      refine hK.out _ _ ⟨hS4.1.fix f5 (by show ¬ _ = _; omega), hS4.2.fix f5 (by show ¬ _ = _; omega)⟩ (fun hS5 => ?_)
      clear hK K
      have q5 := q1.fix f5 (by show ¬ _ = _; omega)
      refine one_ (i := 19) (N := none) #[true, true, true, true, true, true, true, true, true, true, true, true, true, true, true, true, true, true, true, true] rfl rfl (one_of HT_.out (by kernel_rfl)) (by decide) (fun K hK => ?_)
      refine store_step (by rfl) rfl 27 (.tmp 5) (.tmp 23) rfl (w2.heap.size + 1) 0 q5 (capL (x.was.regs k2)) rfl rfl size31 (capL_one _) (Nat.le_refl 7) (fun w6 s6 f6 => ?_)
      refine hK.out _ _ ⟨hS5.1.fix f6 (by show ¬ _ = _; omega), hS5.2.fix f6 (by show ¬ _ = _; omega)⟩ (fun hS6 => ?_)
      clear hK K
      refine hJ (w2.heap.size, (w2.heap.size + 1)) _ ⟨s5.fix f6 (by show ¬ _ = _; omega), s6, ?_⟩
      exact hb4.trans (((f5.below (B := w2.heap.size) hb4.size (fun k hk => by omega))).trans (f6.below (B := w2.heap.size) (Nat.le_trans hb4.size f5.size) (fun k hk => by omega)))
    · refine value_ (w1 := ?_) (v := ?_) (by rfl) rfl ?_ ?_
      rotate_left 2
      · go_simp
        constructor
        · rfl
        · rfl
      refine hK.out _ _ ⟨hHeld.1.below (below_alloc (Below.refl _ _) _), hHeld.2.below (below_alloc (Below.refl _ _) _)⟩ (fun hS3 => ?_)
      clear hK K
      refine norm_ (a' := ?_) ?_ ?_
      rotate_left
      · show Act.put _ (some 5) _ = _
        simp only [Act.put, List.setIfInBounds_toArray, List.set_cons_zero, List.set_cons_succ, i64_w, i32_w]
        rfl
      refine one_ (i := 16) (N := some 4) #[true, true, true, true, true, true, true, true, true, true, true, true, true, true, true, true, true, true, false, false] rfl rfl (one_of HT_.out (by kernel_rfl)) (by decide) (fun K hK => ?_)
      refine value_ (w1 := ?_) (v := ?_) (by rfl) rfl ?_ ?_
      rotate_left 2
      · go_simp
        constructor
        · rfl
        · rfl
      refine hK.out _ _ ⟨hS3.1.below (below_alloc (Below.refl _ _) _), hS3.2.below (below_alloc (Below.refl _ _) _)⟩ (fun hS4 => ?_)
      clear hK K
      refine norm_ (a' := ?_) ?_ ?_
      rotate_left
      · show Act.put _ (some 4) _ = _
        simp only [Act.put, List.setIfInBounds_toArray, List.set_cons_zero, List.set_cons_succ, i64_w, i32_w]
        rfl
      have hsz : (w2.alloc (Obj.cells #[.bool false, .int .u32 0, .int .u8 0, .int .u8 0, .int .u8 0, .int .u16 0, .int .u16 0] 27)).heap.size = w2.heap.size + 1 := by simp
      try rw [hsz]
      have hlt := hHeld.1.lt
      have hlg := hHeld.2.lt
      have q0 : BL ((w2.alloc (Obj.cells #[.bool false, .int .u32 0, .int .u8 0, .int .u8 0, .int .u8 0, .int .u16 0, .int .u16 0] 27)).alloc (Obj.cells #[.bool false, .int .u32 0, .int .u8 0, .int .u8 0, .int .u8 0, .int .u16 0, .int .u16 0] 27)) w2.heap.size 27 (capL nullC) := (BL.new w2 (capL nullC) 27).below (below_alloc (Below.refl _ _) _)
      have q1 : BL ((w2.alloc (Obj.cells #[.bool false, .int .u32 0, .int .u8 0, .int .u8 0, .int .u8 0, .int .u16 0, .int .u16 0] 27)).alloc (Obj.cells #[.bool false, .int .u32 0, .int .u8 0, .int .u8 0, .int .u8 0, .int .u16 0, .int .u16 0] 27)) (w2.heap.size + 1) 27 (capL nullC) := by have h := BL.new (w2.alloc (Obj.cells #[.bool false, .int .u32 0, .int .u8 0, .int .u8 0, .int .u8 0, .int .u16 0, .int .u16 0] 27)) (capL nullC) 27; rw [hsz] at h; exact h
      have hb4 : Below w2.heap.size w2 ((w2.alloc (Obj.cells #[.bool false, .int .u32 0, .int .u8 0, .int .u8 0, .int .u8 0, .int .u16 0, .int .u16 0] 27)).alloc (Obj.cells #[.bool false, .int .u32 0, .int .u8 0, .int .u8 0, .int .u8 0, .int .u16 0, .int .u16 0] 27)) := below_alloc (below_alloc (Below.refl _ _) _) _
      generalize (w2.alloc (Obj.cells #[.bool false, .int .u32 0, .int .u8 0, .int .u8 0, .int .u8 0, .int .u16 0, .int .u16 0] 27)).alloc (Obj.cells #[.bool false, .int .u32 0, .int .u8 0, .int .u8 0, .int .u8 0, .int .u16 0, .int .u16 0] 27) = w4 at hS4 q0 q1 hb4 ⊢
      clear hS3 hsz
      refine one_ (i := 18) (N := none) #[true, true, true, true, true, true, true, true, true, true, true, true, true, true, true, true, true, true, true, false] rfl rfl (one_of HT_.out (by kernel_rfl)) (by decide) (fun K hK => ?_)
      refine store_step (by rfl) rfl 27 (.tmp 4) (.tmp 15) rfl (w2.heap.size + 1) 0 q1 (capL (x.was.regs k1)) rfl rfl size31 (capL_one _) (Nat.le_refl 7) (fun w5 s5 f5 => ?_)
      refine hK.out _ _ ⟨hS4.1.fix f5 (by show ¬ _ = _; omega), hS4.2.fix f5 (by show ¬ _ = _; omega)⟩ (fun hS5 => ?_)
      clear hK K
      have q5 := q0.fix f5 (by show ¬ _ = _; omega)
      refine one_ (i := 19) (N := none) #[true, true, true, true, true, true, true, true, true, true, true, true, true, true, true, true, true, true, true, true] rfl rfl (one_of HT_.out (by kernel_rfl)) (by decide) (fun K hK => ?_)
      refine store_step (by rfl) rfl 27 (.tmp 5) (.tmp 23) rfl w2.heap.size 0 q5 (capL (x.was.regs k2)) rfl rfl size31 (capL_one _) (Nat.le_refl 7) (fun w6 s6 f6 => ?_)
      refine hK.out _ _ ⟨hS5.1.fix f6 (by show ¬ _ = _; omega), hS5.2.fix f6 (by show ¬ _ = _; omega)⟩ (fun hS6 => ?_)
      clear hK K
      refine hJ ((w2.heap.size + 1), w2.heap.size) _ ⟨s5.fix f6 (by show ¬ _ = _; omega), s6, ?_⟩
      exact hb4.trans (((f5.below (B := w2.heap.size) hb4.size (fun k hk => by omega))).trans (f6.below (B := w2.heap.size) (Nat.le_trans hb4.size f5.size) (fun k hk => by omega)))
  rintro ⟨p, q⟩ w7 ⟨hp, hq, hpq⟩
  refine done_ (done_of HT_.out (by kernel_rfl)) ?_
  simp only [putAll, Act.put, List.setIfInBounds_toArray, List.set_cons_zero, List.set_cons_succ]
  have HB7 : Aside0 (Below w.heap.size w w7) := ⟨HBD.out.trans (hpq.mono HBD.out.size)⟩
  have HP7 := Aside0.mk hp
  have HQ7 := Aside0.mk hq
  have HI7 := Aside0.mk (hHeld.1.below hpq)
  clear hp hq hpq hHeld HBD
  have d1 : (op == 1) = false := beq_eq_false_iff_ne.2 (HNE.out 1 (by simp))
  have d2 : (op == 2) = false := beq_eq_false_iff_ne.2 (HNE.out 2 (by simp))
  have d3 : (op == 3) = false := beq_eq_false_iff_ne.2 (HNE.out 3 (by simp))
  have d4 : (op == 4) = false := beq_eq_false_iff_ne.2 (HNE.out 4 (by simp))
  have d5 : (op == 5) = false := beq_eq_false_iff_ne.2 (HNE.out 5 (by simp))
  have d6 : (op == 6) = false := beq_eq_false_iff_ne.2 (HNE.out 6 (by simp))
  have d7 : (op == 7) = false := beq_eq_false_iff_ne.2 (HNE.out 7 (by simp))
  have d8 : (op == 8) = false := beq_eq_false_iff_ne.2 (HNE.out 8 (by simp))
  have d9 : (op == 9) = false := beq_eq_false_iff_ne.2 (HNE.out 9 (by simp))
  have d10 : (op == 10) = false := beq_eq_false_iff_ne.2 (HNE.out 10 (by simp))
  have d11 : (op == 11) = false := beq_eq_false_iff_ne.2 (HNE.out 11 (by simp))
  have d12 : (op == 12) = false := beq_eq_false_iff_ne.2 (HNE.out 12 (by simp))
  have d13 : (op == 13) = false := beq_eq_false_iff_ne.2 (HNE.out 13 (by simp))
  have d14 : (op == 14) = false := beq_eq_false_iff_ne.2 (HNE.out 14 (by simp))
  have d15 : (op == 15) = false := beq_eq_false_iff_ne.2 (HNE.out 15 (by simp))
  have d16 : (op == 16) = false := beq_eq_false_iff_ne.2 (HNE.out 16 (by simp))
  have d17 : (op == 17) = false := beq_eq_false_iff_ne.2 (HNE.out 17 (by simp))
  have d18 : (op == 18) = false := beq_eq_false_iff_ne.2 (HNE.out 18 (by simp))
  have d19 : (op == 19) = false := beq_eq_false_iff_ne.2 (HNE.out 19 (by simp))
  have d20 : (op == 20) = false := beq_eq_false_iff_ne.2 (HNE.out 20 (by simp))
  have d67 : (op == 67) = false := beq_eq_false_iff_ne.2 (HNE.out 67 (by simp))
  have d51 : (op == 51) = false := beq_eq_false_iff_ne.2 (HNE.out 51 (by simp))
  have d52 : (op == 52) = false := beq_eq_false_iff_ne.2 (HNE.out 52 (by simp))
  have d66 : (op == 66) = false := beq_eq_false_iff_ne.2 (HNE.out 66 (by simp))
  have d68 : (op == 68) = false := beq_eq_false_iff_ne.2 (HNE.out 68 (by simp))
  have x0 := HI7.out.cell 0 _ rfl
  have x1 := HI7.out.cell 1 _ rfl
  have x2 := HI7.out.cell 2 _ rfl
  have x3 := HI7.out.cell 3 _ rfl
  have x4 := HI7.out.cell 4 _ rfl
  go_wp2_with (first | ((with_reducible refine wpl_agg rfl 27 (.tmp 4) rfl HP7.out ?off_1 (capL (x.was.regs k1)) ?hx_1 ?hc_1 _ Try.underlying27 ?hd_1 ?hi_1 ?_); (case hx_1 => rfl); (case hc_1 => rfl); (case hd_1 => rfl); (case hi_1 => exact size31)) | ((with_reducible refine wpl_agg rfl 27 (.tmp 5) rfl HQ7.out ?off_2 (capL (x.was.regs k2)) ?hx_2 ?hc_2 _ Try.underlying27 ?hd_2 ?hi_2 ?_); (case hx_2 => rfl); (case hc_2 => rfl); (case hd_2 => rfl); (case hi_2 => exact size31)) | (go_at_call 43; (with_reducible refine (HP.out _ (HX.out.below HB7.out)).mono ?_); rintro _ w8 ⟨rfl, hf, hb⟩; have HB8 := Aside0.mk hb; have HF8 := Aside0.mk ((Fix.of HB7.out).trans hf); clear hb hf))
  go_end0
  exact ⟨rfl, HF8.out, HB8.out⟩
end Go.Proofs.Ytadbonmkockakaa.Cp

/- What run's deferred closure does: of a frame that returns, of one that panics with a cause. Written by wip/r5/clo.py. -/
namespace Go.Proofs.Ytadbonmkockakaa.Cp
open Go.RowKit Go.Proofs.YtadbonmkockakaaW.PrintWords Go.Proofs.YtadbonmkockakaaW.PrintLast Go.Proofs.YtadbonmkockakaaW.PrintMore Go.Proofs.Ytadbonmkockakaa.QCb Go.Proofs.Ytadbonmkockakaa.QCe
set_option linter.unusedVariables false
set_option linter.unusedSimpArgs false
theorem run_assert124 (v : Value) (w : World) : (Instr.typeAssert (.iface 67 v) 20 67 true).run Try.prog w = .ok (.tuple #[v, .bool true]) w := by
  unfold Instr.typeAssert
  rw [Sem.run_bind, run_underlying Try.underlying67 w]
  rfl
set_option maxRecDepth 100000 in
set_option maxHeartbeats 4000000 in
theorem clo_idle (p : Addr) (w : World) :
    CallsD Try.prog 19 #[.pointer (some p)] .returning w fun e u' w' => e = .returned (.tuple #[]) ∧ u' = .returning ∧ w' = w := by
  refine callsD_of_wpS Try.func19 rfl fun c₀ cs hu => ?_
  apply wpS_seq
  apply wpS_region
  simp [wpOpsS, go_sem, recoverD, hu, Try.ntmps19, Exit.thenS]
  apply wpS_seq
  apply wpS_region
  simp [wpOpsS, go_sem, Exit.thenS]
  refine wpS_cond (t := false) (by simp [Act.eval, Array.replicate]) ?_
  simp only [Bool.false_eq_true, if_false]
  refine wpS_of_wp (wp_skip ?_)
  cases c₀
  simp_all [bodyPostS, results, Try.results19]
set_option maxRecDepth 100000 in
set_option maxHeartbeats 4000000 in
theorem clo_catch (p : Addr) (x : Int) (c : Int) (older : List PanicEntry) (w : World) (hc : w.cell? p = some (.int .u32 x)) (hz : w.frozen? p = false) :
    CallsD Try.prog 19 #[.pointer (some p)] (.panicking ({ v := .iface 67 (.agg #[.int .u32 c]), recovered := false } :: older)) w fun e u' w' =>
      e = .returned (.tuple #[]) ∧ u' = .panicking ({ v := .iface 67 (.agg #[.int .u32 c]), recovered := true } :: older) ∧ w' = (w.alloc (.cells #[.int .u32 c] 67)).setCell p (.int .u32 c) := by
  refine callsD_of_wpS Try.func19 rfl fun c₀ cs hu => ?_
  apply wpS_seq
  apply wpS_region
  simp [wpOpsS, go_sem, recoverD, hu, Try.ntmps19, Exit.thenS]
  apply wpS_seq
  apply wpS_region
  simp [wpOpsS, go_sem, Exit.thenS]
  refine wpS_cond (t := true) (by simp [Act.eval, Array.replicate]) ?_
  simp only [if_true]
  simp only [Array.replicate, List.replicate, List.setIfInBounds_toArray, List.set_cons_zero, List.set_cons_succ, List.append_toArray, List.cons_append, List.nil_append]
  have ha := run_assert124
  have hlt := World.block_lt_of_cell? w _ hc
  have hb : Below w.heap.size w (w.alloc (Obj.cells #[.int .u32 c] 67)) := below_alloc (Below.refl _ _) _
  have hc2 : (w.alloc (Obj.cells #[.int .u32 c] 67)).cell? p = some (.int .u32 x) := (hb.cell hlt).trans hc
  have hz2 : (w.alloc (Obj.cells #[.int .u32 c] 67)).frozen? p = false := (hb.frozen hlt).trans hz
  clear hb hc hz
  refine wpS_of_wp ?_
  go_wp2
  cases c₀
  simp_all [bodyPostS, results, Try.results19]
end Go.Proofs.Ytadbonmkockakaa.Cp

/- The machine's run where nothing is fetched. Written by wip/r5/run.py. -/
namespace Go.Proofs.Ytadbonmkockakaa.Cp
open Go.RowKit Go.Proofs.YtadbonmkockakaaW.PrintWords Go.Proofs.YtadbonmkockakaaW.PrintLast Go.Proofs.YtadbonmkockakaaW.PrintMore Go.Proofs.Ytadbonmkockakaa.QCb Go.Proofs.Ytadbonmkockakaa.QCe
set_option linter.unusedVariables false
set_option linter.unusedSimpArgs false
def fetchS (c : Cap) : Bool := mayS c 8 c.addr 4 && (c.addr % 4 == 0 && decide (c.addr < 65280))
theorem settle_cell {w : World} {p : Addr} {v u : Value} (h : w.cell? p = some u) : (w.setCell p v).cell? p = some v := World.cell?_setCell_same _ _ _ h
set_option maxRecDepth 100000 in
set_option maxHeartbeats 4000000 in
theorem run_fetch (g : Nat) (x : Mc) (ok : OkC x.was.pcc) (hf : fetchS x.was.pcc = false) (w : World) (hx : BL w g 51 (mcL x)) :
    Calls Try.prog 10 #[.pointer (some ⟨g, 0, none⟩)] w fun e w' => e = .returned (.int .u32 1) ∧ Below w.heap.size w w' := by
  have HX := Aside0.mk hx
  obtain ⟨⟨tag, a, p, ty, e, b, t⟩, hp⟩ : ∃ c, x.was.pcc = c := ⟨_, rfl⟩
  have HP := Aside0.mk hp
  rw [hp] at ok
  have ha : 0 ≤ a ∧ a < 4294967296 := ok.1
  have hm := fun w => may_calls tag a p ty e b t ok 8 a 4 (by decide) ha.1 (by decide) w
  obtain ⟨q, hq⟩ : ∃ q, mayS ⟨tag, a, p, ty, e, b, t⟩ 8 a 4 = q := ⟨_, rfl⟩
  simp only [hq] at hm
  have HM := Aside0.mk hm
  have hmf : ∀ (fn : Fn) (first cap : Array Value) (w : World), (Instr.makeFunc fn first cap).run Try.prog w = .ok (.func fn first cap) w := fun _ _ _ _ => rfl
  have hu : a % 18446744073709551616 = a := by omega
  have hf2 : (q && (a % 4 == 0 && decide (a < 65280))) = false := by rw [← hq, ← hf]; unfold fetchS; rw [hp]
  clear hx hp ok hm hq hf
  cases q
  · skip
    clear hf2 ha
    go_enter_defers Try.func10, Try.ntmps10
    go_upto_region 2 with fail
    generalize hw1 : w.alloc (Obj.cells #[.int .u32 0] 22) = w1
    have HB1 : Aside0 (Below w.heap.size w w1) := ⟨by rw [← hw1]; exact below_alloc (Below.refl _ _) _⟩
    have K1 : Aside0 (BL w1 w.heap.size 22 [.int .u32 0]) := ⟨by rw [← hw1]; exact BL.new _ _ _⟩
    have hx1 := HX.out.below HB1.out
    have e0 := hx1.cell 113 _ rfl
    have e1 := hx1.cell 114 _ rfl
    have e2 := hx1.cell 115 _ rfl
    have e3 := hx1.cell 116 _ rfl
    have e4 := hx1.cell 117 _ rfl
    have e5 := hx1.cell 118 _ rfl
    have e6 := hx1.cell 119 _ rfl
    rw [HP.out] at e0 e1 e2 e3 e4 e5 e6
    simp only [] at e0 e1 e2 e3 e4 e5 e6
    clear hw1 hx1
    go_wp2_with (first | (go_at_call 20; (with_reducible refine (HM.out _).mono ?_); rintro _ w2 ⟨rfl, hb⟩; have K2 := Aside0.mk (K1.out.below hb); have HB2 := Aside0.mk (HB1.out.trans (hb.mono HB1.out.size)); clear hb) | (go_at_call 21; (with_reducible refine (stop_calls 1 _).mono ?_); rintro _ w3 ⟨rfl, hb⟩; have K3 := Aside0.mk (K2.out.below hb); have HB3 := Aside0.mk (HB2.out.trans (hb.mono HB2.out.size)); clear hb))
    refine leaves_cons (f := 19) (args := #[.pointer (some ⟨w.heap.size, 0, none⟩)]) (by simp) (by simp [go_sem]) ?_
    refine (clo_catch ⟨w.heap.size, 0, none⟩ 0 1 [] w3 (K3.out.cell 0 _ rfl) (K3.out.open_ 0)).mono ?_
    rintro e9 u9 w9 ⟨rfl, rfl, rfl⟩
    have hc9 := settle_cell (v := .int .u32 1) ((K3.out.below (below_alloc (Below.refl _ _) (Obj.cells #[.int .u32 1] 67))).cell 0 _ rfl)
    have HB9 : Aside0 (Below w.heap.size w ((w3.alloc (Obj.cells #[.int .u32 1] 67)).setCell ⟨w.heap.size, 0, none⟩ (.int .u32 1))) := ⟨Below.setCell (below_alloc HB3.out _) (by simp) _⟩
    generalize (w3.alloc (Obj.cells #[.int .u32 1] 67)).setCell ⟨w.heap.size, 0, none⟩ (.int .u32 1) = w9 at hc9 HB9 ⊢
    simp [Leaves, settle, results, Try.results10, go_sem, hc9]
    exact HB9.out
  · obtain ⟨r, hr0⟩ : ∃ r, a % 4 = r := ⟨_, rfl⟩
    rw [hr0] at hf2
    by_cases h4 : r = 0
    · subst h4
      have hr : Int.tmod a 4 = 0 := by rw [Int.tmod_eq_emod_of_nonneg ha.1]; exact hr0
      have h5 : 65280 ≤ a := by
        rcases Int.lt_or_le a 65280 with h | h
        · rw [decide_eq_true h] at hf2; cases hf2
        · exact h
      have d5 : decide (65280 ≤ a) = true := decide_eq_true h5
      clear hf2 ha hr0
      go_enter_defers Try.func10, Try.ntmps10
      go_upto_region 2 with fail
      generalize hw1 : w.alloc (Obj.cells #[.int .u32 0] 22) = w1
      have HB1 : Aside0 (Below w.heap.size w w1) := ⟨by rw [← hw1]; exact below_alloc (Below.refl _ _) _⟩
      have K1 : Aside0 (BL w1 w.heap.size 22 [.int .u32 0]) := ⟨by rw [← hw1]; exact BL.new _ _ _⟩
      have hx1 := HX.out.below HB1.out
      have e0 := hx1.cell 113 _ rfl
      have e1 := hx1.cell 114 _ rfl
      have e2 := hx1.cell 115 _ rfl
      have e3 := hx1.cell 116 _ rfl
      have e4 := hx1.cell 117 _ rfl
      have e5 := hx1.cell 118 _ rfl
      have e6 := hx1.cell 119 _ rfl
      rw [HP.out] at e0 e1 e2 e3 e4 e5 e6
      simp only [] at e0 e1 e2 e3 e4 e5 e6
      clear hw1 hx1
      go_wp2_with (first | (go_at_call 20; (with_reducible refine (HM.out _).mono ?_); rintro _ w2 ⟨rfl, hb⟩; have K2 := Aside0.mk (K1.out.below hb); have HB2 := Aside0.mk (HB1.out.trans (hb.mono HB1.out.size)); clear hb) | (go_at_call 21; (with_reducible refine (stop_calls 1 _).mono ?_); rintro _ w3 ⟨rfl, hb⟩; have K3 := Aside0.mk (K2.out.below hb); have HB3 := Aside0.mk (HB2.out.trans (hb.mono HB2.out.size)); clear hb))
      refine leaves_cons (f := 19) (args := #[.pointer (some ⟨w.heap.size, 0, none⟩)]) (by simp) (by simp [go_sem]) ?_
      refine (clo_catch ⟨w.heap.size, 0, none⟩ 0 1 [] w3 (K3.out.cell 0 _ rfl) (K3.out.open_ 0)).mono ?_
      rintro e9 u9 w9 ⟨rfl, rfl, rfl⟩
      have hc9 := settle_cell (v := .int .u32 1) ((K3.out.below (below_alloc (Below.refl _ _) (Obj.cells #[.int .u32 1] 67))).cell 0 _ rfl)
      have HB9 : Aside0 (Below w.heap.size w ((w3.alloc (Obj.cells #[.int .u32 1] 67)).setCell ⟨w.heap.size, 0, none⟩ (.int .u32 1))) := ⟨Below.setCell (below_alloc HB3.out _) (by simp) _⟩
      generalize (w3.alloc (Obj.cells #[.int .u32 1] 67)).setCell ⟨w.heap.size, 0, none⟩ (.int .u32 1) = w9 at hc9 HB9 ⊢
      simp [Leaves, settle, results, Try.results10, go_sem, hc9]
      exact HB9.out
    · have hr : Int.tmod a 4 = r := by rw [Int.tmod_eq_emod_of_nonneg ha.1]; exact hr0
      have d1 : (r == 0) = false := beq_eq_false_iff_ne.2 h4
      have d2 : (r != 0) = true := by simp [h4]
      clear hf2 ha hr0
      go_enter_defers Try.func10, Try.ntmps10
      go_upto_region 2 with fail
      generalize hw1 : w.alloc (Obj.cells #[.int .u32 0] 22) = w1
      have HB1 : Aside0 (Below w.heap.size w w1) := ⟨by rw [← hw1]; exact below_alloc (Below.refl _ _) _⟩
      have K1 : Aside0 (BL w1 w.heap.size 22 [.int .u32 0]) := ⟨by rw [← hw1]; exact BL.new _ _ _⟩
      have hx1 := HX.out.below HB1.out
      have e0 := hx1.cell 113 _ rfl
      have e1 := hx1.cell 114 _ rfl
      have e2 := hx1.cell 115 _ rfl
      have e3 := hx1.cell 116 _ rfl
      have e4 := hx1.cell 117 _ rfl
      have e5 := hx1.cell 118 _ rfl
      have e6 := hx1.cell 119 _ rfl
      rw [HP.out] at e0 e1 e2 e3 e4 e5 e6
      simp only [] at e0 e1 e2 e3 e4 e5 e6
      clear hw1 hx1
      go_wp2_with (first | (go_at_call 20; (with_reducible refine (HM.out _).mono ?_); rintro _ w2 ⟨rfl, hb⟩; have K2 := Aside0.mk (K1.out.below hb); have HB2 := Aside0.mk (HB1.out.trans (hb.mono HB1.out.size)); clear hb) | (go_at_call 21; (with_reducible refine (stop_calls 1 _).mono ?_); rintro _ w3 ⟨rfl, hb⟩; have K3 := Aside0.mk (K2.out.below hb); have HB3 := Aside0.mk (HB2.out.trans (hb.mono HB2.out.size)); clear hb))
      refine leaves_cons (f := 19) (args := #[.pointer (some ⟨w.heap.size, 0, none⟩)]) (by simp) (by simp [go_sem]) ?_
      refine (clo_catch ⟨w.heap.size, 0, none⟩ 0 1 [] w3 (K3.out.cell 0 _ rfl) (K3.out.open_ 0)).mono ?_
      rintro e9 u9 w9 ⟨rfl, rfl, rfl⟩
      have hc9 := settle_cell (v := .int .u32 1) ((K3.out.below (below_alloc (Below.refl _ _) (Obj.cells #[.int .u32 1] 67))).cell 0 _ rfl)
      have HB9 : Aside0 (Below w.heap.size w ((w3.alloc (Obj.cells #[.int .u32 1] 67)).setCell ⟨w.heap.size, 0, none⟩ (.int .u32 1))) := ⟨Below.setCell (below_alloc HB3.out _) (by simp) _⟩
      generalize (w3.alloc (Obj.cells #[.int .u32 1] 67)).setCell ⟨w.heap.size, 0, none⟩ (.int .u32 1) = w9 at hc9 HB9 ⊢
      simp [Leaves, settle, results, Try.results10, go_sem, hc9]
      exact HB9.out
end Go.Proofs.Ytadbonmkockakaa.Cp
