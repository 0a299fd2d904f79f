/- What instr.Get hands back. No condition. -/
import Derived.Test.YtadbonmkockakaaQInsG0
import Derived.LoopTactic
import Derived.StillTailTactics
import Derived.Deep.QuietTactic
import Derived.BigQuiet
import Derived.Test.YtadbonmkockakaaQLone
namespace Go.Proofs.Ytadbonmkockakaa.Ins
open Go.RowKit Go.Proofs.YtadbonmkockakaaW.PrintWords Go.Proofs.YtadbonmkockakaaW.PrintLast Go.Proofs.Ytadbonmkockakaa.Alu Go.Proofs.Ytadbonmkockakaa.InsP
set_option linter.unusedVariables false
set_option linter.unusedSimpArgs false

/-- The value of an instruction and its error. -/
def getV (r : I5 × Int) : Value := .tuple #[.agg #[.int .u8 r.1.op, .int .u8 r.1.rd, .int .u8 r.1.rs1, .int .u8 r.1.rs2, .int .i32 r.1.imm], .int .i64 r.2]

set_option maxHeartbeats 8000000 in
set_option maxRecDepth 100000 in
theorem get_none (x : Int) (h0 : 0 ≤ x) (h1 : x < 4294967296) (hno : ∀ p ∈ pairs, hitB x p = false) (w : World) : Calls Try.prog 23 #[.int .u32 x] w
    fun e w' => e = .returned (.tuple #[.agg #[.int .u8 0, .int .u8 0, .int .u8 0, .int .u8 0, .int .i32 0], .int .i64 5]) ∧ Below w.heap.size w w' := by
  have HN := Aside0.mk hno
  have HX : Aside0 (0 ≤ x ∧ x < 4294967296) := ⟨h0, h1⟩
  clear hno
  go_enter Try.func23, Try.ntmps23
  go_wp2_with fail
  refine (families_calls _).mono ?_
  rintro e w1 ⟨v, rfl, hF, hb⟩
  have hsz := hb.size
  have hz : w.heap.size + 1 ≤ w1.heap.size := by simpa using hsz
  have hblk := hb.block w.heap.size (by simp)
  have hblk2 : w1.heap[w.heap.size]? = some (.cells #[Value.int IntKind.u8 0, Value.int IntKind.u8 0, Value.int IntKind.u8 0, Value.int IntKind.u8 0, Value.int IntKind.i32 0] 74 (0, 0)) := hblk.trans (by rw [show ∀ o, (w.alloc o).heap = w.heap.push o from fun _ => rfl]; exact Array.getElem?_push_size)
  clear hblk
  obtain ⟨g, rfl, hF2⟩ := hF
  have hF : Aside0 (FamsAt w1 (.slice (some ⟨g, 0, none⟩) 18 18)) := ⟨⟨g, rfl, hF2⟩⟩
  have hB : Aside0 (Below w.heap.size w w1) := ⟨((Below.refl _ _).alloc (Nat.le_refl _) _).trans (hb.mono (by simp))⟩
  have hW : Aside0 (w1.heap[w.heap.size]? = some (.cells #[Value.int IntKind.u8 0, Value.int IntKind.u8 0, Value.int IntKind.u8 0, Value.int IntKind.u8 0, Value.int IntKind.i32 0] 74 (0, 0)) ∧ w.heap.size + 1 ≤ w1.heap.size) := ⟨hblk2, hz⟩
  clear hblk2 hz hsz hb hF2
  go_wp2
  go_loopw [12] (fun v12 wr => ∃ j : Nat, v12 = .int .i64 j ∧ Aside0 (j ≤ 18) ∧ Aside0 (FamsAt wr (.slice (some ⟨g, 0, none⟩) 18 18)) ∧ Aside0 (Below w.heap.size w wr) ∧ Aside0 (wr.heap[w.heap.size]? = some (.cells #[Value.int IntKind.u8 0, Value.int IntKind.u8 0, Value.int IntKind.u8 0, Value.int IntKind.u8 0, Value.int IntKind.i32 0] 74 (0, 0)) ∧ w.heap.size + 1 ≤ wr.heap.size)) (fun v12 _ => 18 - (intOf v12).toNat)
  case atStart => exact ⟨0, rfl, ⟨Nat.zero_le _⟩, hF, hB, hW⟩
  case round =>
    clear hF hB hW
    obtain ⟨j, rfl, HJ, hF, hB, hW⟩ := hrel
    by_cases hj18 : j < 18
    · skip
      obtain ⟨A, c, A', c', q0, q1, q2, q3, hs, hw⟩ := hF.out.get j hj18
      have hglt := hF.out.lt
      obtain ⟨hblk, hz⟩ := hW.out
      have hwi := words_in (j, 0) (mem_pairs hj18 (fam_bounds j hj18).2.2.2.1)
      obtain ⟨f, hff⟩ : ∃ f, (fam j).form = f := ⟨_, rfl⟩
      have hf10 : f < 10 := by rw [← hff]; exact hwi.1
      obtain ⟨F, hFF⟩ : ∃ F, (fam j).first = F := ⟨_, rfl⟩
      obtain ⟨N, hN⟩ : ∃ n, (fam j).names.length = n := ⟨_, rfl⟩
      obtain ⟨L, hL⟩ : ∃ n, (fam j).words.length = n := ⟨_, rfl⟩
      rw [hFF] at q0
      rw [hff] at q1
      rw [hN] at q2 hs
      rw [hL] at q3 hw
      obtain ⟨fn, hfn⟩ : ∃ n, fnOf f = n := ⟨_, rfl⟩
      rw [hfn] at q1
      have FC : Aside0 (∀ w, Calls Try.prog fn #[] w fun e w' => e = .returned (.agg #[.int .i64 (hasF f), .func (.func (putFn f)) #[] #[], .func (.func (getFn f)) #[] #[], .int .u32 (maskF f)]) ∧ Below w.heap.size w w') := ⟨fun w => by rw [← hfn]; exact form_calls f hf10 w⟩
      have FE : Aside0 (∀ w, (callFunc fn #[]).run Try.prog w = .ok (.enter fn #[]) w) := ⟨fun w => by rw [← hfn]; exact form_enters f hf10 w⟩
      have HWR : Aside0 (RowI wr (.slice A' L c') (fam j).words) := ⟨hw⟩
      have HL : Aside0 ((fam j).words.length = L ∧ (fam j).form = f ∧ j < 18 ∧ L ≤ 10 ∧ (fam j).first = F) := ⟨hL, hff, hj18, by rw [← hL]; exact (fam_bounds j hj18).2.2.1, hFF⟩
      have MB : Aside0 (Go.bits .and .u32 x (maskF f) = maskA f x) := ⟨and_mask f hf10 x HX.out.1 HX.out.2⟩
      clear hw hs hL hff hN hFF hwi hfn
      go_wp2_with fail
      rw [FE.out]
      simp only [Oper.upon]
      refine (FC.out _).mono ?_
      intro e w2 h; obtain ⟨hr1, hb2⟩ := h; subst hr1
      have hz2 : wr.heap.size < w2.heap.size := by have := hb2.size; simp at this; omega
      have hP2 : w2.heap[wr.heap.size]? = some (.cells #[.int .u8 F, .func (.func fn) #[] #[], .slice A N c, .slice A' L c'] 92 (0, 0)) := (hb2.block _ (by simp)).trans (by rw [show ∀ o, (wr.alloc o).heap = wr.heap.push o from fun _ => rfl]; exact Array.getElem?_push_size)
      have HBa : Aside0 (Below wr.heap.size wr w2) := ⟨((Below.refl _ _).alloc (Nat.le_refl _) _).trans (hb2.mono (by simp))⟩
      have p0 := cell_of_block hP2 0
      have p3 := cell_of_block hP2 3
      simp at p0 p3
      have HP2 := Aside0.mk hP2
      have HWR2 : Aside0 (RowI (w2.alloc (Obj.cells #[Value.int IntKind.i64 (hasF f), Value.func (Fn.func (putFn f)) #[] #[], Value.func (Fn.func (getFn f)) #[] #[], Value.int IntKind.u32 (maskF f)] 96)) (.slice A' L c') (fam j).words) := ⟨(HWR.out.below HBa.out).below (below_alloc (Below.refl _ _) _)⟩
      have HB3 : Aside0 (Below wr.heap.size wr (w2.alloc (Obj.cells #[Value.int IntKind.i64 (hasF f), Value.func (Fn.func (putFn f)) #[] #[], Value.func (Fn.func (getFn f)) #[] #[], Value.int IntKind.u32 (maskF f)] 96))) := ⟨HBa.out.alloc HBa.out.size _⟩
      clear hb2 hblk q0 q1 q2 q3 hP2 HWR HBa
      go_wp2
      generalize hW3 : w2.alloc (Obj.cells #[Value.int IntKind.i64 (hasF f), Value.func (Fn.func (putFn f)) #[] #[], Value.func (Fn.func (getFn f)) #[] #[], Value.int IntKind.u32 (maskF f)] 96) = W3 at HB3 HWR2 ⊢
      have hz3 : w2.heap.size < W3.heap.size := by rw [← hW3]; simp
      have s0 : W3.cell? ⟨w2.heap.size, 0, none⟩ = some (.int .i64 (hasF f)) := by rw [← hW3]; simp [go_sem]
      have s2 : W3.cell? ⟨w2.heap.size, 2, none⟩ = some (.func (.func (getFn f)) #[] #[]) := by rw [← hW3]; simp [go_sem]
      have s3 : W3.cell? ⟨w2.heap.size, 3, none⟩ = some (.int .u32 (maskF f)) := by rw [← hW3]; simp [go_sem]
      have t0 : W3.cell? ⟨wr.heap.size, 0, none⟩ = some (.int .u8 F) := by rw [← hW3, World.cell?_alloc_lt _ _ _ hz2]; exact p0
      clear hW3 p0 p3
      go_loopw [22] (fun v22 ws => ∃ i : Nat, v22 = .int .i64 i ∧ Aside0 (W3 = ws) ∧ Aside0 (i ≤ L)) (fun v22 _ => L - (intOf v22).toNat)
      case atStart => exact ⟨0, rfl, ⟨rfl⟩, ⟨Nat.zero_le _⟩⟩
      case round =>
        obtain ⟨i, rfl, hws, HI⟩ := hrel
        obtain ⟨hws⟩ := hws
        subst hws
        by_cases hiL : i < L
        · skip
          have hiw : i < (fam j).words.length := by rw [HL.out.1]; exact hiL
          obtain ⟨A2, c2, hv, hC⟩ := HWR2.out
          obtain ⟨rfl, _, rfl⟩ : A' = A2 ∧ L = (fam j).words.length ∧ c' = c2 := by simpa using hv
          obtain ⟨_, hlen, hcells⟩ := readsI hC
          obtain ⟨ad, had, hcells2⟩ := hcells (Nat.lt_of_le_of_lt (Nat.zero_le _) hiw)
          subst had
          have hwd := hcells2 i hiw
          obtain ⟨wd, hwd2⟩ : ∃ x, (fam j).words.getD i 0 = x := ⟨_, rfl⟩
          rw [hwd2] at hwd
          have hil : (i : Int) < (L : Int) := by omega
          have hb : (Go.bits .and .u32 x (maskF f) != wd) = true := by
            have h := HN.out (j, i) (mem_pairs HL.out.2.2.1 hiw)
            rw [MB.out, ← hwd2]
            have hfm : (fam j).form = f := HL.out.2.1
            rw [← hfm]
            simp only [hitB, formP, wordP, beq_eq_false_iff_ne, ne_eq] at h
            simpa using h
          clear hcells hcells2 hC hv
          go_wp2
          refine ⟨⟨i + 1, by go_num, ⟨by first | exact trivial | rfl⟩, ⟨by omega⟩⟩, by simp [intOf]; omega⟩
        · have hiL2 : i = L := by have := HI.out; omega
          subst hiL2
          go_wp2
          refine ⟨⟨j + 1, by go_num, ⟨hj18⟩, ⟨hF.out.below HB3.out⟩, ⟨hB.out.trans (HB3.out.mono (by have := hW.out.2; omega))⟩, ⟨⟨(HB3.out.block _ (by have := hW.out.2; omega)).trans hW.out.1, by have := hW.out.2; have := HB3.out.size; omega⟩⟩⟩, by simp [intOf]; omega⟩
    · have e : j = 18 := by have := HJ.out; omega
      subst e
      obtain ⟨hblk, hz⟩ := hW.out
      have hlt : w.heap.size < wr.heap.size := by omega
      have c0 := cell_of_block hblk 0
      have c1 := cell_of_block hblk 1
      have c2 := cell_of_block hblk 2
      have c3 := cell_of_block hblk 3
      have c4 := cell_of_block hblk 4
      simp at c0 c1 c2 c3 c4
      have f0 := free_of_block hblk 0
      have f1 := free_of_block hblk 1
      have f2 := free_of_block hblk 2
      have f3 := free_of_block hblk 3
      have f4 := free_of_block hblk 4
      clear hblk
      go_wp2
      refine bodyPost_ret (v := .tuple #[.agg #[.int .u8 0, .int .u8 0, .int .u8 0, .int .u8 0, .int .i32 0], .int .i64 5]) (by simp [results, Try.results23, go_sem, hlt, c0, c1, c2, c3, c4, f0, f1, f2, f3, f4]) rfl ⟨rfl, ?_⟩
      first
      | exact (((((hB.out.setCell (Nat.le_refl _) _).setCell (Nat.le_refl _) _).setCell (Nat.le_refl _) _).setCell (Nat.le_refl _) _).setCell (Nat.le_refl _) _)
      | exact below_drew (((((hB.out.setCell (Nat.le_refl _) _).setCell (Nat.le_refl _) _).setCell (Nat.le_refl _) _).setCell (Nat.le_refl _) _).setCell (Nat.le_refl _) _)

set_option maxHeartbeats 16000000 in
set_option maxRecDepth 100000 in
theorem get_hit (k i0 : Nat) (hk : k < 18) (hi0 : i0 < (fam k).words.length) (x : Int) (h0 : 0 ≤ x) (h1 : x < 4294967296) (hit : hitB x (k, i0) = true) (w : World) : Calls Try.prog 23 #[.int .u32 x] w
    fun e w' => e = .returned (getV (if goodB (k, i0) x then (decS (k, i0) x, 0) else (⟨0, 0, 0, 0, 0⟩, 5))) ∧ Below w.heap.size w w' := by
  have HX : Aside0 (0 ≤ x ∧ x < 4294967296) := ⟨h0, h1⟩
  have HK : Aside0 (k < 18 ∧ i0 < (fam k).words.length) := ⟨hk, hi0⟩
  have HN : Aside0 (∀ p ∈ pairs, p ≠ (k, i0) → hitB x p = false) := ⟨fun p hp hne => by
    cases h : hitB x p with
    | false => rfl
    | true => exact absurd (hit_one hp (mem_pairs hk hi0) h0 h1 h hit) hne⟩
  have HIT := Aside0.mk hit
  obtain ⟨r, hr⟩ : ∃ r, (if goodB (k, i0) x then (decS (k, i0) x, (0 : Int)) else (⟨0, 0, 0, 0, 0⟩, 5)) = r := ⟨_, rfl⟩
  rw [hr]
  have HR := Aside0.mk hr
  clear hr
  clear hit hk hi0
  go_enter Try.func23, Try.ntmps23
  go_wp2_with fail
  refine (families_calls _).mono ?_
  rintro e w1 ⟨v, rfl, hF, hb⟩
  have hsz := hb.size
  have hz : w.heap.size + 1 ≤ w1.heap.size := by simpa using hsz
  have hblk := hb.block w.heap.size (by simp)
  have hblk2 : w1.heap[w.heap.size]? = some (.cells #[Value.int IntKind.u8 0, Value.int IntKind.u8 0, Value.int IntKind.u8 0, Value.int IntKind.u8 0, Value.int IntKind.i32 0] 74 (0, 0)) := hblk.trans (by rw [show ∀ o, (w.alloc o).heap = w.heap.push o from fun _ => rfl]; exact Array.getElem?_push_size)
  clear hblk
  obtain ⟨g, rfl, hF2⟩ := hF
  have hF : Aside0 (FamsAt w1 (.slice (some ⟨g, 0, none⟩) 18 18)) := ⟨⟨g, rfl, hF2⟩⟩
  have hB : Aside0 (Below w.heap.size w w1) := ⟨((Below.refl _ _).alloc (Nat.le_refl _) _).trans (hb.mono (by simp))⟩
  have hW : Aside0 (w1.heap[w.heap.size]? = some (.cells #[Value.int IntKind.u8 0, Value.int IntKind.u8 0, Value.int IntKind.u8 0, Value.int IntKind.u8 0, Value.int IntKind.i32 0] 74 (0, 0)) ∧ w.heap.size + 1 ≤ w1.heap.size) := ⟨hblk2, hz⟩
  clear hblk2 hz hsz hb hF2
  go_wp2
  go_loopw [12] (fun v12 wr => ∃ j : Nat, v12 = .int .i64 j ∧ Aside0 (j ≤ k) ∧ Aside0 (FamsAt wr (.slice (some ⟨g, 0, none⟩) 18 18)) ∧ Aside0 (Below w.heap.size w wr) ∧ Aside0 (wr.heap[w.heap.size]? = some (.cells #[Value.int IntKind.u8 0, Value.int IntKind.u8 0, Value.int IntKind.u8 0, Value.int IntKind.u8 0, Value.int IntKind.i32 0] 74 (0, 0)) ∧ w.heap.size + 1 ≤ wr.heap.size)) (fun v12 _ => 18 - (intOf v12).toNat)
  case atStart => exact ⟨0, rfl, ⟨Nat.zero_le _⟩, hF, hB, hW⟩
  case round =>
    clear hF hB hW
    obtain ⟨j, rfl, HJ, hF, hB, hW⟩ := hrel
    have hj18 : j < 18 := by have := HJ.out; have := HK.out.1; omega
    · skip
      obtain ⟨A, c, A', c', q0, q1, q2, q3, hs, hw⟩ := hF.out.get j hj18
      have hglt := hF.out.lt
      obtain ⟨hblk, hz⟩ := hW.out
      have hwi := words_in (j, 0) (mem_pairs hj18 (fam_bounds j hj18).2.2.2.1)
      obtain ⟨f, hff⟩ : ∃ f, (fam j).form = f := ⟨_, rfl⟩
      have hf10 : f < 10 := by rw [← hff]; exact hwi.1
      obtain ⟨F, hFF⟩ : ∃ F, (fam j).first = F := ⟨_, rfl⟩
      obtain ⟨N, hN⟩ : ∃ n, (fam j).names.length = n := ⟨_, rfl⟩
      obtain ⟨L, hL⟩ : ∃ n, (fam j).words.length = n := ⟨_, rfl⟩
      rw [hFF] at q0
      rw [hff] at q1
      rw [hN] at q2 hs
      rw [hL] at q3 hw
      obtain ⟨fn, hfn⟩ : ∃ n, fnOf f = n := ⟨_, rfl⟩
      rw [hfn] at q1
      have FC : Aside0 (∀ w, Calls Try.prog fn #[] w fun e w' => e = .returned (.agg #[.int .i64 (hasF f), .func (.func (putFn f)) #[] #[], .func (.func (getFn f)) #[] #[], .int .u32 (maskF f)]) ∧ Below w.heap.size w w') := ⟨fun w => by rw [← hfn]; exact form_calls f hf10 w⟩
      have FE : Aside0 (∀ w, (callFunc fn #[]).run Try.prog w = .ok (.enter fn #[]) w) := ⟨fun w => by rw [← hfn]; exact form_enters f hf10 w⟩
      have HWR : Aside0 (RowI wr (.slice A' L c') (fam j).words) := ⟨hw⟩
      have HL : Aside0 ((fam j).words.length = L ∧ (fam j).form = f ∧ j < 18 ∧ L ≤ 10 ∧ (fam j).first = F) := ⟨hL, hff, hj18, by rw [← hL]; exact (fam_bounds j hj18).2.2.1, hFF⟩
      have MB : Aside0 (Go.bits .and .u32 x (maskF f) = maskA f x) := ⟨and_mask f hf10 x HX.out.1 HX.out.2⟩
      clear hw hs hL hff hN hFF hwi hfn
      go_wp2_with fail
      rw [FE.out]
      simp only [Oper.upon]
      refine (FC.out _).mono ?_
      intro e w2 h; obtain ⟨hr1, hb2⟩ := h; subst hr1
      have hz2 : wr.heap.size < w2.heap.size := by have := hb2.size; simp at this; omega
      have hP2 : w2.heap[wr.heap.size]? = some (.cells #[.int .u8 F, .func (.func fn) #[] #[], .slice A N c, .slice A' L c'] 92 (0, 0)) := (hb2.block _ (by simp)).trans (by rw [show ∀ o, (wr.alloc o).heap = wr.heap.push o from fun _ => rfl]; exact Array.getElem?_push_size)
      have HBa : Aside0 (Below wr.heap.size wr w2) := ⟨((Below.refl _ _).alloc (Nat.le_refl _) _).trans (hb2.mono (by simp))⟩
      have p0 := cell_of_block hP2 0
      have p3 := cell_of_block hP2 3
      simp at p0 p3
      have HP2 := Aside0.mk hP2
      have HWR2 : Aside0 (RowI (w2.alloc (Obj.cells #[Value.int IntKind.i64 (hasF f), Value.func (Fn.func (putFn f)) #[] #[], Value.func (Fn.func (getFn f)) #[] #[], Value.int IntKind.u32 (maskF f)] 96)) (.slice A' L c') (fam j).words) := ⟨(HWR.out.below HBa.out).below (below_alloc (Below.refl _ _) _)⟩
      have HB3 : Aside0 (Below wr.heap.size wr (w2.alloc (Obj.cells #[Value.int IntKind.i64 (hasF f), Value.func (Fn.func (putFn f)) #[] #[], Value.func (Fn.func (getFn f)) #[] #[], Value.int IntKind.u32 (maskF f)] 96))) := ⟨HBa.out.alloc HBa.out.size _⟩
      clear hb2 hblk q0 q1 q2 q3 hP2 HWR HBa
      go_wp2
      generalize hW3 : w2.alloc (Obj.cells #[Value.int IntKind.i64 (hasF f), Value.func (Fn.func (putFn f)) #[] #[], Value.func (Fn.func (getFn f)) #[] #[], Value.int IntKind.u32 (maskF f)] 96) = W3 at HB3 HWR2 ⊢
      have hz3 : w2.heap.size < W3.heap.size := by rw [← hW3]; simp
      have s0 : W3.cell? ⟨w2.heap.size, 0, none⟩ = some (.int .i64 (hasF f)) := by rw [← hW3]; simp [go_sem]
      have s2 : W3.cell? ⟨w2.heap.size, 2, none⟩ = some (.func (.func (getFn f)) #[] #[]) := by rw [← hW3]; simp [go_sem]
      have s3 : W3.cell? ⟨w2.heap.size, 3, none⟩ = some (.int .u32 (maskF f)) := by rw [← hW3]; simp [go_sem]
      have t0 : W3.cell? ⟨wr.heap.size, 0, none⟩ = some (.int .u8 F) := by rw [← hW3, World.cell?_alloc_lt _ _ _ hz2]; exact p0
      clear hW3 p0 p3
      go_loopw [22] (fun v22 ws => ∃ i : Nat, v22 = .int .i64 i ∧ Aside0 (W3 = ws) ∧ Aside0 (i ≤ L ∧ (j = k → i ≤ i0))) (fun v22 _ => L - (intOf v22).toNat)
      case atStart => exact ⟨0, rfl, ⟨rfl⟩, ⟨Nat.zero_le _, fun _ => Nat.zero_le _⟩⟩
      case round =>
        obtain ⟨i, rfl, hws, HI⟩ := hrel
        obtain ⟨hws⟩ := hws
        subst hws
        by_cases hiL : i < L
        · skip
          have hiw : i < (fam j).words.length := by rw [HL.out.1]; exact hiL
          obtain ⟨A2, c2, hv, hC⟩ := HWR2.out
          obtain ⟨rfl, _, rfl⟩ : A' = A2 ∧ L = (fam j).words.length ∧ c' = c2 := by simpa using hv
          obtain ⟨_, hlen, hcells⟩ := readsI hC
          obtain ⟨ad, had, hcells2⟩ := hcells (Nat.lt_of_le_of_lt (Nat.zero_le _) hiw)
          subst had
          have hwd := hcells2 i hiw
          obtain ⟨wd, hwd2⟩ : ∃ x, (fam j).words.getD i 0 = x := ⟨_, rfl⟩
          rw [hwd2] at hwd
          have hil : (i : Int) < (L : Int) := by omega
          by_cases hh : j = k ∧ i = i0
          · obtain ⟨rfl, rfl⟩ := hh
            have hb : (Go.bits .and .u32 x (maskF f) != wd) = false := by
              have h := HIT.out
              rw [MB.out, ← hwd2]
              have hfm : (fam j).form = f := HL.out.2.1
              rw [← hfm]
              simp only [hitB, formP, wordP, beq_iff_eq] at h
              simpa using h
            have hff : formP (j, i) = f := HL.out.2.1
            have hop : (F + i) % 256 = opP (j, i) ∧ F + i = opP (j, i) ∧ 0 ≤ F ∧ F < 256 := by
              have h := (words_in (j, i) (mem_pairs HL.out.2.2.1 hiw)).2.2.2.2
              have e : opP (j, i) = F + i := by rw [← HL.out.2.2.2.2]; rfl
              have h2 := fam_bounds j HL.out.2.2.1
              have h3 := HL.out.2.2.2.2
              rw [e] at h ⊢; omega
            have hilt : i ≤ 10 := by have := HL.out.2.2.2.1; omega
            have HOP := Aside0.mk hop
            have hh1 : (Go.bits .and .i64 (hasF f) 1 != 0) = hRd f := (has_bits f hf10).1
            have hh2 : (Go.bits .and .i64 (hasF f) 2 != 0) = hRs1 f := (has_bits f hf10).2.1
            have hh3 : (Go.bits .and .i64 (hasF f) 4 != 0) = hRs2 f := (has_bits f hf10).2.2
            have GE : Aside0 (∀ v w, (callFunc (getFn f) #[v]).run Try.prog w = .ok (.enter (getFn f) #[v]) w) := ⟨fun v w => get_enters f hf10 v w⟩
            have GS : Aside0 (∀ w, Calls Try.prog (getFn f) #[.int .u32 x] w fun e w' => e = .returned (.int .i32 (getF f x)) ∧ w' = w) := ⟨fun w => get_calls_s f hf10 x w h0 h1⟩
            clear hcells hcells2 hC hv hop
            obtain ⟨rdv, hrdv⟩ : ∃ v, rdF f x = v := ⟨_, rfl⟩
            obtain ⟨rav, hrav⟩ : ∃ v, rs1F f x = v := ⟨_, rfl⟩
            obtain ⟨rbv, hrbv⟩ : ∃ v, rs2F f x = v := ⟨_, rfl⟩
            obtain ⟨imv, himv⟩ : ∃ v, getF f x = v := ⟨_, rfl⟩
            rw [himv] at GS
            have T7 : Aside0 (∀ w, Calls Try.prog 32 #[.bool (Go.bits .and .i64 (hasF f) 1 != 0), .int .u32 x, .int .u64 7] w fun e w' => e = .returned (.int .u8 rdv) ∧ w' = w) := ⟨fun w => by rw [hh1, ← hrdv]; exact take_s_7 _ x w h0 h1⟩
            have T15 : Aside0 (∀ w, Calls Try.prog 32 #[.bool (Go.bits .and .i64 (hasF f) 2 != 0), .int .u32 x, .int .u64 15] w fun e w' => e = .returned (.int .u8 rav) ∧ w' = w) := ⟨fun w => by rw [hh2, ← hrav]; exact take_s_15 _ x w h0 h1⟩
            have T20 : Aside0 (∀ w, Calls Try.prog 32 #[.bool (Go.bits .and .i64 (hasF f) 4 != 0), .int .u32 x, .int .u64 20] w fun e w' => e = .returned (.int .u8 rbv) ∧ w' = w) := ⟨fun w => by rw [hh3, ← hrbv]; exact take_s_20 _ x w h0 h1⟩
            obtain ⟨o, ho⟩ : ∃ o, opP (j, i) = o := ⟨_, rfl⟩
            rw [ho] at HOP
            have SP : Aside0 (∀ w, Calls Try.prog 33 #[.agg #[.int .u8 o, .int .u8 rdv, .int .u8 rav, .int .u8 rbv, .int .i32 imv]] w fun e w' => e = .returned (.bool (specB o imv)) ∧ Below w.heap.size w w') := ⟨fun w => special_calls o rdv rav rbv imv w⟩
            have EQ : Aside0 (rdF f x = rdv ∧ rs1F f x = rav ∧ rs2F f x = rbv ∧ getF f x = imv ∧ opP (j, i) = o ∧ formP (j, i) = f) := ⟨hrdv, hrav, hrbv, himv, ho, hff⟩
            have hi8 : (i : Int) % 256 = i := by omega
            have hop2 : IntKind.u8.wrap (F + IntKind.u8.wrap (i : Int)) = o := by rw [IntKind.wrap_u8, IntKind.wrap_u8, hi8]; exact HOP.out.1
            clear hh1 hh2 hh3 hrdv hrav hrbv himv ho hff
            go_wp2_with (fail)
            have hz9 : wr.heap.size < W3.heap.size := by have := HB3.out.size; omega
            refine Lone.wp_region_lone 28 84 (oX := { dst := some 9, op := Op.alloc 74, type := 0, pos := "instr.go:215", after := #[], guard := none }) (px := .pointer (some ⟨W3.heap.size, 0, none⟩)) (W := W3.drew) (W' := W3.drew.alloc (Obj.cells #[Value.int IntKind.u8 0, Value.int IntKind.u8 0, Value.int IntKind.u8 0, Value.int IntKind.u8 0, Value.int IntKind.i32 0] 74)) (fun ws => ws.cell? ⟨w2.heap.size, 0, none⟩ = some (.int .i64 (hasF f)) ∧ ws.cell? ⟨w2.heap.size, 2, none⟩ = some (.func (.func (getFn f)) #[] #[]) ∧ ws.cell? ⟨wr.heap.size, 0, none⟩ = some (.int .u8 F)) ?A (by kernel_rfl) (by kernel_rfl) rfl rfl rfl rfl rfl (fun a => by go_simp) ⟨s0, s2, t0⟩ ⟨by rw [World.cell?_alloc_lt _ _ _ hz3]; exact s0, by rw [World.cell?_alloc_lt _ _ _ hz3]; exact s2, by rw [World.cell?_alloc_lt _ _ _ hz9]; exact t0⟩ ?hs ?_
            case hs =>
              intro ws hws
              obtain ⟨e0, e2, e3⟩ := hws
              simp only [List.take_succ_cons, List.take_zero]
              repeat still_step
              still_call (T7.out _)
              repeat still_step
              still_call (T15.out _)
              repeat still_step
              still_call (T20.out _)
              repeat still_step
              refine wpStill_step (fun K hK => ?_)
              go_simp
              rw [GE.out]
              simp only [Oper.stillUpon]
              refine ⟨trivial, _, GS.out _, hK _ ?_⟩
              clear hK K
              repeat still_step
              refine wpStill_nil ?_
              exact rfl
            have hW5 : Aside0 (W3.heap[w.heap.size]? = some (.cells #[Value.int IntKind.u8 0, Value.int IntKind.u8 0, Value.int IntKind.u8 0, Value.int IntKind.u8 0, Value.int IntKind.i32 0] 74 (0, 0)) ∧ w.heap.size < W3.heap.size) := ⟨(HB3.out.block _ (by have := hW.out.2; omega)).trans hW.out.1, by have := hW.out.2; omega⟩
            have HB0 : Aside0 (Below w.heap.size w W3) := ⟨hB.out.trans (HB3.out.mono (by have := hW.out.2; omega))⟩
            clear GE GS T7 T15 T20 FC FE MB HWR2 HP2 hwd2 hb s0 s2 s3 t0 hF hB hop2 hi8 hilt
            iterate 2 go_step
            generalize hG : (W3.alloc (Obj.cells #[Value.int IntKind.u8 o, Value.int IntKind.u8 rdv, Value.int IntKind.u8 rav, Value.int IntKind.u8 rbv, Value.int IntKind.i32 imv] 74)).drew = W5
            have HBW5 : Aside0 (Below W3.heap.size W3 W5) := ⟨by rw [← hG]; exact below_drew (below_alloc (Below.refl _ _) _)⟩
            have hz5 : W3.heap.size < W5.heap.size := by rw [← hG]; simp
            have d0 : W5.cell? ⟨W3.heap.size, 0, none⟩ = some (.int .u8 o) := by rw [← hG]; simp [go_sem]
            have d1 : W5.cell? ⟨W3.heap.size, 1, none⟩ = some (.int .u8 rdv) := by rw [← hG]; simp [go_sem]
            have d2 : W5.cell? ⟨W3.heap.size, 2, none⟩ = some (.int .u8 rav) := by rw [← hG]; simp [go_sem]
            have d3 : W5.cell? ⟨W3.heap.size, 3, none⟩ = some (.int .u8 rbv) := by rw [← hG]; simp [go_sem]
            have d4 : W5.cell? ⟨W3.heap.size, 4, none⟩ = some (.int .i32 imv) := by rw [← hG]; simp [go_sem]
            have hb5 : W5.heap[w.heap.size]? = some (.cells #[Value.int IntKind.u8 0, Value.int IntKind.u8 0, Value.int IntKind.u8 0, Value.int IntKind.u8 0, Value.int IntKind.i32 0] 74 (0, 0)) := (HBW5.out.block _ hW5.out.2).trans hW5.out.1
            have hlt : w.heap.size < W5.heap.size := by have := hW5.out.2; omega
            have HB05 : Aside0 (Below w.heap.size w W5) := ⟨HB0.out.trans (HBW5.out.mono (Nat.le_of_lt hW5.out.2))⟩
            clear hG
            have hg : goodB (j, i) x = (decide (rdv ≤ 15) && decide (rav ≤ 15) && decide (rbv ≤ 15) && specB o imv) := by
              obtain ⟨q1, q2, q3, q4, q5, q6⟩ := EQ.out
              unfold goodB regsB
              rw [q6, q5, q1, q2, q3, q4]
            have HG := Aside0.mk hg
            have HDEC : Aside0 (decS (j, i) x = ⟨o, rdv, rav, rbv, imv⟩) := ⟨by
              obtain ⟨q1, q2, q3, q4, q5, q6⟩ := EQ.out
              unfold decS
              rw [q6, q5, q1, q2, q3, q4]⟩
            clear hg
            have HB5 := Aside0.mk hb5
            clear hb5
            by_cases g1 : rdv ≤ 15
            · have t1 : decide (15 < rdv) = false := decide_eq_false (by omega)
              by_cases g2 : rav ≤ 15
              · have t2 : decide (15 < rav) = false := decide_eq_false (by omega)
                by_cases g3 : rbv ≤ 15
                · have t3 : decide (15 < rbv) = false := decide_eq_false (by omega)
                  obtain ⟨sp, hsp⟩ : ∃ b, specB o imv = b := ⟨_, rfl⟩
                  rw [hsp] at SP
                  have HSP := Aside0.mk hsp
                  clear hsp
                  go_wp2_with (fail)
                  refine (SP.out _).mono ?_
                  intro e w10 h; obtain ⟨hr10, hb10⟩ := h; subst hr10
                  have hlt10 : w.heap.size < w10.heap.size := Nat.lt_of_lt_of_le hlt hb10.size
                  have HB10 : Aside0 (Below w.heap.size w w10) := ⟨HB05.out.trans (hb10.mono (Nat.le_of_lt hlt))⟩
                  have k0 : w10.cell? ⟨W3.heap.size, 0, none⟩ = some (.int .u8 o) := (hb10.cell (p := ⟨W3.heap.size, 0, none⟩) hz5).trans d0
                  have k1 : w10.cell? ⟨W3.heap.size, 1, none⟩ = some (.int .u8 rdv) := (hb10.cell (p := ⟨W3.heap.size, 1, none⟩) hz5).trans d1
                  have k2 : w10.cell? ⟨W3.heap.size, 2, none⟩ = some (.int .u8 rav) := (hb10.cell (p := ⟨W3.heap.size, 2, none⟩) hz5).trans d2
                  have k3 : w10.cell? ⟨W3.heap.size, 3, none⟩ = some (.int .u8 rbv) := (hb10.cell (p := ⟨W3.heap.size, 3, none⟩) hz5).trans d3
                  have k4 : w10.cell? ⟨W3.heap.size, 4, none⟩ = some (.int .i32 imv) := (hb10.cell (p := ⟨W3.heap.size, 4, none⟩) hz5).trans d4
                  have hb510 : w10.heap[w.heap.size]? = some (.cells #[Value.int IntKind.u8 0, Value.int IntKind.u8 0, Value.int IntKind.u8 0, Value.int IntKind.u8 0, Value.int IntKind.i32 0] 74 (0, 0)) := (hb10.block _ hlt).trans HB5.out
                  have HB510 := Aside0.mk hb510
                  clear hb10 hb510 d0 d1 d2 d3 d4
                  simp only []
                  cases sp with
                  | false =>
                    have c0 := cell_of_block HB510.out 0
                    have c1 := cell_of_block HB510.out 1
                    have c2 := cell_of_block HB510.out 2
                    have c3 := cell_of_block HB510.out 3
                    have c4 := cell_of_block HB510.out 4
                    simp at c0 c1 c2 c3 c4
                    have f0 := free_of_block HB510.out 0
                    have f1 := free_of_block HB510.out 1
                    have f2 := free_of_block HB510.out 2
                    have f3 := free_of_block HB510.out 3
                    have f4 := free_of_block HB510.out 4
                    go_wp2
                    refine bodyPost_ret (v := .tuple #[.agg #[.int .u8 0, .int .u8 0, .int .u8 0, .int .u8 0, .int .i32 0], .int .i64 5]) (by simp [results, Try.results23, go_sem, hlt10, c0, c1, c2, c3, c4, f0, f1, f2, f3, f4]) rfl ⟨?_, ?_⟩
                    · rw [← HR.out, HG.out, HSP.out, Bool.and_false]; rfl
                    · first
                      | exact (((((HB10.out.setCell (Nat.le_refl _) _).setCell (Nat.le_refl _) _).setCell (Nat.le_refl _) _).setCell (Nat.le_refl _) _).setCell (Nat.le_refl _) _)
                      | exact below_drew (((((HB10.out.setCell (Nat.le_refl _) _).setCell (Nat.le_refl _) _).setCell (Nat.le_refl _) _).setCell (Nat.le_refl _) _).setCell (Nat.le_refl _) _)
                  | true =>
                    have c0 := cell_of_block HB510.out 0
                    have c1 := cell_of_block HB510.out 1
                    have c2 := cell_of_block HB510.out 2
                    have c3 := cell_of_block HB510.out 3
                    have c4 := cell_of_block HB510.out 4
                    simp at c0 c1 c2 c3 c4
                    have f0 := free_of_block HB510.out 0
                    have f1 := free_of_block HB510.out 1
                    have f2 := free_of_block HB510.out 2
                    have f3 := free_of_block HB510.out 3
                    have f4 := free_of_block HB510.out 4
                    go_wp2
                    refine bodyPost_ret (v := .tuple #[.agg #[.int .u8 o, .int .u8 rdv, .int .u8 rav, .int .u8 rbv, .int .i32 imv], .int .i64 0]) (by simp [results, Try.results23, go_sem, hlt10, c0, c1, c2, c3, c4, f0, f1, f2, f3, f4]) rfl ⟨?_, ?_⟩
                    · rw [← HR.out, HG.out, HSP.out, decide_eq_true g1, decide_eq_true g2, decide_eq_true g3, HDEC.out]; rfl
                    · first
                      | exact (((((HB10.out.setCell (Nat.le_refl _) _).setCell (Nat.le_refl _) _).setCell (Nat.le_refl _) _).setCell (Nat.le_refl _) _).setCell (Nat.le_refl _) _)
                      | exact below_drew (((((HB10.out.setCell (Nat.le_refl _) _).setCell (Nat.le_refl _) _).setCell (Nat.le_refl _) _).setCell (Nat.le_refl _) _).setCell (Nat.le_refl _) _)
                · have t3 : decide (15 < rbv) = true := decide_eq_true (by omega)
                  have c0 := cell_of_block HB5.out 0
                  have c1 := cell_of_block HB5.out 1
                  have c2 := cell_of_block HB5.out 2
                  have c3 := cell_of_block HB5.out 3
                  have c4 := cell_of_block HB5.out 4
                  simp at c0 c1 c2 c3 c4
                  have f0 := free_of_block HB5.out 0
                  have f1 := free_of_block HB5.out 1
                  have f2 := free_of_block HB5.out 2
                  have f3 := free_of_block HB5.out 3
                  have f4 := free_of_block HB5.out 4
                  go_wp2
                  refine bodyPost_ret (v := .tuple #[.agg #[.int .u8 0, .int .u8 0, .int .u8 0, .int .u8 0, .int .i32 0], .int .i64 5]) (by simp [results, Try.results23, go_sem, hlt, c0, c1, c2, c3, c4, f0, f1, f2, f3, f4]) rfl ⟨?_, ?_⟩
                  · rw [← HR.out, HG.out, decide_eq_false (show ¬ rbv ≤ 15 by omega), Bool.and_false, Bool.false_and]; rfl
                  · first
                    | exact (((((HB05.out.setCell (Nat.le_refl _) _).setCell (Nat.le_refl _) _).setCell (Nat.le_refl _) _).setCell (Nat.le_refl _) _).setCell (Nat.le_refl _) _)
                    | exact below_drew (((((HB05.out.setCell (Nat.le_refl _) _).setCell (Nat.le_refl _) _).setCell (Nat.le_refl _) _).setCell (Nat.le_refl _) _).setCell (Nat.le_refl _) _)
              · have t2 : decide (15 < rav) = true := decide_eq_true (by omega)
                have c0 := cell_of_block HB5.out 0
                have c1 := cell_of_block HB5.out 1
                have c2 := cell_of_block HB5.out 2
                have c3 := cell_of_block HB5.out 3
                have c4 := cell_of_block HB5.out 4
                simp at c0 c1 c2 c3 c4
                have f0 := free_of_block HB5.out 0
                have f1 := free_of_block HB5.out 1
                have f2 := free_of_block HB5.out 2
                have f3 := free_of_block HB5.out 3
                have f4 := free_of_block HB5.out 4
                go_wp2
                refine bodyPost_ret (v := .tuple #[.agg #[.int .u8 0, .int .u8 0, .int .u8 0, .int .u8 0, .int .i32 0], .int .i64 5]) (by simp [results, Try.results23, go_sem, hlt, c0, c1, c2, c3, c4, f0, f1, f2, f3, f4]) rfl ⟨?_, ?_⟩
                · rw [← HR.out, HG.out, decide_eq_false (show ¬ rav ≤ 15 by omega), Bool.and_false, Bool.false_and, Bool.false_and]; rfl
                · first
                  | exact (((((HB05.out.setCell (Nat.le_refl _) _).setCell (Nat.le_refl _) _).setCell (Nat.le_refl _) _).setCell (Nat.le_refl _) _).setCell (Nat.le_refl _) _)
                  | exact below_drew (((((HB05.out.setCell (Nat.le_refl _) _).setCell (Nat.le_refl _) _).setCell (Nat.le_refl _) _).setCell (Nat.le_refl _) _).setCell (Nat.le_refl _) _)
            · have t1 : decide (15 < rdv) = true := decide_eq_true (by omega)
              have c0 := cell_of_block HB5.out 0
              have c1 := cell_of_block HB5.out 1
              have c2 := cell_of_block HB5.out 2
              have c3 := cell_of_block HB5.out 3
              have c4 := cell_of_block HB5.out 4
              simp at c0 c1 c2 c3 c4
              have f0 := free_of_block HB5.out 0
              have f1 := free_of_block HB5.out 1
              have f2 := free_of_block HB5.out 2
              have f3 := free_of_block HB5.out 3
              have f4 := free_of_block HB5.out 4
              go_wp2
              refine bodyPost_ret (v := .tuple #[.agg #[.int .u8 0, .int .u8 0, .int .u8 0, .int .u8 0, .int .i32 0], .int .i64 5]) (by simp [results, Try.results23, go_sem, hlt, c0, c1, c2, c3, c4, f0, f1, f2, f3, f4]) rfl ⟨?_, ?_⟩
              · rw [← HR.out, HG.out, decide_eq_false (show ¬ rdv ≤ 15 by omega), Bool.false_and, Bool.false_and, Bool.false_and]; rfl
              · first
                | exact (((((HB05.out.setCell (Nat.le_refl _) _).setCell (Nat.le_refl _) _).setCell (Nat.le_refl _) _).setCell (Nat.le_refl _) _).setCell (Nat.le_refl _) _)
                | exact below_drew (((((HB05.out.setCell (Nat.le_refl _) _).setCell (Nat.le_refl _) _).setCell (Nat.le_refl _) _).setCell (Nat.le_refl _) _).setCell (Nat.le_refl _) _)
          · have hb : (Go.bits .and .u32 x (maskF f) != wd) = true := by
              have h := HN.out (j, i) (mem_pairs HL.out.2.2.1 hiw) (fun e => hh (by simpa using e))
              rw [MB.out, ← hwd2]
              have hfm : (fam j).form = f := HL.out.2.1
              rw [← hfm]
              simp only [hitB, formP, wordP, beq_eq_false_iff_ne, ne_eq] at h
              simpa using h
            clear hcells hcells2 hC hv
            go_wp2
            refine ⟨⟨i + 1, by go_num, ⟨by first | exact trivial | rfl⟩, ⟨by omega, fun e => by have := HI.out.2 e; have := fun q => hh ⟨e, q⟩; omega⟩⟩, by simp [intOf]; omega⟩
        · have hiL2 : i = L := by have := HI.out.1; omega
          subst hiL2
          have hjk : j < k := by
            have h1 := HJ.out
            rcases Nat.lt_or_ge j k with h | h
            · exact h
            · have e : j = k := by omega
              have h2 := HI.out.2 e
              have h3 := HK.out.2
              have h4 := HL.out.1
              rw [e] at h4
              omega
          go_wp2
          refine ⟨⟨j + 1, by go_num, ⟨hjk⟩, ⟨hF.out.below HB3.out⟩, ⟨hB.out.trans (HB3.out.mono (by have := hW.out.2; omega))⟩, ⟨⟨(HB3.out.block _ (by have := hW.out.2; omega)).trans hW.out.1, by have := hW.out.2; have := HB3.out.size; omega⟩⟩⟩, by simp [intOf]; omega⟩

theorem get_calls (x : Int) (h0 : 0 ≤ x) (h1 : x < 4294967296) (w : World) : Calls Try.prog 23 #[.int .u32 x] w fun e w' => e = .returned (getV (getS x)) ∧ Below w.heap.size w w' := by
  by_cases h : ∃ p ∈ pairs, hitB x p = true
  · obtain ⟨⟨k, i⟩, hp, hh⟩ := h
    obtain ⟨hk, hi⟩ := of_pairs hp
    rw [getS_hit hp h0 h1 hh]
    exact get_hit k i hk hi x h0 h1 hh w
  · have hn : ∀ p ∈ pairs, hitB x p = false := fun p hp => by
      cases g : hitB x p with
      | false => rfl
      | true => exact absurd ⟨p, hp, g⟩ h
    rw [getS_none hn]
    exact get_none x h0 h1 hn w
end Go.Proofs.Ytadbonmkockakaa.Ins
