/- What instr.Put hands back of any instruction: putS. No condition beyond the kinds' bounds. -/
import Derived.Test.YtchkjfokoenlnaaDoorQInsG0
import Derived.StillTailTactics
import Derived.Deep.QuietTactic
import Derived.BigQuiet
namespace Go.Proofs.YtchkjfokoenlnaaDoor.Ins
open Go.RowKit Go.Proofs.YtchkjfokoenlnaaDoorW.PrintWords Go.Proofs.YtchkjfokoenlnaaDoorW.PrintLast Go.Proofs.YtchkjfokoenlnaaDoor.InsP
set_option linter.unusedVariables false
set_option linter.unusedSimpArgs false
/-- The value of a word and its error. -/
def putV (r : Int × Int) : Value := .tuple #[.int .u32 r.1, .int .i64 r.2]
theorem put_enters (f : Nat) (hf : f < 10) (x : Value) (w : World) : (callFunc (putFn f) #[x]).run Tryd.prog w = .ok (.enter (putFn f) #[x]) w := by
  rcases forms10 hf with g | g | g | g | g | g | g | g | g | g <;> subst g
  · exact call_enters Tryd.func37 (by kernel_rfl) rfl _ _
  · exact call_enters Tryd.func39 (by kernel_rfl) rfl _ _
  · exact call_enters Tryd.func42 (by kernel_rfl) rfl _ _
  · exact call_enters Tryd.func44 (by kernel_rfl) rfl _ _
  · exact call_enters Tryd.func46 (by kernel_rfl) rfl _ _
  · exact call_enters Tryd.func48 (by kernel_rfl) rfl _ _
  · exact call_enters Tryd.func50 (by kernel_rfl) rfl _ _
  · exact call_enters Tryd.func42 (by kernel_rfl) rfl _ _
  · exact call_enters Tryd.func50 (by kernel_rfl) rfl _ _
  · exact call_enters Tryd.func50 (by kernel_rfl) rfl _ _
theorem putF_calls (f : Nat) (hf : f < 10) (n : Int) (w : World) (h0 : 0 ≤ n) (h1 : n < 4294967296) : Calls Tryd.prog (putFn f) #[.int .u32 n] w fun e w' => e = .returned (.int .u32 (putF f n)) ∧ Drawn0 w w' := by
  rcases forms10 hf with g | g | g | g | g | g | g | g | g | g <;> subst g
  · exact clo_74 n w h0 h1
  · exact clo_76 n w h0 h1
  · exact clo_79 n w h0 h1
  · exact clo_81 n w h0 h1
  · exact clo_83 n w h0 h1
  · exact clo_85 n w h0 h1
  · exact clo_87 n w
  · exact clo_79 n w h0 h1
  · exact clo_87 n w
  · exact clo_87 n w
theorem putF_in (f : Nat) (hf : f < 10) (n : Int) (h0 : 0 ≤ n) (h1 : n < 4294967296) : 0 ≤ putF f n ∧ putF f n < 4294967296 := by
  rcases forms10 hf with g | g | g | g | g | g | g | g | g | g <;> subst g <;> simp only [putF] <;> omega
theorem reg_b_7 (b : Bool) (r : Int) (w : World) (h0 : 0 ≤ r) (h1 : r < 256) : Calls Tryd.prog 21 #[.bool b, .int .u8 r, .int .u64 7] w fun e w' => e = .returned (.tuple #[.int .u32 (if b then r * 128 else 0), .bool (regOk b r)]) ∧ Drawn0 w w' := by
  cases b
  · exact reg_no r _ w
  · exact reg_7 r w h0 h1
theorem reg_b_15 (b : Bool) (r : Int) (w : World) (h0 : 0 ≤ r) (h1 : r < 256) : Calls Tryd.prog 21 #[.bool b, .int .u8 r, .int .u64 15] w fun e w' => e = .returned (.tuple #[.int .u32 (if b then r * 32768 else 0), .bool (regOk b r)]) ∧ Drawn0 w w' := by
  cases b
  · exact reg_no r _ w
  · exact reg_15 r w h0 h1
theorem reg_b_20 (b : Bool) (r : Int) (w : World) (h0 : 0 ≤ r) (h1 : r < 256) : Calls Tryd.prog 21 #[.bool b, .int .u8 r, .int .u64 20] w fun e w' => e = .returned (.tuple #[.int .u32 (if b then r * 1048576 else 0), .bool (regOk b r)]) ∧ Drawn0 w w' := by
  cases b
  · exact reg_no r _ w
  · exact reg_20 r w h0 h1

set_option maxHeartbeats 16000000 in
set_option maxRecDepth 100000 in
theorem put_at (k i : Nat) (hk : k < 18) (hi : i < (fam k).words.length) (rd rs1 rs2 imm : Int) (b1 : 0 ≤ rd ∧ rd < 256) (b2 : 0 ≤ rs1 ∧ rs1 < 256) (b3 : 0 ≤ rs2 ∧ rs2 < 256) (b4 : -2147483648 ≤ imm ∧ imm < 2147483648) (w : World) :
    Calls Tryd.prog 15 #[.agg #[.int .u8 ((fam k).first + i), .int .u8 rd, .int .u8 rs1, .int .u8 rs2, .int .i32 imm]] w fun e w' => e = .returned (putV (putS ((fam k).first + i) rd rs1 rs2 imm)) ∧ Below w.heap.size w w' := by
  have hp : (k, i) ∈ pairs := mem_pairs hk hi
  have e := putS_of hp rd rs1 rs2 imm
  obtain ⟨hf10, w0, w1, wm, _⟩ := words_in (k, i) hp
  obtain ⟨f, hf⟩ : ∃ f, (fam k).form = f := ⟨_, rfl⟩
  have hfP : formP (k, i) = f := hf
  rw [hfP] at e wm hf10
  obtain ⟨word, hword⟩ : ∃ x, (fam k).words.getD i 0 = x := ⟨_, rfl⟩
  have hwP : wordP (k, i) = word := hword
  rw [hwP] at e w0 w1 wm
  obtain ⟨o, ho⟩ : ∃ o : Int, (fam k).first + i = o := ⟨_, rfl⟩
  have hoP : opP (k, i) = o := ho
  rw [hoP] at e
  obtain ⟨fn, hfn⟩ : ∃ n, fnOf f = n := ⟨_, rfl⟩
  have OC : ∀ w, Calls Tryd.prog 20 #[.int .u8 o] w fun e w' => ∃ A n c A' n' c', e = .returned (.tuple #[.agg #[.int .u8 (fam k).first, .func (.func fn) #[] #[], .slice A n c, .slice A' n' c'], .int .i64 i, .bool true]) ∧ RowS w' (.slice A n c) (fam k).names ∧ RowI w' (.slice A' n' c') (fam k).words ∧ Below w.heap.size w w' := by
    intro w
    have h := of_yes k i hk hi w
    rw [ho, hf, hfn] at h
    exact h
  obtain ⟨rr, hrr⟩ : ∃ r, putS o rd rs1 rs2 imm = r := ⟨_, rfl⟩
  rw [ho, hrr]
  rw [hrr] at e
  have NO : Aside0 (okS f o rd rs1 rs2 imm = false → .tuple #[.int .u32 0, .int .i64 2] = putV rr) := ⟨fun h => by rw [e, h]; rfl⟩
  have I : (getF f (putF f (imm % 4294967296)) != imm) = !(immOk f imm) := by rw [← imm_is f hf10 imm b4.1 b4.2, Bool.not_not]
  have YES : Aside0 (okS f o rd rs1 rs2 imm = true → .tuple #[.int .u32 (Go.bits .or .u32 (Go.bits .or .u32 (Go.bits .or .u32 (Go.bits .or .u32 word (if hRd f then rd * 128 else 0)) (if hRs1 f then rs1 * 32768 else 0)) (if hRs2 f then rs2 * 1048576 else 0)) (putF f (imm % 4294967296))), .int .i64 0] = putV rr) := ⟨fun h => by
    rw [or_word f hf10 o word rd rs1 rs2 imm w0 w1 wm b1.1 b2.1 b3.1 b4 h, e, h]; rfl⟩
  have GC := Aside0.mk OC
  have HWD := Aside0.mk hword
  have HIX := Aside0.mk hi
  obtain ⟨sp, hsp⟩ : ∃ b, specB o imm = b := ⟨_, rfl⟩
  have SPC : Aside0 (∀ w, Calls Tryd.prog 19 #[.agg #[.int .u8 o, .int .u8 rd, .int .u8 rs1, .int .u8 rs2, .int .i32 imm]] w fun e w' => e = .returned (.bool sp) ∧ Below w.heap.size w w') := ⟨fun w => by rw [← hsp]; exact special_calls o rd rs1 rs2 imm w⟩
  obtain ⟨wv, hwv⟩ : ∃ x : Int, putF f (imm % 4294967296) = x := ⟨_, rfl⟩
  have wb := putF_in f hf10 (imm % 4294967296) (by omega) (by omega)
  rw [hwv] at wb I YES
  obtain ⟨gv, hgv⟩ : ∃ x : Int, getF f wv = x := ⟨_, rfl⟩
  rw [hgv] at I
  obtain ⟨rdv, hrdv⟩ : ∃ x : Int, (if hRd f then rd * 128 else 0) = x := ⟨_, rfl⟩
  obtain ⟨rav, hrav⟩ : ∃ x : Int, (if hRs1 f then rs1 * 32768 else 0) = x := ⟨_, rfl⟩
  obtain ⟨rbv, hrbv⟩ : ∃ x : Int, (if hRs2 f then rs2 * 1048576 else 0) = x := ⟨_, rfl⟩
  rw [hrdv, hrav, hrbv] at YES
  obtain ⟨A, hA⟩ : ∃ b, regOk (hRd f) rd = b := ⟨_, rfl⟩
  obtain ⟨B, hB⟩ : ∃ b, regOk (hRs1 f) rs1 = b := ⟨_, rfl⟩
  obtain ⟨C, hC⟩ : ∃ b, regOk (hRs2 f) rs2 = b := ⟨_, rfl⟩
  obtain ⟨q1, q2, q3⟩ := has_bits f hf10
  have R7 : Aside0 (∀ w, Calls Tryd.prog 21 #[.bool (Go.bits .and .i64 (hasF f) 1 != 0), .int .u8 rd, .int .u64 7] w fun e w' => e = .returned (.tuple #[.int .u32 rdv, .bool A]) ∧ Drawn0 w w') := ⟨fun w => by rw [q1, ← hrdv, ← hA]; exact reg_b_7 _ rd w b1.1 b1.2⟩
  have R15 : Aside0 (∀ w, Calls Tryd.prog 21 #[.bool (Go.bits .and .i64 (hasF f) 2 != 0), .int .u8 rs1, .int .u64 15] w fun e w' => e = .returned (.tuple #[.int .u32 rav, .bool B]) ∧ Drawn0 w w') := ⟨fun w => by rw [q2, ← hrav, ← hB]; exact reg_b_15 _ rs1 w b2.1 b2.2⟩
  have R20 : Aside0 (∀ w, Calls Tryd.prog 21 #[.bool (Go.bits .and .i64 (hasF f) 4 != 0), .int .u8 rs2, .int .u64 20] w fun e w' => e = .returned (.tuple #[.int .u32 rbv, .bool C]) ∧ Drawn0 w w') := ⟨fun w => by rw [q3, ← hrbv, ← hC]; exact reg_b_20 _ rs2 w b3.1 b3.2⟩
  have GP : Aside0 (∀ w, Calls Tryd.prog (putFn f) #[.int .u32 (imm % 4294967296)] w fun e w' => e = .returned (.int .u32 wv) ∧ Drawn0 w w') := ⟨fun w => by rw [← hwv]; exact putF_calls f hf10 _ w (by omega) (by omega)⟩
  have GS : Aside0 (∀ w, Calls Tryd.prog (getFn f) #[.int .u32 wv] w fun e w' => e = .returned (.int .i32 gv) ∧ w' = w) := ⟨fun w => by rw [← hgv]; exact get_calls_s f hf10 wv w wb.1 wb.2⟩
  have PE : Aside0 (∀ v w, (callFunc (putFn f) #[v]).run Tryd.prog w = .ok (.enter (putFn f) #[v]) w) := ⟨fun v w => put_enters f hf10 v w⟩
  have GE : Aside0 (∀ v w, (callFunc (getFn f) #[v]).run Tryd.prog w = .ok (.enter (getFn f) #[v]) w) := ⟨fun v w => get_enters f hf10 v w⟩
  have FC : Aside0 (∀ w, Calls Tryd.prog fn #[] w fun e w' => e = .returned (.agg #[.int .i64 (hasF f), .func (.func (putFn f)) #[] #[], .func (.func (getFn f)) #[] #[], .int .u32 (maskF f)]) ∧ Below w.heap.size w w') := ⟨fun w => by rw [← hfn]; exact form_calls f hf10 w⟩
  have FE : Aside0 (∀ w, (callFunc fn #[]).run Tryd.prog w = .ok (.enter fn #[]) w) := ⟨fun w => by rw [← hfn]; exact form_enters f hf10 w⟩
  have EQS : Aside0 (regOk (hRd f) rd = A ∧ regOk (hRs1 f) rs1 = B ∧ regOk (hRs2 f) rs2 = C ∧ specB o imm = sp ∧ (gv != imm) = !(immOk f imm)) := ⟨hA, hB, hC, hsp, I⟩
  clear ho OC hword hf hk hi hp e hfP hwP hoP hsp hwv hgv hrdv hrav hrbv hA hB hC q1 q2 q3 I wb w0 w1 wm hfn hrr hf10
  obtain ⟨rd0, rd1⟩ := b1
  obtain ⟨ra0, ra1⟩ := b2
  obtain ⟨rb0, rb1⟩ := b3
  obtain ⟨im0, im1⟩ := b4
  go_enter Tryd.func15, Tryd.ntmps15
  go_wp2_with fail
  refine (GC.out _).mono ?_
  rintro e w1 ⟨AA, n, c, A', n', c', rfl, hS1, hI, hb⟩
  have hz := hb.size
  have hz1 : w.heap.size < w1.heap.size := by simp at hz; omega
  have hP : w1.heap[w.heap.size]? = some (.cells #[.int .u8 o, .int .u8 rd, .int .u8 rs1, .int .u8 rs2, .int .i32 imm] 31 (0, 0)) := (hb.block _ (by simp)).trans (by rw [show ∀ o, (w.alloc o).heap = w.heap.push o from fun _ => rfl]; exact Array.getElem?_push_size)
  have hB1 : Below w.heap.size w w1 := ((Below.refl _ _).alloc (Nat.le_refl _) _).trans (hb.mono (by simp))
  have HB := Aside0.mk hB1
  have HI := Aside0.mk hI
  have HP := Aside0.mk hP
  have hc0 := cell_of_block hP 0
  simp at hc0
  clear hb hI hS1 hz hB1 hP
  go_wp2_with fail
  rw [FE.out]
  simp only [Oper.upon]
  refine (FC.out _).mono ?_
  intro e w2 h; obtain ⟨h1, hb⟩ := h; subst h1
  have hz2 : w1.heap.size < w2.heap.size := by have := hb.size; simp at this; omega
  have hlt : w.heap.size < w2.heap.size := by omega
  have hP2 := (hb.block w.heap.size (by simp; omega)).trans (((below_alloc (Below.refl w1.heap.size w1) _).block _ hz1).trans HP.out)
  have hQ2 : w2.heap[w1.heap.size]? = some (.cells #[.int .u8 (fam k).first, .func (.func fn) #[] #[], .slice AA n c, .slice A' n' c'] 62 (0, 0)) := (hb.block _ (by simp)).trans (by rw [show ∀ o, (w1.alloc o).heap = w1.heap.push o from fun _ => rfl]; exact Array.getElem?_push_size)
  have HI2 : Aside0 (RowI w2 (.slice A' n' c') (fam k).words) := ⟨(HI.out.below (below_alloc (Below.refl _ _) _)).below hb⟩
  have HB2 : Aside0 (Below w.heap.size w w2) := ⟨(HB.out.alloc (by omega) _).trans (hb.mono (by simp; omega))⟩
  clear hc0
  have p0 := cell_of_block hP2 0
  have p1 := cell_of_block hP2 1
  have p2 := cell_of_block hP2 2
  have p3 := cell_of_block hP2 3
  have p4 := cell_of_block hP2 4
  have q3 := cell_of_block hQ2 3
  simp at p0 p1 p2 p3 p4 q3
  clear hb HB HI HP hP2 hQ2 GC
  simp only []
  go_wp2_with (first | (go_at_call 21; (first | (with_reducible refine (R7.out _).mono ?_) | (with_reducible refine (R15.out _).mono ?_) | (with_reducible refine (R20.out _).mono ?_)); intro e w' h; obtain ⟨h1, ⟨nq, rfl⟩⟩ := h; subst h1; simp only []))
  rw [PE.out]
  simp only [Oper.upon]
  refine (GP.out _).mono ?_
  intro e w' h; obtain ⟨h1, ⟨nq, rfl⟩⟩ := h; subst h1
  simp only []
  go_wp2_with fail
  cases A
  case false =>
    have hA := EQS.out.1
    go_quiet (fail)
    go_wp2
    go_ret2
    exact ⟨by rw [← NO.out (by simp [okS, hA])]; first | rfl | simp, by repeat (first | exact HB2.out | apply below_drew | apply pw_below_drewN | refine Below.alloc ?_ (Nat.le_of_lt hlt) _)⟩
  cases B
  case false =>
    have hB := EQS.out.2.1
    go_quiet (fail)
    go_wp2
    go_ret2
    exact ⟨by rw [← NO.out (by simp [okS, hB])]; first | rfl | simp, by repeat (first | exact HB2.out | apply below_drew | apply pw_below_drewN | refine Below.alloc ?_ (Nat.le_of_lt hlt) _)⟩
  cases C
  case false =>
    have hC := EQS.out.2.2.1
    go_quiet (fail)
    go_wp2
    go_ret2
    exact ⟨by rw [← NO.out (by simp [okS, hC])]; first | rfl | simp, by repeat (first | exact HB2.out | apply below_drew | apply pw_below_drewN | refine Below.alloc ?_ (Nat.le_of_lt hlt) _)⟩
  generalize hW8 : World.drewN (World.alloc w2 _) _ = W8
  refine wp_region_still_tail 20 (by kernel_rfl) (by kernel_rfl) ?_
  simp only [List.take_succ_cons, List.take_zero, List.drop_succ_cons, List.drop_zero]
  change wpStill _ _ (World.drew W8) (fun a' => wpList _ _ _ _ a' (World.drew W8)) _ _
  generalize hW9 : World.drew W8 = W9
  have hcell : ∀ a, W9.cell? a = (w2.alloc (Obj.cells #[Value.int IntKind.i64 (hasF f), Value.func (Fn.func (putFn f)) #[] #[], Value.func (Fn.func (getFn f)) #[] #[], Value.int IntKind.u32 (maskF f)] 66)).cell? a := by intro a; rw [← hW9, ← hW8]; rfl
  have s2 : W9.cell? ⟨w2.heap.size, 2, none⟩ = some (.func (.func (getFn f)) #[] #[]) := by rw [hcell]; simp [go_sem]
  have r0 : W9.cell? ⟨w.heap.size, 0, none⟩ = some (.int .u8 o) := by rw [hcell, World.cell?_alloc_lt _ _ _ hlt]; exact p0
  have r1 : W9.cell? ⟨w.heap.size, 1, none⟩ = some (.int .u8 rd) := by rw [hcell, World.cell?_alloc_lt _ _ _ hlt]; exact p1
  have r2 : W9.cell? ⟨w.heap.size, 2, none⟩ = some (.int .u8 rs1) := by rw [hcell, World.cell?_alloc_lt _ _ _ hlt]; exact p2
  have r3 : W9.cell? ⟨w.heap.size, 3, none⟩ = some (.int .u8 rs2) := by rw [hcell, World.cell?_alloc_lt _ _ _ hlt]; exact p3
  have r4 : W9.cell? ⟨w.heap.size, 4, none⟩ = some (.int .i32 imm) := by rw [hcell, World.cell?_alloc_lt _ _ _ hlt]; exact p4
  have hB9 : Aside0 (Below w2.heap.size w2 W9) := ⟨by rw [← hW9, ← hW8]; exact below_drew (by repeat (first | exact below_alloc (Below.refl _ _) _ | apply pw_below_drewN))⟩
  clear hcell p0 p1 p2 p3 p4 hW9 hW8
  have HI9 : Aside0 (RowI W9 (.slice A' n' c') (fam k).words) := ⟨HI2.out.below hB9.out⟩
  have hQ9 : Aside0 (W9.cell? ⟨w1.heap.size, 3, none⟩ = some (.slice A' n' c')) := ⟨(hB9.out.cell (p := ⟨w1.heap.size, 3, none⟩) hz2).trans q3⟩
  have hB99 : Aside0 (Below w.heap.size w W9) := ⟨HB2.out.trans (hB9.out.mono (Nat.le_of_lt hlt))⟩
  have hz9 : w1.heap.size < W9.heap.size := Nat.lt_of_lt_of_le hz2 hB9.out.size
  have hz99 : w.heap.size < W9.heap.size := Nat.lt_of_lt_of_le hlt hB9.out.size
  clear q3
  cases hE : (gv != imm)
  all_goals
    repeat still_step
    refine wpStill_step (fun K hK => ?_)
    go_simp
    rw [GE.out]
    simp only [Oper.stillUpon]
    refine ⟨trivial, _, GS.out _, hK _ ?_⟩
    clear hK K
    repeat still_step
    refine wpStill_nil ?_
    clear s2
  case true =>
    have hI : immOk f imm = false := by have := EQS.out.2.2.2.2; rw [hE] at this; simpa using this.symm
    go_wp2
    go_ret2
    exact ⟨by rw [← NO.out (by simp [okS, hI])]; first | rfl | simp, hB99.out⟩
  case false =>
    have hI : immOk f imm = true := by have := EQS.out.2.2.2.2; rw [hE] at this; simpa using this.symm
    go_wp2_with (fail)
    refine (SPC.out _).mono ?_
    intro e w10 h; obtain ⟨h1, hb10⟩ := h; subst h1
    have q10 : w10.cell? ⟨w1.heap.size, 3, none⟩ = some (.slice A' n' c') := pw_cell_below hb10 hQ9.out
    obtain ⟨A2, c2, hv, hC⟩ := HI9.out.below hb10
    obtain ⟨rfl, rfl, rfl⟩ : A' = A2 ∧ n' = (fam k).words.length ∧ c' = c2 := by simpa using hv
    obtain ⟨_, hlen, hcells⟩ := readsI hC
    obtain ⟨ad, had, hcells2⟩ := hcells (Nat.lt_of_le_of_lt (Nat.zero_le _) HIX.out)
    subst had
    have hw := hcells2 i HIX.out
    rw [HWD.out] at hw
    have hil : (i : Int) < ((fam k).words.length : Int) := by have := HIX.out; omega
    clear hcells hcells2 hC
    have hB10 : Aside0 (Below w.heap.size w w10) := ⟨hB99.out.trans (hb10.mono (Nat.le_of_lt hz99))⟩
    clear hb10
    simp only []
    cases sp with
    | false =>
      go_wp2
      go_ret2
      exact ⟨by rw [← NO.out (by simp [okS, EQS.out.2.2.2.1])]; first | rfl | simp, hB10.out⟩
    | true =>
      go_wp2
      go_ret2
      exact ⟨by rw [← YES.out (by simp [okS, EQS.out.1, EQS.out.2.1, EQS.out.2.2.1, EQS.out.2.2.2.1, hI])]; first | rfl | simp, hB10.out⟩
set_option maxHeartbeats 8000000 in
set_option maxRecDepth 100000 in
theorem put_none (o : Int) (h0 : 0 ≤ o) (h1 : o < 256) (ho : o = 0 ∨ 69 ≤ o) (rd rs1 rs2 imm : Int) (w : World) :
    Calls Tryd.prog 15 #[.agg #[.int .u8 o, .int .u8 rd, .int .u8 rs1, .int .u8 rs2, .int .i32 imm]] w fun e w' => e = .returned (.tuple #[.int .u32 0, .int .i64 2]) ∧ Below w.heap.size w w' := by
  have GC : Aside0 (∀ w, Calls Tryd.prog 20 #[.int .u8 o] w fun e w' => e = .returned (.tuple #[.agg #[.int .u8 0, .nilFunc, .slice none 0 0, .slice none 0 0], .int .i64 0, .bool false]) ∧ Below w.heap.size w w') := ⟨of_no o h0 h1 ho⟩
  clear ho
  go_enter Tryd.func15, Tryd.ntmps15
  go_wp2_with fail
  refine (GC.out _).mono ?_
  rintro e w1 ⟨rfl, hb⟩
  have HB : Aside0 (Below w.heap.size w w1) := ⟨((Below.refl _ _).alloc (Nat.le_refl _) _).trans (hb.mono (by simp))⟩
  clear hb
  go_wp2
  go_ret2
  exact ⟨by first | rfl | simp, by first | exact HB.out | (refine Below.alloc ?_ ?_ _; exact HB.out; exact HB.out.size)⟩
theorem put_calls (o rd rs1 rs2 imm : Int) (b0 : 0 ≤ o ∧ o < 256) (b1 : 0 ≤ rd ∧ rd < 256) (b2 : 0 ≤ rs1 ∧ rs1 < 256) (b3 : 0 ≤ rs2 ∧ rs2 < 256) (b4 : -2147483648 ≤ imm ∧ imm < 2147483648) (w : World) :
    Calls Tryd.prog 15 #[.agg #[.int .u8 o, .int .u8 rd, .int .u8 rs1, .int .u8 rs2, .int .i32 imm]] w fun e w' => e = .returned (putV (putS o rd rs1 rs2 imm)) ∧ Below w.heap.size w w' := by
  by_cases ho : o = 0 ∨ 69 ≤ o
  · rw [putS_no ho]; exact put_none o b0.1 b0.2 ho rd rs1 rs2 imm w
  · rcases ops_all o.toNat (by omega) with h | ⟨p, hp, hpo⟩
    · omega
    · obtain ⟨k, i⟩ := p
      obtain ⟨hk, hi⟩ := of_pairs hp
      have e : o = (fam k).first + i := by rw [show o = (o.toNat : Int) from by omega, ← hpo]; rfl
      subst e
      exact put_at k i hk hi rd rs1 rs2 imm b1 b2 b3 b4 w
end Go.Proofs.YtchkjfokoenlnaaDoor.Ins
