/- What instr.Put hands back of an instruction of the form alone, on each of its ways. No condition beyond the kinds' bounds. -/
import Derived.Test.YthkbjoglhfclmaaQInsC
import Derived.Test.YthkbjoglhfclmaaQInsD
import Derived.StillTailTactics
import Derived.Deep.QuietTactic
import Derived.BigQuiet
namespace Go.Proofs.Ythkbjoglhfclmaa.Ins
open Go.RowKit Go.Proofs.YthkbjoglhfclmaaW.PrintWords Go.Proofs.YthkbjoglhfclmaaW.PrintLast Go.Proofs.YthkbjoglhfclmaaW.PrintMore Go.Proofs.Ythkbjoglhfclmaa.Alu Go.Proofs.Ythkbjoglhfclmaa.InsP
set_option linter.unusedVariables false
set_option linter.unusedSimpArgs false

set_option maxHeartbeats 8000000 in
set_option maxRecDepth 100000 in
theorem put_9_1 (k i : Nat) (hk : k < 18) (hi : i < (fam k).words.length) (hf : (fam k).form = 9) (rd rs1 rs2 imm : Int) (b1 : 0 ≤ rd ∧ rd < 256) (b2 : 0 ≤ rs1 ∧ rs1 < 256) (b3 : 0 ≤ rs2 ∧ rs2 < 256) (b4 : -2147483648 ≤ imm ∧ imm < 2147483648)
    (hA : (rd == 0) = false) (w : World) :
    Calls Try.prog 25 #[.agg #[.int .u8 ((fam k).first + i), .int .u8 rd, .int .u8 rs1, .int .u8 rs2, .int .i32 imm]] w fun e w' => e = .returned (.tuple #[.int .u32 0, .int .i64 2]) ∧ Below w.heap.size w w' := by
  obtain ⟨word, hword⟩ : ∃ x, (fam k).words.getD i 0 = x := ⟨_, rfl⟩
  obtain ⟨o, ho⟩ : ∃ o : Int, (fam k).first + i = o := ⟨_, rfl⟩
  have OC : ∀ w, Calls Try.prog 48 #[.int .u8 o] w fun e w' => ∃ A n c A' n' c', e = .returned (.tuple #[.agg #[.int .u8 (fam k).first, .func (.func 73) #[] #[], .slice A n c, .slice A' n' c'], .int .i64 i, .bool true]) ∧ RowS w' (.slice A n c) (fam k).names ∧ RowI w' (.slice A' n' c') (fam k).words ∧ Below w.heap.size w w' := by
    intro w
    have h := of_yes k i hk hi w
    rw [ho, hf] at h
    exact h
  rw [ho]
  have GC := Aside0.mk OC
  have HWD := Aside0.mk hword
  clear ho OC hword hf
  obtain ⟨rd0, rd1⟩ := b1
  obtain ⟨ra0, ra1⟩ := b2
  obtain ⟨rb0, rb1⟩ := b3
  obtain ⟨im0, im1⟩ := b4
  have GP : Aside0 (∀ w, Calls Try.prog 87 #[.int .u32 (imm % 4294967296)] w fun e w' => e = .returned (.int .u32 0) ∧ Drawn0 w w') := ⟨fun w => clo_87 _ w⟩
  have GS : Aside0 (∀ w, Calls Try.prog 88 #[.int .u32 0] w fun e w' => e = .returned (.int .i32 0) ∧ w' = w) := ⟨fun w => (clo_88_s _ w).mono (fun e w' h => ⟨h.1, h.2.symm⟩)⟩
  go_enter Try.func25, Try.ntmps25
  go_wp2_with fail
  refine (GC.out _).mono ?_
  rintro e w1 ⟨A, n, c, A', n', c', rfl, hS1, hI, hb⟩
  have hz := hb.size
  have hz1 : w.heap.size < w1.heap.size := by simp at hz; omega
  have hP : w1.heap[w.heap.size]? = some (.cells #[.int .u8 o, .int .u8 rd, .int .u8 rs1, .int .u8 rs2, .int .i32 imm] 40 (0, 0)) := (hb.block _ (by simp)).trans (by rw [show ∀ o, (w.alloc o).heap = w.heap.push o from fun _ => rfl]; exact Array.getElem?_push_size)
  have hB1 : Below w.heap.size w w1 := ((Below.refl _ _).alloc (Nat.le_refl _) _).trans (hb.mono (by simp))
  have HB := Aside0.mk hB1
  have HI := Aside0.mk hI
  have HP := Aside0.mk hP
  have hc0 := cell_of_block hP 0
  simp at hc0
  clear hb hI hS1 hz hB1 hP
  go_wp2_with fail
  refine (form_alone _).mono ?_
  intro e w2 h; obtain ⟨h1, hb⟩ := h; subst h1
  have hz2 : w1.heap.size < w2.heap.size := by have := hb.size; simp at this; omega
  have hlt : w.heap.size < w2.heap.size := by omega
  have hP2 := (hb.block w.heap.size (by simp; omega)).trans (((below_alloc (Below.refl w1.heap.size w1) _).block _ hz1).trans HP.out)
  have hQ2 : w2.heap[w1.heap.size]? = some (.cells #[.int .u8 (fam k).first, .func (.func 73) #[] #[], .slice A n c, .slice A' n' c'] 69 (0, 0)) := (hb.block _ (by simp)).trans (by rw [show ∀ o, (w1.alloc o).heap = w1.heap.push o from fun _ => rfl]; exact Array.getElem?_push_size)
  have HI2 : Aside0 (RowI w2 (.slice A' n' c') (fam k).words) := ⟨(HI.out.below (below_alloc (Below.refl _ _) _)).below hb⟩
  have HB2 : Aside0 (Below w.heap.size w w2) := ⟨(HB.out.alloc (by omega) _).trans (hb.mono (by simp; omega))⟩
  clear hc0
  have p0 := cell_of_block hP2 0
  have p1 := cell_of_block hP2 1
  have p2 := cell_of_block hP2 2
  have p3 := cell_of_block hP2 3
  have p4 := cell_of_block hP2 4
  have q3 := cell_of_block hQ2 3
  simp at p0 p1 p2 p3 p4 q3
  clear hb HB HI HP hP2 hQ2 GC
  have e1 : Go.bits .and .i64 0 1 = 0 := by decide +kernel
  have e2 : Go.bits .and .i64 0 2 = 0 := by decide +kernel
  have e3 : Go.bits .and .i64 0 4 = 0 := by decide +kernel
  simp only []
  go_wp2_with (first | (go_at_call 49; (first | (with_reducible refine (reg_7 _ _ rd0 rd1).mono ?_) | (with_reducible refine (reg_15 _ _ ra0 ra1).mono ?_) | (with_reducible refine (reg_20 _ _ rb0 rb1).mono ?_) | (with_reducible refine (reg_no _ _ _).mono ?_)); intro e w' h; obtain ⟨h1, ⟨nq, rfl⟩⟩ := h; subst h1; simp only []) | (go_at_call 87; refine (GP.out _).mono ?_; intro e w' h; obtain ⟨h1, ⟨nq, rfl⟩⟩ := h; subst h1; simp only []))
  go_quiet (fail)
  go_wp2
  go_ret2
  exact ⟨by first | rfl | simp, by repeat (first | exact HB2.out | apply below_drew | apply pw_below_drewN | refine Below.alloc ?_ (Nat.le_of_lt hlt) _)⟩

set_option maxHeartbeats 8000000 in
set_option maxRecDepth 100000 in
theorem put_9_2 (k i : Nat) (hk : k < 18) (hi : i < (fam k).words.length) (hf : (fam k).form = 9) (rd rs1 rs2 imm : Int) (b1 : 0 ≤ rd ∧ rd < 256) (b2 : 0 ≤ rs1 ∧ rs1 < 256) (b3 : 0 ≤ rs2 ∧ rs2 < 256) (b4 : -2147483648 ≤ imm ∧ imm < 2147483648)
    (hA : (rd == 0) = true) (hB : (rs1 == 0) = false) (w : World) :
    Calls Try.prog 25 #[.agg #[.int .u8 ((fam k).first + i), .int .u8 rd, .int .u8 rs1, .int .u8 rs2, .int .i32 imm]] w fun e w' => e = .returned (.tuple #[.int .u32 0, .int .i64 2]) ∧ Below w.heap.size w w' := by
  obtain ⟨word, hword⟩ : ∃ x, (fam k).words.getD i 0 = x := ⟨_, rfl⟩
  obtain ⟨o, ho⟩ : ∃ o : Int, (fam k).first + i = o := ⟨_, rfl⟩
  have OC : ∀ w, Calls Try.prog 48 #[.int .u8 o] w fun e w' => ∃ A n c A' n' c', e = .returned (.tuple #[.agg #[.int .u8 (fam k).first, .func (.func 73) #[] #[], .slice A n c, .slice A' n' c'], .int .i64 i, .bool true]) ∧ RowS w' (.slice A n c) (fam k).names ∧ RowI w' (.slice A' n' c') (fam k).words ∧ Below w.heap.size w w' := by
    intro w
    have h := of_yes k i hk hi w
    rw [ho, hf] at h
    exact h
  rw [ho]
  have GC := Aside0.mk OC
  have HWD := Aside0.mk hword
  clear ho OC hword hf
  obtain ⟨rd0, rd1⟩ := b1
  obtain ⟨ra0, ra1⟩ := b2
  obtain ⟨rb0, rb1⟩ := b3
  obtain ⟨im0, im1⟩ := b4
  have GP : Aside0 (∀ w, Calls Try.prog 87 #[.int .u32 (imm % 4294967296)] w fun e w' => e = .returned (.int .u32 0) ∧ Drawn0 w w') := ⟨fun w => clo_87 _ w⟩
  have GS : Aside0 (∀ w, Calls Try.prog 88 #[.int .u32 0] w fun e w' => e = .returned (.int .i32 0) ∧ w' = w) := ⟨fun w => (clo_88_s _ w).mono (fun e w' h => ⟨h.1, h.2.symm⟩)⟩
  go_enter Try.func25, Try.ntmps25
  go_wp2_with fail
  refine (GC.out _).mono ?_
  rintro e w1 ⟨A, n, c, A', n', c', rfl, hS1, hI, hb⟩
  have hz := hb.size
  have hz1 : w.heap.size < w1.heap.size := by simp at hz; omega
  have hP : w1.heap[w.heap.size]? = some (.cells #[.int .u8 o, .int .u8 rd, .int .u8 rs1, .int .u8 rs2, .int .i32 imm] 40 (0, 0)) := (hb.block _ (by simp)).trans (by rw [show ∀ o, (w.alloc o).heap = w.heap.push o from fun _ => rfl]; exact Array.getElem?_push_size)
  have hB1 : Below w.heap.size w w1 := ((Below.refl _ _).alloc (Nat.le_refl _) _).trans (hb.mono (by simp))
  have HB := Aside0.mk hB1
  have HI := Aside0.mk hI
  have HP := Aside0.mk hP
  have hc0 := cell_of_block hP 0
  simp at hc0
  clear hb hI hS1 hz hB1 hP
  go_wp2_with fail
  refine (form_alone _).mono ?_
  intro e w2 h; obtain ⟨h1, hb⟩ := h; subst h1
  have hz2 : w1.heap.size < w2.heap.size := by have := hb.size; simp at this; omega
  have hlt : w.heap.size < w2.heap.size := by omega
  have hP2 := (hb.block w.heap.size (by simp; omega)).trans (((below_alloc (Below.refl w1.heap.size w1) _).block _ hz1).trans HP.out)
  have hQ2 : w2.heap[w1.heap.size]? = some (.cells #[.int .u8 (fam k).first, .func (.func 73) #[] #[], .slice A n c, .slice A' n' c'] 69 (0, 0)) := (hb.block _ (by simp)).trans (by rw [show ∀ o, (w1.alloc o).heap = w1.heap.push o from fun _ => rfl]; exact Array.getElem?_push_size)
  have HI2 : Aside0 (RowI w2 (.slice A' n' c') (fam k).words) := ⟨(HI.out.below (below_alloc (Below.refl _ _) _)).below hb⟩
  have HB2 : Aside0 (Below w.heap.size w w2) := ⟨(HB.out.alloc (by omega) _).trans (hb.mono (by simp; omega))⟩
  clear hc0
  have p0 := cell_of_block hP2 0
  have p1 := cell_of_block hP2 1
  have p2 := cell_of_block hP2 2
  have p3 := cell_of_block hP2 3
  have p4 := cell_of_block hP2 4
  have q3 := cell_of_block hQ2 3
  simp at p0 p1 p2 p3 p4 q3
  clear hb HB HI HP hP2 hQ2 GC
  have e1 : Go.bits .and .i64 0 1 = 0 := by decide +kernel
  have e2 : Go.bits .and .i64 0 2 = 0 := by decide +kernel
  have e3 : Go.bits .and .i64 0 4 = 0 := by decide +kernel
  simp only []
  go_wp2_with (first | (go_at_call 49; (first | (with_reducible refine (reg_7 _ _ rd0 rd1).mono ?_) | (with_reducible refine (reg_15 _ _ ra0 ra1).mono ?_) | (with_reducible refine (reg_20 _ _ rb0 rb1).mono ?_) | (with_reducible refine (reg_no _ _ _).mono ?_)); intro e w' h; obtain ⟨h1, ⟨nq, rfl⟩⟩ := h; subst h1; simp only []) | (go_at_call 87; refine (GP.out _).mono ?_; intro e w' h; obtain ⟨h1, ⟨nq, rfl⟩⟩ := h; subst h1; simp only []))
  go_quiet (fail)
  go_wp2
  go_ret2
  exact ⟨by first | rfl | simp, by repeat (first | exact HB2.out | apply below_drew | apply pw_below_drewN | refine Below.alloc ?_ (Nat.le_of_lt hlt) _)⟩

set_option maxHeartbeats 8000000 in
set_option maxRecDepth 100000 in
theorem put_9_3 (k i : Nat) (hk : k < 18) (hi : i < (fam k).words.length) (hf : (fam k).form = 9) (rd rs1 rs2 imm : Int) (b1 : 0 ≤ rd ∧ rd < 256) (b2 : 0 ≤ rs1 ∧ rs1 < 256) (b3 : 0 ≤ rs2 ∧ rs2 < 256) (b4 : -2147483648 ≤ imm ∧ imm < 2147483648)
    (hA : (rd == 0) = true) (hB : (rs1 == 0) = true) (hC : (rs2 == 0) = false) (w : World) :
    Calls Try.prog 25 #[.agg #[.int .u8 ((fam k).first + i), .int .u8 rd, .int .u8 rs1, .int .u8 rs2, .int .i32 imm]] w fun e w' => e = .returned (.tuple #[.int .u32 0, .int .i64 2]) ∧ Below w.heap.size w w' := by
  obtain ⟨word, hword⟩ : ∃ x, (fam k).words.getD i 0 = x := ⟨_, rfl⟩
  obtain ⟨o, ho⟩ : ∃ o : Int, (fam k).first + i = o := ⟨_, rfl⟩
  have OC : ∀ w, Calls Try.prog 48 #[.int .u8 o] w fun e w' => ∃ A n c A' n' c', e = .returned (.tuple #[.agg #[.int .u8 (fam k).first, .func (.func 73) #[] #[], .slice A n c, .slice A' n' c'], .int .i64 i, .bool true]) ∧ RowS w' (.slice A n c) (fam k).names ∧ RowI w' (.slice A' n' c') (fam k).words ∧ Below w.heap.size w w' := by
    intro w
    have h := of_yes k i hk hi w
    rw [ho, hf] at h
    exact h
  rw [ho]
  have GC := Aside0.mk OC
  have HWD := Aside0.mk hword
  clear ho OC hword hf
  obtain ⟨rd0, rd1⟩ := b1
  obtain ⟨ra0, ra1⟩ := b2
  obtain ⟨rb0, rb1⟩ := b3
  obtain ⟨im0, im1⟩ := b4
  have GP : Aside0 (∀ w, Calls Try.prog 87 #[.int .u32 (imm % 4294967296)] w fun e w' => e = .returned (.int .u32 0) ∧ Drawn0 w w') := ⟨fun w => clo_87 _ w⟩
  have GS : Aside0 (∀ w, Calls Try.prog 88 #[.int .u32 0] w fun e w' => e = .returned (.int .i32 0) ∧ w' = w) := ⟨fun w => (clo_88_s _ w).mono (fun e w' h => ⟨h.1, h.2.symm⟩)⟩
  go_enter Try.func25, Try.ntmps25
  go_wp2_with fail
  refine (GC.out _).mono ?_
  rintro e w1 ⟨A, n, c, A', n', c', rfl, hS1, hI, hb⟩
  have hz := hb.size
  have hz1 : w.heap.size < w1.heap.size := by simp at hz; omega
  have hP : w1.heap[w.heap.size]? = some (.cells #[.int .u8 o, .int .u8 rd, .int .u8 rs1, .int .u8 rs2, .int .i32 imm] 40 (0, 0)) := (hb.block _ (by simp)).trans (by rw [show ∀ o, (w.alloc o).heap = w.heap.push o from fun _ => rfl]; exact Array.getElem?_push_size)
  have hB1 : Below w.heap.size w w1 := ((Below.refl _ _).alloc (Nat.le_refl _) _).trans (hb.mono (by simp))
  have HB := Aside0.mk hB1
  have HI := Aside0.mk hI
  have HP := Aside0.mk hP
  have hc0 := cell_of_block hP 0
  simp at hc0
  clear hb hI hS1 hz hB1 hP
  go_wp2_with fail
  refine (form_alone _).mono ?_
  intro e w2 h; obtain ⟨h1, hb⟩ := h; subst h1
  have hz2 : w1.heap.size < w2.heap.size := by have := hb.size; simp at this; omega
  have hlt : w.heap.size < w2.heap.size := by omega
  have hP2 := (hb.block w.heap.size (by simp; omega)).trans (((below_alloc (Below.refl w1.heap.size w1) _).block _ hz1).trans HP.out)
  have hQ2 : w2.heap[w1.heap.size]? = some (.cells #[.int .u8 (fam k).first, .func (.func 73) #[] #[], .slice A n c, .slice A' n' c'] 69 (0, 0)) := (hb.block _ (by simp)).trans (by rw [show ∀ o, (w1.alloc o).heap = w1.heap.push o from fun _ => rfl]; exact Array.getElem?_push_size)
  have HI2 : Aside0 (RowI w2 (.slice A' n' c') (fam k).words) := ⟨(HI.out.below (below_alloc (Below.refl _ _) _)).below hb⟩
  have HB2 : Aside0 (Below w.heap.size w w2) := ⟨(HB.out.alloc (by omega) _).trans (hb.mono (by simp; omega))⟩
  clear hc0
  have p0 := cell_of_block hP2 0
  have p1 := cell_of_block hP2 1
  have p2 := cell_of_block hP2 2
  have p3 := cell_of_block hP2 3
  have p4 := cell_of_block hP2 4
  have q3 := cell_of_block hQ2 3
  simp at p0 p1 p2 p3 p4 q3
  clear hb HB HI HP hP2 hQ2 GC
  have e1 : Go.bits .and .i64 0 1 = 0 := by decide +kernel
  have e2 : Go.bits .and .i64 0 2 = 0 := by decide +kernel
  have e3 : Go.bits .and .i64 0 4 = 0 := by decide +kernel
  simp only []
  go_wp2_with (first | (go_at_call 49; (first | (with_reducible refine (reg_7 _ _ rd0 rd1).mono ?_) | (with_reducible refine (reg_15 _ _ ra0 ra1).mono ?_) | (with_reducible refine (reg_20 _ _ rb0 rb1).mono ?_) | (with_reducible refine (reg_no _ _ _).mono ?_)); intro e w' h; obtain ⟨h1, ⟨nq, rfl⟩⟩ := h; subst h1; simp only []) | (go_at_call 87; refine (GP.out _).mono ?_; intro e w' h; obtain ⟨h1, ⟨nq, rfl⟩⟩ := h; subst h1; simp only []))
  go_quiet (fail)
  go_wp2
  go_ret2
  exact ⟨by first | rfl | simp, by repeat (first | exact HB2.out | apply below_drew | apply pw_below_drewN | refine Below.alloc ?_ (Nat.le_of_lt hlt) _)⟩

set_option maxHeartbeats 8000000 in
set_option maxRecDepth 100000 in
theorem put_9_4 (k i : Nat) (hk : k < 18) (hi : i < (fam k).words.length) (hf : (fam k).form = 9) (rd rs1 rs2 imm : Int) (b1 : 0 ≤ rd ∧ rd < 256) (b2 : 0 ≤ rs1 ∧ rs1 < 256) (b3 : 0 ≤ rs2 ∧ rs2 < 256) (b4 : -2147483648 ≤ imm ∧ imm < 2147483648)
    (hA : (rd == 0) = true) (hB : (rs1 == 0) = true) (hC : (rs2 == 0) = true) (hE : (0 != imm) = true) (w : World) :
    Calls Try.prog 25 #[.agg #[.int .u8 ((fam k).first + i), .int .u8 rd, .int .u8 rs1, .int .u8 rs2, .int .i32 imm]] w fun e w' => e = .returned (.tuple #[.int .u32 0, .int .i64 2]) ∧ Below w.heap.size w w' := by
  obtain ⟨word, hword⟩ : ∃ x, (fam k).words.getD i 0 = x := ⟨_, rfl⟩
  obtain ⟨o, ho⟩ : ∃ o : Int, (fam k).first + i = o := ⟨_, rfl⟩
  have OC : ∀ w, Calls Try.prog 48 #[.int .u8 o] w fun e w' => ∃ A n c A' n' c', e = .returned (.tuple #[.agg #[.int .u8 (fam k).first, .func (.func 73) #[] #[], .slice A n c, .slice A' n' c'], .int .i64 i, .bool true]) ∧ RowS w' (.slice A n c) (fam k).names ∧ RowI w' (.slice A' n' c') (fam k).words ∧ Below w.heap.size w w' := by
    intro w
    have h := of_yes k i hk hi w
    rw [ho, hf] at h
    exact h
  rw [ho]
  have GC := Aside0.mk OC
  have HWD := Aside0.mk hword
  clear ho OC hword hf
  obtain ⟨rd0, rd1⟩ := b1
  obtain ⟨ra0, ra1⟩ := b2
  obtain ⟨rb0, rb1⟩ := b3
  obtain ⟨im0, im1⟩ := b4
  have GP : Aside0 (∀ w, Calls Try.prog 87 #[.int .u32 (imm % 4294967296)] w fun e w' => e = .returned (.int .u32 0) ∧ Drawn0 w w') := ⟨fun w => clo_87 _ w⟩
  have GS : Aside0 (∀ w, Calls Try.prog 88 #[.int .u32 0] w fun e w' => e = .returned (.int .i32 0) ∧ w' = w) := ⟨fun w => (clo_88_s _ w).mono (fun e w' h => ⟨h.1, h.2.symm⟩)⟩
  go_enter Try.func25, Try.ntmps25
  go_wp2_with fail
  refine (GC.out _).mono ?_
  rintro e w1 ⟨A, n, c, A', n', c', rfl, hS1, hI, hb⟩
  have hz := hb.size
  have hz1 : w.heap.size < w1.heap.size := by simp at hz; omega
  have hP : w1.heap[w.heap.size]? = some (.cells #[.int .u8 o, .int .u8 rd, .int .u8 rs1, .int .u8 rs2, .int .i32 imm] 40 (0, 0)) := (hb.block _ (by simp)).trans (by rw [show ∀ o, (w.alloc o).heap = w.heap.push o from fun _ => rfl]; exact Array.getElem?_push_size)
  have hB1 : Below w.heap.size w w1 := ((Below.refl _ _).alloc (Nat.le_refl _) _).trans (hb.mono (by simp))
  have HB := Aside0.mk hB1
  have HI := Aside0.mk hI
  have HP := Aside0.mk hP
  have hc0 := cell_of_block hP 0
  simp at hc0
  clear hb hI hS1 hz hB1 hP
  go_wp2_with fail
  refine (form_alone _).mono ?_
  intro e w2 h; obtain ⟨h1, hb⟩ := h; subst h1
  have hz2 : w1.heap.size < w2.heap.size := by have := hb.size; simp at this; omega
  have hlt : w.heap.size < w2.heap.size := by omega
  have hP2 := (hb.block w.heap.size (by simp; omega)).trans (((below_alloc (Below.refl w1.heap.size w1) _).block _ hz1).trans HP.out)
  have hQ2 : w2.heap[w1.heap.size]? = some (.cells #[.int .u8 (fam k).first, .func (.func 73) #[] #[], .slice A n c, .slice A' n' c'] 69 (0, 0)) := (hb.block _ (by simp)).trans (by rw [show ∀ o, (w1.alloc o).heap = w1.heap.push o from fun _ => rfl]; exact Array.getElem?_push_size)
  have HI2 : Aside0 (RowI w2 (.slice A' n' c') (fam k).words) := ⟨(HI.out.below (below_alloc (Below.refl _ _) _)).below hb⟩
  have HB2 : Aside0 (Below w.heap.size w w2) := ⟨(HB.out.alloc (by omega) _).trans (hb.mono (by simp; omega))⟩
  clear hc0
  have p0 := cell_of_block hP2 0
  have p1 := cell_of_block hP2 1
  have p2 := cell_of_block hP2 2
  have p3 := cell_of_block hP2 3
  have p4 := cell_of_block hP2 4
  have q3 := cell_of_block hQ2 3
  simp at p0 p1 p2 p3 p4 q3
  clear hb HB HI HP hP2 hQ2 GC
  have e1 : Go.bits .and .i64 0 1 = 0 := by decide +kernel
  have e2 : Go.bits .and .i64 0 2 = 0 := by decide +kernel
  have e3 : Go.bits .and .i64 0 4 = 0 := by decide +kernel
  simp only []
  go_wp2_with (first | (go_at_call 49; (first | (with_reducible refine (reg_7 _ _ rd0 rd1).mono ?_) | (with_reducible refine (reg_15 _ _ ra0 ra1).mono ?_) | (with_reducible refine (reg_20 _ _ rb0 rb1).mono ?_) | (with_reducible refine (reg_no _ _ _).mono ?_)); intro e w' h; obtain ⟨h1, ⟨nq, rfl⟩⟩ := h; subst h1; simp only []) | (go_at_call 87; refine (GP.out _).mono ?_; intro e w' h; obtain ⟨h1, ⟨nq, rfl⟩⟩ := h; subst h1; simp only []))
  generalize hW8 : World.drewN (World.drewN (World.alloc w2 _) _) _ = W8
  refine wp_region_still_tail 20 (by kernel_rfl) (by kernel_rfl) ?_
  simp only [List.take_succ_cons, List.take_zero, List.drop_succ_cons, List.drop_zero]
  change wpStill _ _ (World.drew W8) (fun a' => wpList _ _ _ _ a' (World.drew W8)) _ _
  generalize hW9 : World.drew W8 = W9
  have hcell : ∀ a, W9.cell? a = (w2.alloc (Obj.cells #[Value.int IntKind.i64 0, Value.func (Fn.func 87) #[] #[], Value.func (Fn.func 88) #[] #[], Value.int IntKind.u32 4294967295] 74)).cell? a := by intro a; rw [← hW9, ← hW8]; rfl
  have s2 : W9.cell? ⟨w2.heap.size, 2, none⟩ = some (.func (.func 88) #[] #[]) := by rw [hcell]; simp [go_sem]
  have r0 : W9.cell? ⟨w.heap.size, 0, none⟩ = some (.int .u8 o) := by rw [hcell, World.cell?_alloc_lt _ _ _ hlt]; exact p0
  have r1 : W9.cell? ⟨w.heap.size, 1, none⟩ = some (.int .u8 rd) := by rw [hcell, World.cell?_alloc_lt _ _ _ hlt]; exact p1
  have r2 : W9.cell? ⟨w.heap.size, 2, none⟩ = some (.int .u8 rs1) := by rw [hcell, World.cell?_alloc_lt _ _ _ hlt]; exact p2
  have r3 : W9.cell? ⟨w.heap.size, 3, none⟩ = some (.int .u8 rs2) := by rw [hcell, World.cell?_alloc_lt _ _ _ hlt]; exact p3
  have r4 : W9.cell? ⟨w.heap.size, 4, none⟩ = some (.int .i32 imm) := by rw [hcell, World.cell?_alloc_lt _ _ _ hlt]; exact p4
  have hB9 : Aside0 (Below w2.heap.size w2 W9) := ⟨by rw [← hW9, ← hW8]; exact below_drew (pw_below_drewN (pw_below_drewN (below_alloc (Below.refl _ _) _) _) _)⟩
  clear hcell p0 p1 p2 p3 p4 hW9 hW8
  have HI9 : Aside0 (RowI W9 (.slice A' n' c') (fam k).words) := ⟨HI2.out.below hB9.out⟩
  have hQ9 : Aside0 (W9.cell? ⟨w1.heap.size, 3, none⟩ = some (.slice A' n' c')) := ⟨(hB9.out.cell (p := ⟨w1.heap.size, 3, none⟩) hz2).trans q3⟩
  have hB99 : Aside0 (Below w.heap.size w W9) := ⟨HB2.out.trans (hB9.out.mono (Nat.le_of_lt hlt))⟩
  have hz9 : w1.heap.size < W9.heap.size := Nat.lt_of_lt_of_le hz2 hB9.out.size
  have hz99 : w.heap.size < W9.heap.size := Nat.lt_of_lt_of_le hlt hB9.out.size
  clear q3
  repeat still_step
  still_call (GS.out _)
  repeat still_step
  refine wpStill_nil ?_
  clear s2
  go_wp2
  go_ret2
  exact ⟨by first | rfl | simp, hB99.out⟩

set_option maxHeartbeats 8000000 in
set_option maxRecDepth 100000 in
theorem put_9_5 (k i : Nat) (hk : k < 18) (hi : i < (fam k).words.length) (hf : (fam k).form = 9) (rd rs1 rs2 imm : Int) (b1 : 0 ≤ rd ∧ rd < 256) (b2 : 0 ≤ rs1 ∧ rs1 < 256) (b3 : 0 ≤ rs2 ∧ rs2 < 256) (b4 : -2147483648 ≤ imm ∧ imm < 2147483648)
    (hA : (rd == 0) = true) (hB : (rs1 == 0) = true) (hC : (rs2 == 0) = true) (hE : (0 != imm) = false) (hS : specB ((fam k).first + i) imm = false) (w : World) :
    Calls Try.prog 25 #[.agg #[.int .u8 ((fam k).first + i), .int .u8 rd, .int .u8 rs1, .int .u8 rs2, .int .i32 imm]] w fun e w' => e = .returned (.tuple #[.int .u32 0, .int .i64 2]) ∧ Below w.heap.size w w' := by
  obtain ⟨word, hword⟩ : ∃ x, (fam k).words.getD i 0 = x := ⟨_, rfl⟩
  obtain ⟨o, ho⟩ : ∃ o : Int, (fam k).first + i = o := ⟨_, rfl⟩
  have OC : ∀ w, Calls Try.prog 48 #[.int .u8 o] w fun e w' => ∃ A n c A' n' c', e = .returned (.tuple #[.agg #[.int .u8 (fam k).first, .func (.func 73) #[] #[], .slice A n c, .slice A' n' c'], .int .i64 i, .bool true]) ∧ RowS w' (.slice A n c) (fam k).names ∧ RowI w' (.slice A' n' c') (fam k).words ∧ Below w.heap.size w w' := by
    intro w
    have h := of_yes k i hk hi w
    rw [ho, hf] at h
    exact h
  rw [ho]
  have GC := Aside0.mk OC
  have HWD := Aside0.mk hword
  rw [ho] at hS
  have SPC : Aside0 (∀ w, Calls Try.prog 50 #[.agg #[.int .u8 o, .int .u8 rd, .int .u8 rs1, .int .u8 rs2, .int .i32 imm]] w fun e w' => e = .returned (.bool false) ∧ Below w.heap.size w w') := ⟨fun w => by rw [← hS]; exact special_calls o rd rs1 rs2 imm w⟩
  clear hS
  clear ho OC hword hf
  obtain ⟨rd0, rd1⟩ := b1
  obtain ⟨ra0, ra1⟩ := b2
  obtain ⟨rb0, rb1⟩ := b3
  obtain ⟨im0, im1⟩ := b4
  have GP : Aside0 (∀ w, Calls Try.prog 87 #[.int .u32 (imm % 4294967296)] w fun e w' => e = .returned (.int .u32 0) ∧ Drawn0 w w') := ⟨fun w => clo_87 _ w⟩
  have GS : Aside0 (∀ w, Calls Try.prog 88 #[.int .u32 0] w fun e w' => e = .returned (.int .i32 0) ∧ w' = w) := ⟨fun w => (clo_88_s _ w).mono (fun e w' h => ⟨h.1, h.2.symm⟩)⟩
  go_enter Try.func25, Try.ntmps25
  go_wp2_with fail
  refine (GC.out _).mono ?_
  rintro e w1 ⟨A, n, c, A', n', c', rfl, hS1, hI, hb⟩
  have hz := hb.size
  have hz1 : w.heap.size < w1.heap.size := by simp at hz; omega
  have hP : w1.heap[w.heap.size]? = some (.cells #[.int .u8 o, .int .u8 rd, .int .u8 rs1, .int .u8 rs2, .int .i32 imm] 40 (0, 0)) := (hb.block _ (by simp)).trans (by rw [show ∀ o, (w.alloc o).heap = w.heap.push o from fun _ => rfl]; exact Array.getElem?_push_size)
  have hB1 : Below w.heap.size w w1 := ((Below.refl _ _).alloc (Nat.le_refl _) _).trans (hb.mono (by simp))
  have HB := Aside0.mk hB1
  have HI := Aside0.mk hI
  have HP := Aside0.mk hP
  have hc0 := cell_of_block hP 0
  simp at hc0
  clear hb hI hS1 hz hB1 hP
  go_wp2_with fail
  refine (form_alone _).mono ?_
  intro e w2 h; obtain ⟨h1, hb⟩ := h; subst h1
  have hz2 : w1.heap.size < w2.heap.size := by have := hb.size; simp at this; omega
  have hlt : w.heap.size < w2.heap.size := by omega
  have hP2 := (hb.block w.heap.size (by simp; omega)).trans (((below_alloc (Below.refl w1.heap.size w1) _).block _ hz1).trans HP.out)
  have hQ2 : w2.heap[w1.heap.size]? = some (.cells #[.int .u8 (fam k).first, .func (.func 73) #[] #[], .slice A n c, .slice A' n' c'] 69 (0, 0)) := (hb.block _ (by simp)).trans (by rw [show ∀ o, (w1.alloc o).heap = w1.heap.push o from fun _ => rfl]; exact Array.getElem?_push_size)
  have HI2 : Aside0 (RowI w2 (.slice A' n' c') (fam k).words) := ⟨(HI.out.below (below_alloc (Below.refl _ _) _)).below hb⟩
  have HB2 : Aside0 (Below w.heap.size w w2) := ⟨(HB.out.alloc (by omega) _).trans (hb.mono (by simp; omega))⟩
  clear hc0
  have p0 := cell_of_block hP2 0
  have p1 := cell_of_block hP2 1
  have p2 := cell_of_block hP2 2
  have p3 := cell_of_block hP2 3
  have p4 := cell_of_block hP2 4
  have q3 := cell_of_block hQ2 3
  simp at p0 p1 p2 p3 p4 q3
  clear hb HB HI HP hP2 hQ2 GC
  have e1 : Go.bits .and .i64 0 1 = 0 := by decide +kernel
  have e2 : Go.bits .and .i64 0 2 = 0 := by decide +kernel
  have e3 : Go.bits .and .i64 0 4 = 0 := by decide +kernel
  simp only []
  go_wp2_with (first | (go_at_call 49; (first | (with_reducible refine (reg_7 _ _ rd0 rd1).mono ?_) | (with_reducible refine (reg_15 _ _ ra0 ra1).mono ?_) | (with_reducible refine (reg_20 _ _ rb0 rb1).mono ?_) | (with_reducible refine (reg_no _ _ _).mono ?_)); intro e w' h; obtain ⟨h1, ⟨nq, rfl⟩⟩ := h; subst h1; simp only []) | (go_at_call 87; refine (GP.out _).mono ?_; intro e w' h; obtain ⟨h1, ⟨nq, rfl⟩⟩ := h; subst h1; simp only []))
  generalize hW8 : World.drewN (World.drewN (World.alloc w2 _) _) _ = W8
  refine wp_region_still_tail 20 (by kernel_rfl) (by kernel_rfl) ?_
  simp only [List.take_succ_cons, List.take_zero, List.drop_succ_cons, List.drop_zero]
  change wpStill _ _ (World.drew W8) (fun a' => wpList _ _ _ _ a' (World.drew W8)) _ _
  generalize hW9 : World.drew W8 = W9
  have hcell : ∀ a, W9.cell? a = (w2.alloc (Obj.cells #[Value.int IntKind.i64 0, Value.func (Fn.func 87) #[] #[], Value.func (Fn.func 88) #[] #[], Value.int IntKind.u32 4294967295] 74)).cell? a := by intro a; rw [← hW9, ← hW8]; rfl
  have s2 : W9.cell? ⟨w2.heap.size, 2, none⟩ = some (.func (.func 88) #[] #[]) := by rw [hcell]; simp [go_sem]
  have r0 : W9.cell? ⟨w.heap.size, 0, none⟩ = some (.int .u8 o) := by rw [hcell, World.cell?_alloc_lt _ _ _ hlt]; exact p0
  have r1 : W9.cell? ⟨w.heap.size, 1, none⟩ = some (.int .u8 rd) := by rw [hcell, World.cell?_alloc_lt _ _ _ hlt]; exact p1
  have r2 : W9.cell? ⟨w.heap.size, 2, none⟩ = some (.int .u8 rs1) := by rw [hcell, World.cell?_alloc_lt _ _ _ hlt]; exact p2
  have r3 : W9.cell? ⟨w.heap.size, 3, none⟩ = some (.int .u8 rs2) := by rw [hcell, World.cell?_alloc_lt _ _ _ hlt]; exact p3
  have r4 : W9.cell? ⟨w.heap.size, 4, none⟩ = some (.int .i32 imm) := by rw [hcell, World.cell?_alloc_lt _ _ _ hlt]; exact p4
  have hB9 : Aside0 (Below w2.heap.size w2 W9) := ⟨by rw [← hW9, ← hW8]; exact below_drew (pw_below_drewN (pw_below_drewN (below_alloc (Below.refl _ _) _) _) _)⟩
  clear hcell p0 p1 p2 p3 p4 hW9 hW8
  have HI9 : Aside0 (RowI W9 (.slice A' n' c') (fam k).words) := ⟨HI2.out.below hB9.out⟩
  have hQ9 : Aside0 (W9.cell? ⟨w1.heap.size, 3, none⟩ = some (.slice A' n' c')) := ⟨(hB9.out.cell (p := ⟨w1.heap.size, 3, none⟩) hz2).trans q3⟩
  have hB99 : Aside0 (Below w.heap.size w W9) := ⟨HB2.out.trans (hB9.out.mono (Nat.le_of_lt hlt))⟩
  have hz9 : w1.heap.size < W9.heap.size := Nat.lt_of_lt_of_le hz2 hB9.out.size
  have hz99 : w.heap.size < W9.heap.size := Nat.lt_of_lt_of_le hlt hB9.out.size
  clear q3
  repeat still_step
  still_call (GS.out _)
  repeat still_step
  refine wpStill_nil ?_
  clear s2
  go_wp2_with (fail)
  refine (SPC.out _).mono ?_
  intro e w10 h; obtain ⟨h1, hb10⟩ := h; subst h1
  have hB10 : Aside0 (Below w.heap.size w w10) := ⟨hB99.out.trans (hb10.mono (Nat.le_of_lt hz99))⟩
  clear hb10
  simp only []
  go_wp2
  go_ret2
  exact ⟨by first | rfl | simp, hB10.out⟩

set_option maxHeartbeats 8000000 in
set_option maxRecDepth 100000 in
theorem put_9_6 (k i : Nat) (hk : k < 18) (hi : i < (fam k).words.length) (hf : (fam k).form = 9) (rd rs1 rs2 imm : Int) (b1 : 0 ≤ rd ∧ rd < 256) (b2 : 0 ≤ rs1 ∧ rs1 < 256) (b3 : 0 ≤ rs2 ∧ rs2 < 256) (b4 : -2147483648 ≤ imm ∧ imm < 2147483648)
    (hA : (rd == 0) = true) (hB : (rs1 == 0) = true) (hC : (rs2 == 0) = true) (hE : (0 != imm) = false) (hS : specB ((fam k).first + i) imm = true) (w : World) :
    Calls Try.prog 25 #[.agg #[.int .u8 ((fam k).first + i), .int .u8 rd, .int .u8 rs1, .int .u8 rs2, .int .i32 imm]] w fun e w' => e = .returned (.tuple #[.int .u32 (Go.bits .or .u32 (Go.bits .or .u32 (Go.bits .or .u32 (Go.bits .or .u32 ((fam k).words.getD i 0) (0)) (0)) (0)) (0)), .int .i64 0]) ∧ Below w.heap.size w w' := by
  obtain ⟨word, hword⟩ : ∃ x, (fam k).words.getD i 0 = x := ⟨_, rfl⟩
  obtain ⟨o, ho⟩ : ∃ o : Int, (fam k).first + i = o := ⟨_, rfl⟩
  have OC : ∀ w, Calls Try.prog 48 #[.int .u8 o] w fun e w' => ∃ A n c A' n' c', e = .returned (.tuple #[.agg #[.int .u8 (fam k).first, .func (.func 73) #[] #[], .slice A n c, .slice A' n' c'], .int .i64 i, .bool true]) ∧ RowS w' (.slice A n c) (fam k).names ∧ RowI w' (.slice A' n' c') (fam k).words ∧ Below w.heap.size w w' := by
    intro w
    have h := of_yes k i hk hi w
    rw [ho, hf] at h
    exact h
  rw [ho]
  rw [hword]
  have GC := Aside0.mk OC
  have HWD := Aside0.mk hword
  rw [ho] at hS
  have SPC : Aside0 (∀ w, Calls Try.prog 50 #[.agg #[.int .u8 o, .int .u8 rd, .int .u8 rs1, .int .u8 rs2, .int .i32 imm]] w fun e w' => e = .returned (.bool true) ∧ Below w.heap.size w w') := ⟨fun w => by rw [← hS]; exact special_calls o rd rs1 rs2 imm w⟩
  clear hS
  clear ho OC hword hf
  obtain ⟨rd0, rd1⟩ := b1
  obtain ⟨ra0, ra1⟩ := b2
  obtain ⟨rb0, rb1⟩ := b3
  obtain ⟨im0, im1⟩ := b4
  have GP : Aside0 (∀ w, Calls Try.prog 87 #[.int .u32 (imm % 4294967296)] w fun e w' => e = .returned (.int .u32 0) ∧ Drawn0 w w') := ⟨fun w => clo_87 _ w⟩
  have GS : Aside0 (∀ w, Calls Try.prog 88 #[.int .u32 0] w fun e w' => e = .returned (.int .i32 0) ∧ w' = w) := ⟨fun w => (clo_88_s _ w).mono (fun e w' h => ⟨h.1, h.2.symm⟩)⟩
  go_enter Try.func25, Try.ntmps25
  go_wp2_with fail
  refine (GC.out _).mono ?_
  rintro e w1 ⟨A, n, c, A', n', c', rfl, hS1, hI, hb⟩
  have hz := hb.size
  have hz1 : w.heap.size < w1.heap.size := by simp at hz; omega
  have hP : w1.heap[w.heap.size]? = some (.cells #[.int .u8 o, .int .u8 rd, .int .u8 rs1, .int .u8 rs2, .int .i32 imm] 40 (0, 0)) := (hb.block _ (by simp)).trans (by rw [show ∀ o, (w.alloc o).heap = w.heap.push o from fun _ => rfl]; exact Array.getElem?_push_size)
  have hB1 : Below w.heap.size w w1 := ((Below.refl _ _).alloc (Nat.le_refl _) _).trans (hb.mono (by simp))
  have HB := Aside0.mk hB1
  have HI := Aside0.mk hI
  have HP := Aside0.mk hP
  have hc0 := cell_of_block hP 0
  simp at hc0
  clear hb hI hS1 hz hB1 hP
  go_wp2_with fail
  refine (form_alone _).mono ?_
  intro e w2 h; obtain ⟨h1, hb⟩ := h; subst h1
  have hz2 : w1.heap.size < w2.heap.size := by have := hb.size; simp at this; omega
  have hlt : w.heap.size < w2.heap.size := by omega
  have hP2 := (hb.block w.heap.size (by simp; omega)).trans (((below_alloc (Below.refl w1.heap.size w1) _).block _ hz1).trans HP.out)
  have hQ2 : w2.heap[w1.heap.size]? = some (.cells #[.int .u8 (fam k).first, .func (.func 73) #[] #[], .slice A n c, .slice A' n' c'] 69 (0, 0)) := (hb.block _ (by simp)).trans (by rw [show ∀ o, (w1.alloc o).heap = w1.heap.push o from fun _ => rfl]; exact Array.getElem?_push_size)
  have HI2 : Aside0 (RowI w2 (.slice A' n' c') (fam k).words) := ⟨(HI.out.below (below_alloc (Below.refl _ _) _)).below hb⟩
  have HB2 : Aside0 (Below w.heap.size w w2) := ⟨(HB.out.alloc (by omega) _).trans (hb.mono (by simp; omega))⟩
  clear hc0
  have p0 := cell_of_block hP2 0
  have p1 := cell_of_block hP2 1
  have p2 := cell_of_block hP2 2
  have p3 := cell_of_block hP2 3
  have p4 := cell_of_block hP2 4
  have q3 := cell_of_block hQ2 3
  simp at p0 p1 p2 p3 p4 q3
  clear hb HB HI HP hP2 hQ2 GC
  have e1 : Go.bits .and .i64 0 1 = 0 := by decide +kernel
  have e2 : Go.bits .and .i64 0 2 = 0 := by decide +kernel
  have e3 : Go.bits .and .i64 0 4 = 0 := by decide +kernel
  simp only []
  go_wp2_with (first | (go_at_call 49; (first | (with_reducible refine (reg_7 _ _ rd0 rd1).mono ?_) | (with_reducible refine (reg_15 _ _ ra0 ra1).mono ?_) | (with_reducible refine (reg_20 _ _ rb0 rb1).mono ?_) | (with_reducible refine (reg_no _ _ _).mono ?_)); intro e w' h; obtain ⟨h1, ⟨nq, rfl⟩⟩ := h; subst h1; simp only []) | (go_at_call 87; refine (GP.out _).mono ?_; intro e w' h; obtain ⟨h1, ⟨nq, rfl⟩⟩ := h; subst h1; simp only []))
  generalize hW8 : World.drewN (World.drewN (World.alloc w2 _) _) _ = W8
  refine wp_region_still_tail 20 (by kernel_rfl) (by kernel_rfl) ?_
  simp only [List.take_succ_cons, List.take_zero, List.drop_succ_cons, List.drop_zero]
  change wpStill _ _ (World.drew W8) (fun a' => wpList _ _ _ _ a' (World.drew W8)) _ _
  generalize hW9 : World.drew W8 = W9
  have hcell : ∀ a, W9.cell? a = (w2.alloc (Obj.cells #[Value.int IntKind.i64 0, Value.func (Fn.func 87) #[] #[], Value.func (Fn.func 88) #[] #[], Value.int IntKind.u32 4294967295] 74)).cell? a := by intro a; rw [← hW9, ← hW8]; rfl
  have s2 : W9.cell? ⟨w2.heap.size, 2, none⟩ = some (.func (.func 88) #[] #[]) := by rw [hcell]; simp [go_sem]
  have r0 : W9.cell? ⟨w.heap.size, 0, none⟩ = some (.int .u8 o) := by rw [hcell, World.cell?_alloc_lt _ _ _ hlt]; exact p0
  have r1 : W9.cell? ⟨w.heap.size, 1, none⟩ = some (.int .u8 rd) := by rw [hcell, World.cell?_alloc_lt _ _ _ hlt]; exact p1
  have r2 : W9.cell? ⟨w.heap.size, 2, none⟩ = some (.int .u8 rs1) := by rw [hcell, World.cell?_alloc_lt _ _ _ hlt]; exact p2
  have r3 : W9.cell? ⟨w.heap.size, 3, none⟩ = some (.int .u8 rs2) := by rw [hcell, World.cell?_alloc_lt _ _ _ hlt]; exact p3
  have r4 : W9.cell? ⟨w.heap.size, 4, none⟩ = some (.int .i32 imm) := by rw [hcell, World.cell?_alloc_lt _ _ _ hlt]; exact p4
  have hB9 : Aside0 (Below w2.heap.size w2 W9) := ⟨by rw [← hW9, ← hW8]; exact below_drew (pw_below_drewN (pw_below_drewN (below_alloc (Below.refl _ _) _) _) _)⟩
  clear hcell p0 p1 p2 p3 p4 hW9 hW8
  have HI9 : Aside0 (RowI W9 (.slice A' n' c') (fam k).words) := ⟨HI2.out.below hB9.out⟩
  have hQ9 : Aside0 (W9.cell? ⟨w1.heap.size, 3, none⟩ = some (.slice A' n' c')) := ⟨(hB9.out.cell (p := ⟨w1.heap.size, 3, none⟩) hz2).trans q3⟩
  have hB99 : Aside0 (Below w.heap.size w W9) := ⟨HB2.out.trans (hB9.out.mono (Nat.le_of_lt hlt))⟩
  have hz9 : w1.heap.size < W9.heap.size := Nat.lt_of_lt_of_le hz2 hB9.out.size
  have hz99 : w.heap.size < W9.heap.size := Nat.lt_of_lt_of_le hlt hB9.out.size
  clear q3
  repeat still_step
  still_call (GS.out _)
  repeat still_step
  refine wpStill_nil ?_
  clear s2
  go_wp2_with (fail)
  refine (SPC.out _).mono ?_
  intro e w10 h; obtain ⟨h1, hb10⟩ := h; subst h1
  have q10 : w10.cell? ⟨w1.heap.size, 3, none⟩ = some (.slice A' n' c') := pw_cell_below hb10 hQ9.out
  obtain ⟨A2, c2, hv, hC⟩ := HI9.out.below hb10
  obtain ⟨rfl, rfl, rfl⟩ : A' = A2 ∧ n' = (fam k).words.length ∧ c' = c2 := by simpa using hv
  obtain ⟨_, hlen, hcells⟩ := readsI hC
  obtain ⟨ad, had, hcells2⟩ := hcells (Nat.lt_of_le_of_lt (Nat.zero_le _) hi)
  subst had
  have hw := hcells2 i hi
  rw [HWD.out] at hw
  have hil : (i : Int) < ((fam k).words.length : Int) := by omega
  clear hcells hcells2 hC
  have hB10 : Aside0 (Below w.heap.size w w10) := ⟨hB99.out.trans (hb10.mono (Nat.le_of_lt hz99))⟩
  clear hb10
  simp only []
  go_wp2
  go_ret2
  exact ⟨by first | rfl | simp, hB10.out⟩
end Go.Proofs.Ythkbjoglhfclmaa.Ins
