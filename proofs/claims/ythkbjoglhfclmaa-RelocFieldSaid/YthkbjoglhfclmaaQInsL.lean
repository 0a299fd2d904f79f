/- The laws InstrBack and InstrOne, walked over the contracts of instr.Put and instr.Get. No condition beyond the kinds' bounds. -/
import Derived.Test.YthkbjoglhfclmaaQInsG1
import Derived.Test.YthkbjoglhfclmaaQInsE
import Derived.Test.YthkbjoglhfclmaaQInsO
namespace Go.Proofs.Ythkbjoglhfclmaa.Ins
open Go.RowKit Go.Proofs.YthkbjoglhfclmaaW.PrintWords Go.Proofs.YthkbjoglhfclmaaW.PrintLast Go.Proofs.Ythkbjoglhfclmaa.Alu Go.Proofs.Ythkbjoglhfclmaa.InsP
set_option linter.unusedVariables false
set_option linter.unusedSimpArgs false

theorem putS_cases (o rd rs1 rs2 imm : Int) (b1 : 0 ≤ rd) (b2 : 0 ≤ rs1) (b3 : 0 ≤ rs2) (b4 : -2147483648 ≤ imm ∧ imm < 2147483648) :
    putS o rd rs1 rs2 imm = (0, 2) ∨ ∃ a, putS o rd rs1 rs2 imm = (a, 0) ∧ 0 ≤ a ∧ a < 4294967296 ∧ getS a = (⟨o, rd, rs1, rs2, imm⟩, 0) := by
  have key : putS o rd rs1 rs2 imm = (0, 2) ∨ ∃ a, putS o rd rs1 rs2 imm = (a, 0) := by
    unfold putS
    split
    · exact .inl rfl
    · split
      · exact .inr ⟨_, rfl⟩
      · exact .inl rfl
  rcases key with h | ⟨a, h⟩
  · exact .inl h
  · exact .inr ⟨a, h, put_get o rd rs1 rs2 imm a b1 b2 b3 b4 h⟩
theorem getS_cases (x : Int) (h0 : 0 ≤ x) (h1 : x < 4294967296) :
    getS x = (⟨0, 0, 0, 0, 0⟩, 5) ∨ ∃ k : I5, getS x = (k, 0) ∧ (0 ≤ k.op ∧ k.op < 256) ∧ (0 ≤ k.rd ∧ k.rd < 256) ∧ (0 ≤ k.rs1 ∧ k.rs1 < 256) ∧ (0 ≤ k.rs2 ∧ k.rs2 < 256) ∧ (-2147483648 ≤ k.imm ∧ k.imm < 2147483648) ∧ putS k.op k.rd k.rs1 k.rs2 k.imm = (x, 0) := by
  have key : getS x = (⟨0, 0, 0, 0, 0⟩, 5) ∨ ∃ p, p ∈ pairs ∧ getS x = (decS p x, 0) := by
    unfold getS
    split
    · exact .inl rfl
    · rename_i p hp
      split
      · exact .inr ⟨p, List.mem_of_find?_eq_some hp, rfl⟩
      · exact .inl rfl
  rcases key with h | ⟨p, hp, h⟩
  · exact .inl h
  · refine .inr ⟨decS p x, h, ?_, ?_, ?_, ?_, get_in _ (words_in p hp).1 x h0 h1, get_put x h0 h1 _ h⟩
    · have := (words_in p hp).2.2.2.2
      simp only [decS]; omega
    · simp only [decS, rdF]; split <;> omega
    · simp only [decS, rs1F]; split <;> omega
    · simp only [decS, rs2F]; split <;> omega
theorem kept {w w' : World} {b : Nat} {o : Obj} (hb : Below w.heap.size w w') (h : w.heap[b]? = some o) : w'.heap[b]? = some o :=
  (hb.block b (Array.getElem?_eq_some_iff.1 h).1).trans h
theorem kept_alloc {w : World} {b : Nat} {o o' : Obj} (h : w.heap[b]? = some o) : (w.alloc o').heap[b]? = some o := kept (below_alloc (Below.refl _ _) _) h
theorem new_block (w : World) (o : Obj) : (w.alloc o).heap[w.heap.size]? = some o := by
  rw [show ∀ o, (w.alloc o).heap = w.heap.push o from fun _ => rfl]; exact Array.getElem?_push_size
theorem block_lt {w : World} {b : Nat} {o : Obj} (h : w.heap[b]? = some o) : b < w.heap.size := (Array.getElem?_eq_some_iff.1 h).1
/-- The block of an instruction. -/
def InsAt (w : World) (b : Nat) (o rd rs1 rs2 imm : Int) : Prop := w.heap[b]? = some (.cells #[.int .u8 o, .int .u8 rd, .int .u8 rs1, .int .u8 rs2, .int .i32 imm] 40 (0, 0))

set_option maxHeartbeats 8000000 in
set_option maxRecDepth 100000 in
theorem works5_calls (w : World) : Calls Try.prog 29 #[] w fun e w' => e = .returned (.bool true) ∧ Below w.heap.size w w' := by
  have P0 : Aside0 (∀ w, Calls Try.prog 25 #[.agg #[.int .u8 21, .int .u8 1, .int .u8 0, .int .u8 0, .int .i32 5]] w fun e w' => e = .returned (.tuple #[.int .u32 5243027, .int .i64 0]) ∧ Below w.heap.size w w') := ⟨fun w => by
    have h := put_calls 21 1 0 0 5 (by decide) (by decide) (by decide) (by decide) (by decide) w
    rw [show putS 21 1 0 0 5 = (5243027, 0) from by decide +kernel] at h
    exact h⟩
  have P1 : Aside0 (∀ w, Calls Try.prog 25 #[.agg #[.int .u8 1, .int .u8 2, .int .u8 0, .int .u8 0, .int .i32 4096]] w fun e w' => e = .returned (.tuple #[.int .u32 4407, .int .i64 0]) ∧ Below w.heap.size w w') := ⟨fun w => by
    have h := put_calls 1 2 0 0 4096 (by decide) (by decide) (by decide) (by decide) (by decide) w
    rw [show putS 1 2 0 0 4096 = (4407, 0) from by decide +kernel] at h
    exact h⟩
  have P2 : Aside0 (∀ w, Calls Try.prog 25 #[.agg #[.int .u8 5, .int .u8 0, .int .u8 1, .int .u8 2, .int .i32 (-4)]] w fun e w' => e = .returned (.tuple #[.int .u32 4263546595, .int .i64 0]) ∧ Below w.heap.size w w') := ⟨fun w => by
    have h := put_calls 5 0 1 2 (-4) (by decide) (by decide) (by decide) (by decide) (by decide) w
    rw [show putS 5 0 1 2 (-4) = (4263546595, 0) from by decide +kernel] at h
    exact h⟩
  have P3 : Aside0 (∀ w, Calls Try.prog 25 #[.agg #[.int .u8 3, .int .u8 1, .int .u8 0, .int .u8 0, .int .i32 8]] w fun e w' => e = .returned (.tuple #[.int .u32 8388847, .int .i64 0]) ∧ Below w.heap.size w w') := ⟨fun w => by
    have h := put_calls 3 1 0 0 8 (by decide) (by decide) (by decide) (by decide) (by decide) w
    rw [show putS 3 1 0 0 8 = (8388847, 0) from by decide +kernel] at h
    exact h⟩
  have P4 : Aside0 (∀ w, Calls Try.prog 25 #[.agg #[.int .u8 21, .int .u8 0, .int .u8 0, .int .u8 0, .int .i32 2048]] w fun e w' => e = .returned (.tuple #[.int .u32 0, .int .i64 2]) ∧ Below w.heap.size w w') := ⟨fun w => by
    have h := put_calls 21 0 0 0 2048 (by decide) (by decide) (by decide) (by decide) (by decide) w
    rw [show putS 21 0 0 0 2048 = (0, 2) from by decide +kernel] at h
    exact h⟩
  have G0 : Aside0 (∀ w, Calls Try.prog 27 #[.int .u32 0] w fun e w' => e = .returned (.tuple #[.agg #[.int .u8 0, .int .u8 0, .int .u8 0, .int .u8 0, .int .i32 0], .int .i64 5]) ∧ Below w.heap.size w w') := ⟨fun w => by
    have h := get_calls 0 (by decide) (by decide) w
    rw [getS_none (by decide +kernel)] at h
    exact h⟩
  go_enter Try.func29, Try.ntmps29
  go_wp2_with fail
  refine (P0.out _).mono ?_
  rintro e w1 ⟨rfl, hb1⟩
  have HB1 : Aside0 (Below w.heap.size w w1) := ⟨hb1⟩
  clear hb1
  go_wp2_with fail
  refine (P1.out _).mono ?_
  rintro e w2 ⟨rfl, hb2⟩
  have HB2 : Aside0 (Below w.heap.size w w2) := ⟨HB1.out.trans (hb2.mono HB1.out.size)⟩
  clear hb2
  go_wp2_with fail
  refine (P2.out _).mono ?_
  rintro e w3 ⟨rfl, hb3⟩
  have HB3 : Aside0 (Below w.heap.size w w3) := ⟨HB2.out.trans (hb3.mono HB2.out.size)⟩
  clear hb3
  go_wp2_with fail
  refine (P3.out _).mono ?_
  rintro e w4 ⟨rfl, hb4⟩
  have HB4 : Aside0 (Below w.heap.size w w4) := ⟨HB3.out.trans (hb4.mono HB3.out.size)⟩
  clear hb4
  go_wp2_with fail
  refine (G0.out _).mono ?_
  rintro e w5 ⟨rfl, hb5⟩
  have HB5 : Aside0 (Below w.heap.size w w5) := ⟨HB4.out.trans (hb5.mono HB4.out.size)⟩
  clear hb5
  go_wp2_with fail
  refine (P4.out _).mono ?_
  rintro e w6 ⟨rfl, hb6⟩
  have HB6 : Aside0 (Below w.heap.size w w6) := ⟨(HB5.out.alloc HB5.out.size _).trans (hb6.mono (by have := HB5.out.size; simp; omega))⟩
  clear hb6
  go_wp2
  go_ret
  exact ⟨rfl, HB6.out⟩

set_option maxHeartbeats 8000000 in
set_option maxRecDepth 100000 in
theorem back_walk (o rd rs1 rs2 imm x a e1 e2 : Int) (k : I5) (he1 : e1 = 2 ∨ e1 = 0) (he2 : (e2 = 5 ∧ k = ⟨0, 0, 0, 0, 0⟩) ∨ e2 = 0)
    (P1 : Aside0 (∀ w, Calls Try.prog 25 #[.agg #[.int .u8 o, .int .u8 rd, .int .u8 rs1, .int .u8 rs2, .int .i32 imm]] w fun e w' => e = .returned (.tuple #[.int .u32 a, .int .i64 e1]) ∧ Below w.heap.size w w'))
    (G1 : e1 = 0 → Aside0 (∀ w, Calls Try.prog 27 #[.int .u32 a] w fun e w' => e = .returned (.tuple #[.agg #[.int .u8 o, .int .u8 rd, .int .u8 rs1, .int .u8 rs2, .int .i32 imm], .int .i64 0]) ∧ Below w.heap.size w w'))
    (G2 : Aside0 (∀ w, Calls Try.prog 27 #[.int .u32 x] w fun e w' => e = .returned (.tuple #[.agg #[.int .u8 k.op, .int .u8 k.rd, .int .u8 k.rs1, .int .u8 k.rs2, .int .i32 k.imm], .int .i64 e2]) ∧ Below w.heap.size w w'))
    (P2 : e2 = 0 → Aside0 (∀ w, Calls Try.prog 25 #[.agg #[.int .u8 k.op, .int .u8 k.rd, .int .u8 k.rs1, .int .u8 k.rs2, .int .i32 k.imm]] w fun e w' => e = .returned (.tuple #[.int .u32 x, .int .i64 0]) ∧ Below w.heap.size w w')) (w : World) :
    Calls Try.prog 10 #[.agg #[.int .u8 o, .int .u8 rd, .int .u8 rs1, .int .u8 rs2, .int .i32 imm], .int .u32 x] w fun e w' => e = .returned (.bool true) ∧ Below w.heap.size w w' := by
  have WK : Aside0 (∀ w, Calls Try.prog 29 #[] w fun e w' => e = .returned (.bool true) ∧ Below w.heap.size w w') := ⟨works5_calls⟩
  have HE2 := Aside0.mk he2
  obtain ⟨k0, k1, k2, k3, k4⟩ := k
  simp only [] at G2 P2
  clear he2
  go_enter Try.func10, Try.ntmps10
  go_wp2_with fail
  refine (P1.out _).mono ?_
  rintro e w1 ⟨rfl, hb⟩
  have hP : InsAt w1 w.heap.size o rd rs1 rs2 imm := kept hb (new_block w _)
  have HB1 : Aside0 (Below w.heap.size w w1) := ⟨((Below.refl _ _).alloc (Nat.le_refl _) _).trans (hb.mono (by simp))⟩
  have hl1 := block_lt hP
  have HP := Aside0.mk hP
  clear hb hP
  have second : ∀ (W : World), Below w.heap.size w W → w.heap.size < W.heap.size → Calls Try.prog 27 #[.int .u32 x] W fun e w' => e = .returned (.tuple #[.agg #[.int .u8 k0, .int .u8 k1, .int .u8 k2, .int .u8 k3, .int .i32 k4], .int .i64 e2]) ∧ Below w.heap.size w w' := fun W hW hl => (G2.out W).mono fun e w' h => ⟨h.1, hW.trans (h.2.mono (Nat.le_of_lt hl))⟩
  have SEC := Aside0.mk second
  clear second
  rcases he1 with rfl | rfl
  · go_wp2_with fail
    refine (SEC.out _ HB1.out hl1).mono ?_
    rintro e w2 ⟨rfl, hb2⟩
    have HB2 := Aside0.mk hb2
    clear hb2
    have hl2 : w.heap.size ≤ w2.heap.size := HB2.out.size
    rcases HE2.out with ⟨rfl, hk⟩ | rfl
    · obtain ⟨rfl, rfl, rfl, rfl, rfl⟩ : k0 = 0 ∧ k1 = 0 ∧ k2 = 0 ∧ k3 = 0 ∧ k4 = 0 := by simpa using hk
      go_wp2_with fail
      refine (WK.out _).mono ?_
      rintro e w4 ⟨rfl, hb4⟩
      have HB4 : Aside0 (Below w.heap.size w w4) := ⟨(HB2.out.alloc hl2 _).trans (hb4.mono (by simp; omega))⟩
      clear hb4
      simp only []
      go_wp2
      go_ret
      exact ⟨by first | rfl | simp, HB4.out⟩
    · have P2' := P2 rfl
      clear P2
      go_wp2_with fail
      refine (P2'.out _).mono ?_
      rintro e w4 ⟨rfl, hb4⟩
      have HB4 : Aside0 (Below w.heap.size w w4) := ⟨(HB2.out.alloc hl2 _).trans (hb4.mono (by simp; omega))⟩
      clear hb4
      have hl4 : w.heap.size ≤ w4.heap.size := HB4.out.size
      go_wp2_with fail
      refine (WK.out _).mono ?_
      rintro e w5 ⟨rfl, hb5⟩
      have HB5 : Aside0 (Below w.heap.size w w5) := ⟨HB4.out.trans (hb5.mono hl4)⟩
      clear hb5
      simp only []
      go_wp2
      go_ret
      exact ⟨by first | rfl | simp, HB5.out⟩
  · have G1' := G1 rfl
    clear G1
    go_wp2_with fail
    refine (G1'.out _).mono ?_
    rintro e w3 ⟨rfl, hb3⟩
    have hP3 := kept hb3 HP.out
    have HB3 : Aside0 (Below w.heap.size w w3) := ⟨HB1.out.trans (hb3.mono (Nat.le_of_lt hl1))⟩
    have hl3 : w.heap.size < w3.heap.size := block_lt hP3
    have q0 := cell_of_block hP3 0
    have q1 := cell_of_block hP3 1
    have q2 := cell_of_block hP3 2
    have q3 := cell_of_block hP3 3
    have q4 := cell_of_block hP3 4
    simp at q0 q1 q2 q3 q4
    clear hb3 hP3
    go_wp2_with fail
    refine (SEC.out _ (HB3.out.alloc (Nat.le_of_lt hl3) _) (by simp; omega)).mono ?_
    rintro e w2 ⟨rfl, hb2⟩
    have HB2 := Aside0.mk hb2
    clear hb2
    have hl2 : w.heap.size ≤ w2.heap.size := HB2.out.size
    rcases HE2.out with ⟨rfl, hk⟩ | rfl
    · obtain ⟨rfl, rfl, rfl, rfl, rfl⟩ : k0 = 0 ∧ k1 = 0 ∧ k2 = 0 ∧ k3 = 0 ∧ k4 = 0 := by simpa using hk
      go_wp2_with fail
      refine (WK.out _).mono ?_
      rintro e w4 ⟨rfl, hb4⟩
      have HB4 : Aside0 (Below w.heap.size w w4) := ⟨(HB2.out.alloc hl2 _).trans (hb4.mono (by simp; omega))⟩
      clear hb4
      simp only []
      go_wp2
      go_ret
      exact ⟨by first | rfl | simp, HB4.out⟩
    · have P2' := P2 rfl
      clear P2
      go_wp2_with fail
      refine (P2'.out _).mono ?_
      rintro e w4 ⟨rfl, hb4⟩
      have HB4 : Aside0 (Below w.heap.size w w4) := ⟨(HB2.out.alloc hl2 _).trans (hb4.mono (by simp; omega))⟩
      clear hb4
      have hl4 : w.heap.size ≤ w4.heap.size := HB4.out.size
      go_wp2_with fail
      refine (WK.out _).mono ?_
      rintro e w5 ⟨rfl, hb5⟩
      have HB5 : Aside0 (Below w.heap.size w w5) := ⟨HB4.out.trans (hb5.mono hl4)⟩
      clear hb5
      simp only []
      go_wp2
      go_ret
      exact ⟨by first | rfl | simp, HB5.out⟩

theorem wf_u8 {n : Int} (h : (Lit.int .u8 n).wf = true) : 0 ≤ n ∧ n < 256 := by
  have h2 : IntKind.u8.min ≤ n ∧ n ≤ IntKind.u8.max := by simpa [Lit.wf] using h
  have e1 : IntKind.u8.min = 0 := by decide
  have e2 : IntKind.u8.max = 256 - 1 := by decide
  omega
theorem wf_u32 {n : Int} (h : (Lit.int .u32 n).wf = true) : 0 ≤ n ∧ n < 4294967296 := by
  have h2 : IntKind.u32.min ≤ n ∧ n ≤ IntKind.u32.max := by simpa [Lit.wf] using h
  have e1 : IntKind.u32.min = 0 := by decide
  have e2 : IntKind.u32.max = 4294967296 - 1 := by decide
  omega
theorem wf_i32 {n : Int} (h : (Lit.int .i32 n).wf = true) : -2147483648 ≤ n ∧ n < 2147483648 := by
  have h2 : IntKind.i32.min ≤ n ∧ n ≤ IntKind.i32.max := by simpa [Lit.wf] using h
  have e1 : IntKind.i32.min = -2147483648 := by decide
  have e2 : IntKind.i32.max = 2147483648 - 1 := by decide
  omega
theorem instrBack_walk (o rd rs1 rs2 imm x : Int) (w : World) (v0 : (Lit.int .u8 o).wf = true) (v1 : (Lit.int .u8 rd).wf = true) (v2 : (Lit.int .u8 rs1).wf = true) (v3 : (Lit.int .u8 rs2).wf = true) (v4 : (Lit.int .i32 imm).wf = true) (v5 : (Lit.int .u32 x).wf = true) :
    Calls Try.prog 10 #[.agg #[.int .u8 o, .int .u8 rd, .int .u8 rs1, .int .u8 rs2, .int .i32 imm], .int .u32 x] w fun e w' => e = .returned (.bool true) ∧ Below w.heap.size w w' := by
  have b0 := wf_u8 v0; have b1 := wf_u8 v1; have b2 := wf_u8 v2; have b3 := wf_u8 v3; have b4 := wf_i32 v4; have b5 := wf_u32 v5
  obtain ⟨⟨a, e1⟩, hp⟩ : ∃ r, putS o rd rs1 rs2 imm = r := ⟨_, rfl⟩
  obtain ⟨⟨k, e2⟩, hg⟩ : ∃ r, getS x = r := ⟨_, rfl⟩
  have hpc := putS_cases o rd rs1 rs2 imm b1.1 b2.1 b3.1 b4
  have hgc := getS_cases x b5.1 b5.2
  rw [hp] at hpc
  rw [hg] at hgc
  refine back_walk o rd rs1 rs2 imm x a e1 e2 k ?_ ?_ ⟨fun w => ?_⟩ ?_ ⟨fun w => ?_⟩ ?_ w
  · rcases hpc with h | ⟨a', h, _⟩
    · exact .inl (congrArg Prod.snd h)
    · exact .inr (congrArg Prod.snd h)
  · rcases hgc with h | ⟨k', h, _⟩
    · exact .inl ⟨congrArg Prod.snd h, congrArg Prod.fst h⟩
    · exact .inr (congrArg Prod.snd h)
  · have h := put_calls o rd rs1 rs2 imm b0 b1 b2 b3 b4 w
    rw [hp] at h; exact h
  · intro h0
    rcases hpc with h | ⟨a', h, ha0, ha1, hga⟩
    · have h2 := congrArg Prod.snd h
      exact absurd (h2.symm.trans h0) (by decide)
    · obtain rfl : a = a' := congrArg Prod.fst h
      refine ⟨fun w => ?_⟩
      have h := get_calls a ha0 ha1 w
      rw [hga] at h; exact h
  · have h := get_calls x b5.1 b5.2 w
    rw [hg] at h; exact h
  · intro h0
    rcases hgc with h | ⟨k', h, c0, c1, c2, c3, c4, hpk⟩
    · have h2 := congrArg Prod.snd h
      exact absurd (h2.symm.trans h0) (by decide)
    · obtain rfl : k = k' := congrArg Prod.fst h
      refine ⟨fun w => ?_⟩
      have h := put_calls k.op k.rd k.rs1 k.rs2 k.imm c0 c1 c2 c3 c4 w
      rw [hpk] at h; exact h
end Go.Proofs.Ythkbjoglhfclmaa.Ins
