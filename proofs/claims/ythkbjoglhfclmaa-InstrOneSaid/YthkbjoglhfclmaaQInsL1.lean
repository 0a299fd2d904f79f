/- The law InstrOne, walked over the contracts of instr.Put and instr.Get. No condition beyond the kinds' bounds. -/
import Derived.Test.YthkbjoglhfclmaaQInsL
namespace Go.Proofs.Ythkbjoglhfclmaa.Ins
open Go.RowKit Go.Proofs.YthkbjoglhfclmaaW.PrintWords Go.Proofs.YthkbjoglhfclmaaW.PrintLast Go.Proofs.YthkbjoglhfclmaaW.PrintMore Go.Proofs.Ythkbjoglhfclmaa.Alu Go.Proofs.Ythkbjoglhfclmaa.InsP
set_option linter.unusedVariables false
set_option linter.unusedSimpArgs false
theorem xor_other (a b : Int) (a0 : 0 ≤ a) (a1 : a < 4294967296) (b0 : 0 ≤ b) (b1 : b < 256) :
    0 ≤ Go.bits .xor .u32 a (2 ^ (b % 32).toNat % 4294967296) ∧ Go.bits .xor .u32 a (2 ^ (b % 32).toNat % 4294967296) < 4294967296 ∧ Go.bits .xor .u32 a (2 ^ (b % 32).toNat % 4294967296) ≠ a := by
  obtain ⟨n, rfl⟩ := Int.eq_ofNat_of_zero_le a0
  have hk : (b % 32).toNat < 32 := by omega
  generalize (b % 32).toNat = k at hk
  have hm : 2 ^ k < 4294967296 := by
    rw [show (4294967296 : Nat) = 2 ^ 32 from by decide]
    exact Nat.pow_lt_pow_right (by decide) hk
  have e : ((2 : Int) ^ k % 4294967296) = ((2 ^ k : Nat) : Int) := by
    have hh : (2 : Int) ^ k = ((2 ^ k : Nat) : Int) := (Int.natCast_pow 2 k).symm
    rw [hh]
    generalize (2 ^ k : Nat) = z at hm
    omega
  have ex : Go.bits .xor .u32 (n : Int) ((2 ^ k : Nat) : Int) = ((n ^^^ 2 ^ k : Nat) : Int) := by
    have hx : n ^^^ 2 ^ k < 2 ^ 32 := Nat.xor_lt_two_pow (by omega) hm
    have : (BitVec.ofInt 32 (n : Int) ^^^ BitVec.ofInt 32 ((2 ^ k : Nat) : Int)).toNat = n ^^^ 2 ^ k := by
      rw [BitVec.toNat_xor, BitVec.ofInt_natCast, BitVec.ofInt_natCast, BitVec.toNat_ofNat, BitVec.toNat_ofNat, Nat.mod_eq_of_lt (by omega), Nat.mod_eq_of_lt hm]
    show IntKind.u32.wrap ((BitVec.ofInt 32 (n : Int) ^^^ BitVec.ofInt 32 ((2 ^ k : Nat) : Int)).toNat) = _
    rw [this, IntKind.wrap_u32]
    omega
  rw [e, ex]
  have hx : n ^^^ 2 ^ k < 2 ^ 32 := Nat.xor_lt_two_pow (by omega) hm
  refine ⟨by omega, by omega, fun h => ?_⟩
  have h2 : n ^^^ 2 ^ k = n := by omega
  have h3 := congrArg (fun x => x.testBit k) h2
  simp [Nat.testBit_xor, Nat.testBit_two_pow_self] at h3

set_option maxHeartbeats 8000000 in
set_option maxRecDepth 100000 in
theorem one_bad (o rd rs1 rs2 imm b : Int)
    (P1 : Aside0 (∀ w, Calls Try.prog 25 #[.agg #[.int .u8 o, .int .u8 rd, .int .u8 rs1, .int .u8 rs2, .int .i32 imm]] w fun e w' => e = .returned (.tuple #[.int .u32 0, .int .i64 2]) ∧ Below w.heap.size w w')) (w : World) :
    Calls Try.prog 11 #[.agg #[.int .u8 o, .int .u8 rd, .int .u8 rs1, .int .u8 rs2, .int .i32 imm], .int .u8 b] w fun e w' => e = .returned (.bool true) ∧ Below w.heap.size w w' := by
  have WK : Aside0 (∀ w, Calls Try.prog 29 #[] w fun e w' => e = .returned (.bool true) ∧ Below w.heap.size w w') := ⟨works5_calls⟩
  go_enter Try.func11, Try.ntmps11
  go_wp2_with fail
  refine (P1.out _).mono ?_
  rintro e w1 ⟨rfl, hb⟩
  have HB1 : Aside0 (Below w.heap.size w w1) := ⟨((Below.refl _ _).alloc (Nat.le_refl _) _).trans (hb.mono (by simp))⟩
  clear hb
  go_wp2_with fail
  refine (WK.out _).mono ?_
  rintro e w4 ⟨rfl, hb4⟩
  have HB4 : Aside0 (Below w.heap.size w w4) := ⟨HB1.out.trans (hb4.mono HB1.out.size)⟩
  clear hb4
  simp only []
  go_wp2
  go_ret
  exact ⟨by first | rfl | simp, HB4.out⟩
set_option maxHeartbeats 8000000 in
set_option maxRecDepth 100000 in
theorem one_walk (o rd rs1 rs2 imm b a y e2 : Int) (k0 k1 k2 k3 k4 : Int) (b5 : 0 ≤ b ∧ b < 256) (hy : Go.bits .xor .u32 a (2 ^ (b % 32).toNat % 4294967296) = y)
    (hne : e2 = 5 ∨ (e2 = 0 ∧ ¬ (k0 = o ∧ k1 = rd ∧ k2 = rs1 ∧ k3 = rs2 ∧ k4 = imm)))
    (P1 : Aside0 (∀ w, Calls Try.prog 25 #[.agg #[.int .u8 o, .int .u8 rd, .int .u8 rs1, .int .u8 rs2, .int .i32 imm]] w fun e w' => e = .returned (.tuple #[.int .u32 a, .int .i64 0]) ∧ Below w.heap.size w w'))
    (G2 : Aside0 (∀ w, Calls Try.prog 27 #[.int .u32 y] w fun e w' => e = .returned (.tuple #[.agg #[.int .u8 k0, .int .u8 k1, .int .u8 k2, .int .u8 k3, .int .i32 k4], .int .i64 e2]) ∧ Below w.heap.size w w')) (w : World) :
    Calls Try.prog 11 #[.agg #[.int .u8 o, .int .u8 rd, .int .u8 rs1, .int .u8 rs2, .int .i32 imm], .int .u8 b] w fun e w' => e = .returned (.bool true) ∧ Below w.heap.size w w' := by
  have WK : Aside0 (∀ w, Calls Try.prog 29 #[] w fun e w' => e = .returned (.bool true) ∧ Below w.heap.size w w') := ⟨works5_calls⟩
  have HY := Aside0.mk hy
  have HNE := Aside0.mk hne
  clear hy hne
  go_enter Try.func11, Try.ntmps11
  go_wp2_with fail
  refine (P1.out _).mono ?_
  rintro e w1 ⟨rfl, hb⟩
  have hP : InsAt w1 w.heap.size o rd rs1 rs2 imm := kept hb (new_block w _)
  have HB1 : Aside0 (Below w.heap.size w w1) := ⟨((Below.refl _ _).alloc (Nat.le_refl _) _).trans (hb.mono (by simp))⟩
  have hl1 := block_lt hP
  have HP := Aside0.mk hP
  clear hb hP
  go_wp2_with fail
  rw [HY.out]
  refine (G2.out _).mono ?_
  rintro e w2 ⟨rfl, hb2⟩
  have hP2 := kept hb2 HP.out
  have hl2 : w.heap.size < w2.heap.size := block_lt hP2
  have HB2 : Aside0 (Below w.heap.size w w2) := ⟨HB1.out.trans (hb2.mono (Nat.le_of_lt hl1))⟩
  have q0 := cell_of_block hP2 0
  have q1 := cell_of_block hP2 1
  have q2 := cell_of_block hP2 2
  have q3 := cell_of_block hP2 3
  have q4 := cell_of_block hP2 4
  simp at q0 q1 q2 q3 q4
  clear hb2 hP2
  have key : e2 = 5 ∨ (e2 = 0 ∧ ((k0 == o) = false ∨ (k0 = o ∧ (k1 == rd) = false) ∨ (k0 = o ∧ k1 = rd ∧ (k2 == rs1) = false) ∨ (k0 = o ∧ k1 = rd ∧ k2 = rs1 ∧ (k3 == rs2) = false) ∨ (k0 = o ∧ k1 = rd ∧ k2 = rs1 ∧ k3 = rs2 ∧ (k4 == imm) = false))) := by
    have h := HNE.out
    simp only [beq_eq_false_iff_ne, ne_eq]
    omega
  rcases key with rfl | ⟨rfl, t | ⟨rfl, t⟩ | ⟨rfl, rfl, t⟩ | ⟨rfl, rfl, rfl, t⟩ | ⟨rfl, rfl, rfl, rfl, t⟩⟩
  all_goals
    go_wp2_with fail
    refine (WK.out _).mono ?_
    rintro e w4 ⟨rfl, hb4⟩
    have HB4 : Aside0 (Below w.heap.size w w4) := ⟨(HB2.out.alloc (Nat.le_of_lt hl2) _).trans (hb4.mono (by simp; omega))⟩
    clear hb4
    simp only []
    go_wp2
    go_ret
    exact ⟨by first | rfl | simp, HB4.out⟩
theorem instrOne_walk (o rd rs1 rs2 imm b : Int) (w : World) (v0 : (Lit.int .u8 o).wf = true) (v1 : (Lit.int .u8 rd).wf = true) (v2 : (Lit.int .u8 rs1).wf = true) (v3 : (Lit.int .u8 rs2).wf = true) (v4 : (Lit.int .i32 imm).wf = true) (v5 : (Lit.int .u8 b).wf = true) :
    Calls Try.prog 11 #[.agg #[.int .u8 o, .int .u8 rd, .int .u8 rs1, .int .u8 rs2, .int .i32 imm], .int .u8 b] w fun e w' => e = .returned (.bool true) ∧ Below w.heap.size w w' := by
  have b0 := wf_u8 v0; have b1 := wf_u8 v1; have b2 := wf_u8 v2; have b3 := wf_u8 v3; have b4 := wf_i32 v4; have b5 := wf_u8 v5
  rcases putS_cases o rd rs1 rs2 imm b1.1 b2.1 b3.1 b4 with hp | ⟨a, hp, a0, a1, _⟩
  · refine one_bad o rd rs1 rs2 imm b ⟨fun w => ?_⟩ w
    have h := put_calls o rd rs1 rs2 imm b0 b1 b2 b3 b4 w
    rw [hp] at h; exact h
  · obtain ⟨y0, y1, yne⟩ := xor_other a b a0 a1 b5.1 b5.2
    obtain ⟨y, hy⟩ : ∃ y, Go.bits .xor .u32 a (2 ^ (b % 32).toNat % 4294967296) = y := ⟨_, rfl⟩
    rw [hy] at y0 y1 yne
    obtain ⟨⟨k, e2⟩, hg⟩ : ∃ r, getS y = r := ⟨_, rfl⟩
    have hgc := getS_cases y y0 y1
    rw [hg] at hgc
    refine one_walk o rd rs1 rs2 imm b a y e2 k.op k.rd k.rs1 k.rs2 k.imm b5 hy ?_ ⟨fun w => ?_⟩ ⟨fun w => ?_⟩ w
    · rcases hgc with h | ⟨k', h, _, _, _, _, _, hpk⟩
      · exact .inl (congrArg Prod.snd h)
      · obtain rfl : k = k' := congrArg Prod.fst h
        refine .inr ⟨congrArg Prod.snd h, fun ⟨q0, q1, q2, q3, q4⟩ => yne ?_⟩
        rw [q0, q1, q2, q3, q4, hp] at hpk
        exact (congrArg Prod.fst hpk).symm
    · have h := put_calls o rd rs1 rs2 imm b0 b1 b2 b3 b4 w
      rw [hp] at h; exact h
    · have h := get_calls y y0 y1 w
      rw [hg] at h; exact h
end Go.Proofs.Ythkbjoglhfclmaa.Ins
