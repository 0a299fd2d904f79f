/- The laws InstrPuts and InstrNames, walked over contracts. No condition beyond the kinds' bounds. -/
import Derived.Test.YthkbjoglhfclmaaQInsL
import Derived.Test.YthkbjoglhfclmaaQInsR3
import Derived.Test.YthkbjoglhfclmaaQInsN
namespace Go.Proofs.Ythkbjoglhfclmaa.Ins
open Go.RowKit Go.Proofs.YthkbjoglhfclmaaW.PrintWords Go.Proofs.YthkbjoglhfclmaaW.PrintLast Go.Proofs.Ythkbjoglhfclmaa.Alu Go.Proofs.Ythkbjoglhfclmaa.InsP
set_option linter.unusedVariables false
set_option linter.unusedSimpArgs false

set_option maxHeartbeats 8000000 in
set_option maxRecDepth 100000 in
theorem puts_walk (o rd rs1 rs2 imm x a e1 e2 k0 k1 k2 k3 k4 : Int)
    (P1 : Aside0 (∀ w, Calls Try.prog 25 #[.agg #[.int .u8 o, .int .u8 rd, .int .u8 rs1, .int .u8 rs2, .int .i32 imm]] w fun e w' => e = .returned (.tuple #[.int .u32 a, .int .i64 e1]) ∧ Below w.heap.size w w'))
    (P2 : Aside0 (∀ w, Calls Try.prog 26 #[.agg #[.int .u8 o, .int .u8 rd, .int .u8 rs1, .int .u8 rs2, .int .i32 imm]] w fun e w' => e = .returned (.tuple #[.int .u32 a, .int .i64 e1]) ∧ Below w.heap.size w w'))
    (G1 : Aside0 (∀ w, Calls Try.prog 27 #[.int .u32 x] w fun e w' => e = .returned (.tuple #[.agg #[.int .u8 k0, .int .u8 k1, .int .u8 k2, .int .u8 k3, .int .i32 k4], .int .i64 e2]) ∧ Below w.heap.size w w'))
    (G2 : Aside0 (∀ w, Calls Try.prog 28 #[.int .u32 x] w fun e w' => e = .returned (.tuple #[.agg #[.int .u8 k0, .int .u8 k1, .int .u8 k2, .int .u8 k3, .int .i32 k4], .int .i64 e2]) ∧ Below w.heap.size w w')) (w : World) :
    Calls Try.prog 9 #[.agg #[.int .u8 o, .int .u8 rd, .int .u8 rs1, .int .u8 rs2, .int .i32 imm], .int .u32 x] w fun e w' => e = .returned (.bool true) ∧ Below w.heap.size w w' := by
  have WK : Aside0 (∀ w, Calls Try.prog 29 #[] w fun e w' => e = .returned (.bool true) ∧ Below w.heap.size w w') := ⟨works5_calls⟩
  go_enter Try.func9, Try.ntmps9
  go_wp2_with fail
  refine (P1.out _).mono ?_
  rintro e w1 ⟨rfl, hb⟩
  have hP : InsAt w1 w.heap.size o rd rs1 rs2 imm := kept hb (new_block w _)
  have HB1 : Aside0 (Below w.heap.size w w1) := ⟨((Below.refl _ _).alloc (Nat.le_refl _) _).trans (hb.mono (by simp))⟩
  have hl1 := block_lt hP
  have q0 := cell_of_block hP 0
  have q1 := cell_of_block hP 1
  have q2 := cell_of_block hP 2
  have q3 := cell_of_block hP 3
  have q4 := cell_of_block hP 4
  simp at q0 q1 q2 q3 q4
  clear hb hP
  go_wp2_with fail
  refine (P2.out _).mono ?_
  rintro e w2 ⟨rfl, hb⟩
  have HB2 : Aside0 (Below w.heap.size w w2) := ⟨HB1.out.trans (hb.mono (Nat.le_of_lt hl1))⟩
  have hl2 : w.heap.size ≤ w2.heap.size := HB2.out.size
  clear hb q0 q1 q2 q3 q4
  go_wp2_with fail
  refine (G1.out _).mono ?_
  rintro e w3 ⟨rfl, hb⟩
  have HB3 : Aside0 (Below w.heap.size w w3) := ⟨HB2.out.trans (hb.mono hl2)⟩
  have hl3 : w.heap.size ≤ w3.heap.size := HB3.out.size
  clear hb
  go_wp2_with fail
  refine (G2.out _).mono ?_
  rintro e w4 ⟨rfl, hb⟩
  have hK : InsAt w4 w3.heap.size k0 k1 k2 k3 k4 := kept hb (new_block w3 _)
  have HB4 : Aside0 (Below w.heap.size w w4) := ⟨(HB3.out.alloc hl3 _).trans (hb.mono (by simp; omega))⟩
  have hl4 := block_lt hK
  have q0 := cell_of_block hK 0
  have q1 := cell_of_block hK 1
  have q2 := cell_of_block hK 2
  have q3 := cell_of_block hK 3
  have q4 := cell_of_block hK 4
  simp at q0 q1 q2 q3 q4
  clear hb hK
  go_wp2_with fail
  refine (WK.out _).mono ?_
  rintro e w5 ⟨rfl, hb⟩
  have HB5 : Aside0 (Below w.heap.size w w5) := ⟨(HB4.out.alloc HB4.out.size _).trans (hb.mono (by have := HB4.out.size; simp; omega))⟩
  clear hb
  simp only []
  go_wp2
  go_ret
  exact ⟨by first | rfl | simp, HB5.out⟩
theorem instrPuts_walk (o rd rs1 rs2 imm x : Int) (w : World) (v0 : (Lit.int .u8 o).wf = true) (v1 : (Lit.int .u8 rd).wf = true) (v2 : (Lit.int .u8 rs1).wf = true) (v3 : (Lit.int .u8 rs2).wf = true) (v4 : (Lit.int .i32 imm).wf = true) (v5 : (Lit.int .u32 x).wf = true) :
    Calls Try.prog 9 #[.agg #[.int .u8 o, .int .u8 rd, .int .u8 rs1, .int .u8 rs2, .int .i32 imm], .int .u32 x] w fun e w' => e = .returned (.bool true) ∧ Below w.heap.size w w' := by
  have b0 := wf_u8 v0; have b1 := wf_u8 v1; have b2 := wf_u8 v2; have b3 := wf_u8 v3; have b4 := wf_i32 v4; have b5 := wf_u32 v5
  exact puts_walk o rd rs1 rs2 imm x _ _ _ _ _ _ _ _ ⟨put_calls o rd rs1 rs2 imm b0 b1 b2 b3 b4⟩ ⟨rput_calls o rd rs1 rs2 imm b0 b1 b2 b3 b4⟩ ⟨get_calls x b5.1 b5.2⟩ ⟨rget_calls x b5.1 b5.2⟩ w

set_option maxHeartbeats 8000000 in
set_option maxRecDepth 100000 in
theorem names_walk (o : Int) (s a : ByteArray) (x : Bool) (c : Int) (z : Bool) (p : Int) (is : Bool) (hx : x = true → is = true ∧ p = o)
    (N1 : Aside0 (∀ w, Calls Try.prog 30 #[.int .u8 o] w fun e w' => e = .returned (.tuple #[.string a, .bool x]) ∧ Below w.heap.size w w'))
    (N2 : Aside0 (∀ w, Calls Try.prog 31 #[.int .u8 o] w fun e w' => e = .returned (.tuple #[.string a, .bool x]) ∧ Below w.heap.size w w'))
    (M1 : Aside0 (∀ w, Calls Try.prog 32 #[.string s] w fun e w' => e = .returned (.tuple #[.int .u8 c, .bool z]) ∧ Below w.heap.size w w'))
    (M2 : Aside0 (∀ w, Calls Try.prog 33 #[.string s] w fun e w' => e = .returned (.tuple #[.int .u8 c, .bool z]) ∧ Below w.heap.size w w'))
    (M3 : Aside0 (∀ w, Calls Try.prog 32 #[.string a] w fun e w' => e = .returned (.tuple #[.int .u8 p, .bool is]) ∧ Below w.heap.size w w')) (w : World) :
    Calls Try.prog 12 #[.int .u8 o, .string s] w fun e w' => e = .returned (.bool true) ∧ Below w.heap.size w w' := by
  have WK : Aside0 (∀ w, Calls Try.prog 29 #[] w fun e w' => e = .returned (.bool true) ∧ Below w.heap.size w w') := ⟨works5_calls⟩
  have HX := Aside0.mk hx
  clear hx
  go_enter Try.func12, Try.ntmps12
  go_wp2_with fail
  refine (N1.out _).mono ?_
  rintro e w1 ⟨rfl, hb⟩
  have HB1 : Aside0 (Below w.heap.size w w1) := ⟨hb⟩
  clear hb
  go_wp2_with fail
  refine (N2.out _).mono ?_
  rintro e w2 ⟨rfl, hb⟩
  have HB2 : Aside0 (Below w.heap.size w w2) := ⟨HB1.out.trans (hb.mono HB1.out.size)⟩
  clear hb
  go_wp2_with fail
  refine (M1.out _).mono ?_
  rintro e w3 ⟨rfl, hb⟩
  have HB3 : Aside0 (Below w.heap.size w w3) := ⟨HB2.out.trans (hb.mono HB2.out.size)⟩
  clear hb
  go_wp2_with fail
  refine (M2.out _).mono ?_
  rintro e w4 ⟨rfl, hb⟩
  have HB4 : Aside0 (Below w.heap.size w w4) := ⟨HB3.out.trans (hb.mono HB3.out.size)⟩
  clear hb
  cases z
  all_goals
    cases x
    case' true => obtain ⟨rfl, rfl⟩ := HX.out rfl
    all_goals
      go_wp2_with fail
      refine (M3.out _).mono ?_
      rintro e w5 ⟨rfl, hb⟩
      have HB5 : Aside0 (Below w.heap.size w w5) := ⟨HB4.out.trans (hb.mono HB4.out.size)⟩
      clear hb
      go_wp2_with fail
      refine (WK.out _).mono ?_
      rintro e w6 ⟨rfl, hb⟩
      have HB6 : Aside0 (Below w.heap.size w w6) := ⟨HB5.out.trans (hb.mono HB5.out.size)⟩
      clear hb
      simp only []
      go_wp2
      go_ret
      exact ⟨by first | rfl | simp, HB6.out⟩
theorem instrNames_walk (o : Int) (s : ByteArray) (w : World) (v0 : (Lit.int .u8 o).wf = true) (hs : s.size ≤ 140737488351232) :
    Calls Try.prog 12 #[.int .u8 o, .string s] w fun e w' => e = .returned (.bool true) ∧ Below w.heap.size w w' := by
  have b0 := wf_u8 v0
  refine names_walk o s _ _ _ _ _ _ ?_ ⟨name_calls o b0.1 b0.2⟩ ⟨rname_calls o b0.1 b0.2⟩ ⟨named_calls s⟩ ⟨rnamed_calls s⟩ ⟨named_calls _⟩ w
  intro hx
  by_cases ho : o = 0 ∨ 69 ≤ o
  · rw [nameS_no ho] at hx; cases hx
  · rcases ops_all o.toNat (by omega) with h | ⟨p, hp, hpo⟩
    · omega
    · have e : opP p = o := by omega
      have e2 := nameS_of hp
      rw [e] at e2
      rw [e2]
      have e3 := namedS_of hp
      rw [e3]
      exact ⟨rfl, e⟩
end Go.Proofs.Ythkbjoglhfclmaa.Ins
