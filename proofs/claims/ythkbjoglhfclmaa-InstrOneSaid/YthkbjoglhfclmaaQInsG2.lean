/- What instr.Put hands back of any instruction: putS. No condition beyond the kinds' bounds. -/
import Derived.Test.YthkbjoglhfclmaaQInsE0
import Derived.Test.YthkbjoglhfclmaaQInsE1
import Derived.Test.YthkbjoglhfclmaaQInsE2
import Derived.Test.YthkbjoglhfclmaaQInsE3
import Derived.Test.YthkbjoglhfclmaaQInsE4
import Derived.Test.YthkbjoglhfclmaaQInsE5
import Derived.Test.YthkbjoglhfclmaaQInsE6
import Derived.Test.YthkbjoglhfclmaaQInsE7
import Derived.Test.YthkbjoglhfclmaaQInsE8
import Derived.Test.YthkbjoglhfclmaaQInsE9
import Derived.Test.YthkbjoglhfclmaaQInsG0
namespace Go.Proofs.Ythkbjoglhfclmaa.Ins
open Go.RowKit Go.Proofs.YthkbjoglhfclmaaW.PrintWords Go.Proofs.YthkbjoglhfclmaaW.PrintLast Go.Proofs.YthkbjoglhfclmaaW.PrintMore Go.Proofs.Ythkbjoglhfclmaa.Alu Go.Proofs.Ythkbjoglhfclmaa.InsP
set_option linter.unusedVariables false
set_option linter.unusedSimpArgs false
/-- The value of a word and its error. -/
def putV (r : Int × Int) : Value := .tuple #[.int .u32 r.1, .int .i64 r.2]
theorem put_form_0 (k i : Nat) (hk : k < 18) (hi : i < (fam k).words.length) (hf : (fam k).form = 0) (rd rs1 rs2 imm : Int) (b1 : 0 ≤ rd ∧ rd < 256) (b2 : 0 ≤ rs1 ∧ rs1 < 256) (b3 : 0 ≤ rs2 ∧ rs2 < 256) (b4 : -2147483648 ≤ imm ∧ imm < 2147483648) (w : World) :
    Calls Try.prog 25 #[.agg #[.int .u8 ((fam k).first + i), .int .u8 rd, .int .u8 rs1, .int .u8 rs2, .int .i32 imm]] w fun e w' => e = .returned (putV (putS ((fam k).first + i) rd rs1 rs2 imm)) ∧ Below w.heap.size w w' := by
  have hp : (k, i) ∈ pairs := mem_pairs hk hi
  have e := putS_of hp rd rs1 rs2 imm
  have hfP : formP (k, i) = 0 := hf
  obtain ⟨_, w0, w1, wm, _⟩ := words_in (k, i) hp
  rw [hfP] at e wm
  change putS ((fam k).first + i) rd rs1 rs2 imm = if okS 0 ((fam k).first + i) rd rs1 rs2 imm then (wordS 0 ((fam k).words.getD i 0) rd rs1 rs2 imm, 0) else (0, 2) at e
  change maskA 0 ((fam k).words.getD i 0) = (fam k).words.getD i 0 at wm
  have I : (getF 0 (putF 0 (imm % 4294967296)) != imm) = !(immOk 0 imm) := by rw [← imm_is 0 (by decide) imm b4.1 b4.2, Bool.not_not]
  have no : okS 0 ((fam k).first + i) rd rs1 rs2 imm = false → putV (putS ((fam k).first + i) rd rs1 rs2 imm) = .tuple #[.int .u32 0, .int .i64 2] := fun h => by rw [e, h]; rfl
  cases hA : regOk (hRd 0) rd with
  | false => rw [no (by simp [okS, hA])]; exact put_0_1 k i hk hi hf rd rs1 rs2 imm b1 b2 b3 b4 hA w
  | true =>
    cases hB : regOk (hRs1 0) rs1 with
    | false => rw [no (by simp [okS, hB])]; exact put_0_2 k i hk hi hf rd rs1 rs2 imm b1 b2 b3 b4 hA hB w
    | true =>
      cases hC : regOk (hRs2 0) rs2 with
      | false => rw [no (by simp [okS, hC])]; exact put_0_3 k i hk hi hf rd rs1 rs2 imm b1 b2 b3 b4 hA hB hC w
      | true =>
        cases hE : immOk 0 imm with
        | false => rw [no (by simp [okS, hE])]; rw [hE] at I; exact put_0_4 k i hk hi hf rd rs1 rs2 imm b1 b2 b3 b4 hA hB hC I w
        | true =>
          rw [hE] at I
          cases hS : specB ((fam k).first + i) imm with
          | false => rw [no (by simp [okS, hS])]; exact put_0_5 k i hk hi hf rd rs1 rs2 imm b1 b2 b3 b4 hA hB hC I hS w
          | true =>
            have ok : okS 0 ((fam k).first + i) rd rs1 rs2 imm = true := by simp [okS, hA, hB, hC, hE, hS]
            have o := or_word 0 (by decide) ((fam k).first + i) ((fam k).words.getD i 0) rd rs1 rs2 imm w0 w1 wm b1.1 b2.1 b3.1 b4 ok
            rw [e, ok, if_pos rfl, ← o]
            exact put_0_6 k i hk hi hf rd rs1 rs2 imm b1 b2 b3 b4 hA hB hC I hS w
theorem put_form_1 (k i : Nat) (hk : k < 18) (hi : i < (fam k).words.length) (hf : (fam k).form = 1) (rd rs1 rs2 imm : Int) (b1 : 0 ≤ rd ∧ rd < 256) (b2 : 0 ≤ rs1 ∧ rs1 < 256) (b3 : 0 ≤ rs2 ∧ rs2 < 256) (b4 : -2147483648 ≤ imm ∧ imm < 2147483648) (w : World) :
    Calls Try.prog 25 #[.agg #[.int .u8 ((fam k).first + i), .int .u8 rd, .int .u8 rs1, .int .u8 rs2, .int .i32 imm]] w fun e w' => e = .returned (putV (putS ((fam k).first + i) rd rs1 rs2 imm)) ∧ Below w.heap.size w w' := by
  have hp : (k, i) ∈ pairs := mem_pairs hk hi
  have e := putS_of hp rd rs1 rs2 imm
  have hfP : formP (k, i) = 1 := hf
  obtain ⟨_, w0, w1, wm, _⟩ := words_in (k, i) hp
  rw [hfP] at e wm
  change putS ((fam k).first + i) rd rs1 rs2 imm = if okS 1 ((fam k).first + i) rd rs1 rs2 imm then (wordS 1 ((fam k).words.getD i 0) rd rs1 rs2 imm, 0) else (0, 2) at e
  change maskA 1 ((fam k).words.getD i 0) = (fam k).words.getD i 0 at wm
  have I : (getF 1 (putF 1 (imm % 4294967296)) != imm) = !(immOk 1 imm) := by rw [← imm_is 1 (by decide) imm b4.1 b4.2, Bool.not_not]
  have no : okS 1 ((fam k).first + i) rd rs1 rs2 imm = false → putV (putS ((fam k).first + i) rd rs1 rs2 imm) = .tuple #[.int .u32 0, .int .i64 2] := fun h => by rw [e, h]; rfl
  cases hA : regOk (hRd 1) rd with
  | false => rw [no (by simp [okS, hA])]; exact put_1_1 k i hk hi hf rd rs1 rs2 imm b1 b2 b3 b4 hA w
  | true =>
    cases hB : regOk (hRs1 1) rs1 with
    | false => rw [no (by simp [okS, hB])]; exact put_1_2 k i hk hi hf rd rs1 rs2 imm b1 b2 b3 b4 hA hB w
    | true =>
      cases hC : regOk (hRs2 1) rs2 with
      | false => rw [no (by simp [okS, hC])]; exact put_1_3 k i hk hi hf rd rs1 rs2 imm b1 b2 b3 b4 hA hB hC w
      | true =>
        cases hE : immOk 1 imm with
        | false => rw [no (by simp [okS, hE])]; rw [hE] at I; exact put_1_4 k i hk hi hf rd rs1 rs2 imm b1 b2 b3 b4 hA hB hC I w
        | true =>
          rw [hE] at I
          cases hS : specB ((fam k).first + i) imm with
          | false => rw [no (by simp [okS, hS])]; exact put_1_5 k i hk hi hf rd rs1 rs2 imm b1 b2 b3 b4 hA hB hC I hS w
          | true =>
            have ok : okS 1 ((fam k).first + i) rd rs1 rs2 imm = true := by simp [okS, hA, hB, hC, hE, hS]
            have o := or_word 1 (by decide) ((fam k).first + i) ((fam k).words.getD i 0) rd rs1 rs2 imm w0 w1 wm b1.1 b2.1 b3.1 b4 ok
            rw [e, ok, if_pos rfl, ← o]
            exact put_1_6 k i hk hi hf rd rs1 rs2 imm b1 b2 b3 b4 hA hB hC I hS w
theorem put_form_2 (k i : Nat) (hk : k < 18) (hi : i < (fam k).words.length) (hf : (fam k).form = 2) (rd rs1 rs2 imm : Int) (b1 : 0 ≤ rd ∧ rd < 256) (b2 : 0 ≤ rs1 ∧ rs1 < 256) (b3 : 0 ≤ rs2 ∧ rs2 < 256) (b4 : -2147483648 ≤ imm ∧ imm < 2147483648) (w : World) :
    Calls Try.prog 25 #[.agg #[.int .u8 ((fam k).first + i), .int .u8 rd, .int .u8 rs1, .int .u8 rs2, .int .i32 imm]] w fun e w' => e = .returned (putV (putS ((fam k).first + i) rd rs1 rs2 imm)) ∧ Below w.heap.size w w' := by
  have hp : (k, i) ∈ pairs := mem_pairs hk hi
  have e := putS_of hp rd rs1 rs2 imm
  have hfP : formP (k, i) = 2 := hf
  obtain ⟨_, w0, w1, wm, _⟩ := words_in (k, i) hp
  rw [hfP] at e wm
  change putS ((fam k).first + i) rd rs1 rs2 imm = if okS 2 ((fam k).first + i) rd rs1 rs2 imm then (wordS 2 ((fam k).words.getD i 0) rd rs1 rs2 imm, 0) else (0, 2) at e
  change maskA 2 ((fam k).words.getD i 0) = (fam k).words.getD i 0 at wm
  have I : (getF 2 (putF 2 (imm % 4294967296)) != imm) = !(immOk 2 imm) := by rw [← imm_is 2 (by decide) imm b4.1 b4.2, Bool.not_not]
  have no : okS 2 ((fam k).first + i) rd rs1 rs2 imm = false → putV (putS ((fam k).first + i) rd rs1 rs2 imm) = .tuple #[.int .u32 0, .int .i64 2] := fun h => by rw [e, h]; rfl
  cases hA : regOk (hRd 2) rd with
  | false => rw [no (by simp [okS, hA])]; exact put_2_1 k i hk hi hf rd rs1 rs2 imm b1 b2 b3 b4 hA w
  | true =>
    cases hB : regOk (hRs1 2) rs1 with
    | false => rw [no (by simp [okS, hB])]; exact put_2_2 k i hk hi hf rd rs1 rs2 imm b1 b2 b3 b4 hA hB w
    | true =>
      cases hC : regOk (hRs2 2) rs2 with
      | false => rw [no (by simp [okS, hC])]; exact put_2_3 k i hk hi hf rd rs1 rs2 imm b1 b2 b3 b4 hA hB hC w
      | true =>
        cases hE : immOk 2 imm with
        | false => rw [no (by simp [okS, hE])]; rw [hE] at I; exact put_2_4 k i hk hi hf rd rs1 rs2 imm b1 b2 b3 b4 hA hB hC I w
        | true =>
          rw [hE] at I
          cases hS : specB ((fam k).first + i) imm with
          | false => rw [no (by simp [okS, hS])]; exact put_2_5 k i hk hi hf rd rs1 rs2 imm b1 b2 b3 b4 hA hB hC I hS w
          | true =>
            have ok : okS 2 ((fam k).first + i) rd rs1 rs2 imm = true := by simp [okS, hA, hB, hC, hE, hS]
            have o := or_word 2 (by decide) ((fam k).first + i) ((fam k).words.getD i 0) rd rs1 rs2 imm w0 w1 wm b1.1 b2.1 b3.1 b4 ok
            rw [e, ok, if_pos rfl, ← o]
            exact put_2_6 k i hk hi hf rd rs1 rs2 imm b1 b2 b3 b4 hA hB hC I hS w
theorem put_form_3 (k i : Nat) (hk : k < 18) (hi : i < (fam k).words.length) (hf : (fam k).form = 3) (rd rs1 rs2 imm : Int) (b1 : 0 ≤ rd ∧ rd < 256) (b2 : 0 ≤ rs1 ∧ rs1 < 256) (b3 : 0 ≤ rs2 ∧ rs2 < 256) (b4 : -2147483648 ≤ imm ∧ imm < 2147483648) (w : World) :
    Calls Try.prog 25 #[.agg #[.int .u8 ((fam k).first + i), .int .u8 rd, .int .u8 rs1, .int .u8 rs2, .int .i32 imm]] w fun e w' => e = .returned (putV (putS ((fam k).first + i) rd rs1 rs2 imm)) ∧ Below w.heap.size w w' := by
  have hp : (k, i) ∈ pairs := mem_pairs hk hi
  have e := putS_of hp rd rs1 rs2 imm
  have hfP : formP (k, i) = 3 := hf
  obtain ⟨_, w0, w1, wm, _⟩ := words_in (k, i) hp
  rw [hfP] at e wm
  change putS ((fam k).first + i) rd rs1 rs2 imm = if okS 3 ((fam k).first + i) rd rs1 rs2 imm then (wordS 3 ((fam k).words.getD i 0) rd rs1 rs2 imm, 0) else (0, 2) at e
  change maskA 3 ((fam k).words.getD i 0) = (fam k).words.getD i 0 at wm
  have I : (getF 3 (putF 3 (imm % 4294967296)) != imm) = !(immOk 3 imm) := by rw [← imm_is 3 (by decide) imm b4.1 b4.2, Bool.not_not]
  have no : okS 3 ((fam k).first + i) rd rs1 rs2 imm = false → putV (putS ((fam k).first + i) rd rs1 rs2 imm) = .tuple #[.int .u32 0, .int .i64 2] := fun h => by rw [e, h]; rfl
  cases hA : regOk (hRd 3) rd with
  | false => rw [no (by simp [okS, hA])]; exact put_3_1 k i hk hi hf rd rs1 rs2 imm b1 b2 b3 b4 hA w
  | true =>
    cases hB : regOk (hRs1 3) rs1 with
    | false => rw [no (by simp [okS, hB])]; exact put_3_2 k i hk hi hf rd rs1 rs2 imm b1 b2 b3 b4 hA hB w
    | true =>
      cases hC : regOk (hRs2 3) rs2 with
      | false => rw [no (by simp [okS, hC])]; exact put_3_3 k i hk hi hf rd rs1 rs2 imm b1 b2 b3 b4 hA hB hC w
      | true =>
        cases hE : immOk 3 imm with
        | false => rw [no (by simp [okS, hE])]; rw [hE] at I; exact put_3_4 k i hk hi hf rd rs1 rs2 imm b1 b2 b3 b4 hA hB hC I w
        | true =>
          rw [hE] at I
          cases hS : specB ((fam k).first + i) imm with
          | false => rw [no (by simp [okS, hS])]; exact put_3_5 k i hk hi hf rd rs1 rs2 imm b1 b2 b3 b4 hA hB hC I hS w
          | true =>
            have ok : okS 3 ((fam k).first + i) rd rs1 rs2 imm = true := by simp [okS, hA, hB, hC, hE, hS]
            have o := or_word 3 (by decide) ((fam k).first + i) ((fam k).words.getD i 0) rd rs1 rs2 imm w0 w1 wm b1.1 b2.1 b3.1 b4 ok
            rw [e, ok, if_pos rfl, ← o]
            exact put_3_6 k i hk hi hf rd rs1 rs2 imm b1 b2 b3 b4 hA hB hC I hS w
theorem put_form_4 (k i : Nat) (hk : k < 18) (hi : i < (fam k).words.length) (hf : (fam k).form = 4) (rd rs1 rs2 imm : Int) (b1 : 0 ≤ rd ∧ rd < 256) (b2 : 0 ≤ rs1 ∧ rs1 < 256) (b3 : 0 ≤ rs2 ∧ rs2 < 256) (b4 : -2147483648 ≤ imm ∧ imm < 2147483648) (w : World) :
    Calls Try.prog 25 #[.agg #[.int .u8 ((fam k).first + i), .int .u8 rd, .int .u8 rs1, .int .u8 rs2, .int .i32 imm]] w fun e w' => e = .returned (putV (putS ((fam k).first + i) rd rs1 rs2 imm)) ∧ Below w.heap.size w w' := by
  have hp : (k, i) ∈ pairs := mem_pairs hk hi
  have e := putS_of hp rd rs1 rs2 imm
  have hfP : formP (k, i) = 4 := hf
  obtain ⟨_, w0, w1, wm, _⟩ := words_in (k, i) hp
  rw [hfP] at e wm
  change putS ((fam k).first + i) rd rs1 rs2 imm = if okS 4 ((fam k).first + i) rd rs1 rs2 imm then (wordS 4 ((fam k).words.getD i 0) rd rs1 rs2 imm, 0) else (0, 2) at e
  change maskA 4 ((fam k).words.getD i 0) = (fam k).words.getD i 0 at wm
  have I : (getF 4 (putF 4 (imm % 4294967296)) != imm) = !(immOk 4 imm) := by rw [← imm_is 4 (by decide) imm b4.1 b4.2, Bool.not_not]
  have no : okS 4 ((fam k).first + i) rd rs1 rs2 imm = false → putV (putS ((fam k).first + i) rd rs1 rs2 imm) = .tuple #[.int .u32 0, .int .i64 2] := fun h => by rw [e, h]; rfl
  cases hA : regOk (hRd 4) rd with
  | false => rw [no (by simp [okS, hA])]; exact put_4_1 k i hk hi hf rd rs1 rs2 imm b1 b2 b3 b4 hA w
  | true =>
    cases hB : regOk (hRs1 4) rs1 with
    | false => rw [no (by simp [okS, hB])]; exact put_4_2 k i hk hi hf rd rs1 rs2 imm b1 b2 b3 b4 hA hB w
    | true =>
      cases hC : regOk (hRs2 4) rs2 with
      | false => rw [no (by simp [okS, hC])]; exact put_4_3 k i hk hi hf rd rs1 rs2 imm b1 b2 b3 b4 hA hB hC w
      | true =>
        cases hE : immOk 4 imm with
        | false => rw [no (by simp [okS, hE])]; rw [hE] at I; exact put_4_4 k i hk hi hf rd rs1 rs2 imm b1 b2 b3 b4 hA hB hC I w
        | true =>
          rw [hE] at I
          cases hS : specB ((fam k).first + i) imm with
          | false => rw [no (by simp [okS, hS])]; exact put_4_5 k i hk hi hf rd rs1 rs2 imm b1 b2 b3 b4 hA hB hC I hS w
          | true =>
            have ok : okS 4 ((fam k).first + i) rd rs1 rs2 imm = true := by simp [okS, hA, hB, hC, hE, hS]
            have o := or_word 4 (by decide) ((fam k).first + i) ((fam k).words.getD i 0) rd rs1 rs2 imm w0 w1 wm b1.1 b2.1 b3.1 b4 ok
            rw [e, ok, if_pos rfl, ← o]
            exact put_4_6 k i hk hi hf rd rs1 rs2 imm b1 b2 b3 b4 hA hB hC I hS w
theorem put_form_5 (k i : Nat) (hk : k < 18) (hi : i < (fam k).words.length) (hf : (fam k).form = 5) (rd rs1 rs2 imm : Int) (b1 : 0 ≤ rd ∧ rd < 256) (b2 : 0 ≤ rs1 ∧ rs1 < 256) (b3 : 0 ≤ rs2 ∧ rs2 < 256) (b4 : -2147483648 ≤ imm ∧ imm < 2147483648) (w : World) :
    Calls Try.prog 25 #[.agg #[.int .u8 ((fam k).first + i), .int .u8 rd, .int .u8 rs1, .int .u8 rs2, .int .i32 imm]] w fun e w' => e = .returned (putV (putS ((fam k).first + i) rd rs1 rs2 imm)) ∧ Below w.heap.size w w' := by
  have hp : (k, i) ∈ pairs := mem_pairs hk hi
  have e := putS_of hp rd rs1 rs2 imm
  have hfP : formP (k, i) = 5 := hf
  obtain ⟨_, w0, w1, wm, _⟩ := words_in (k, i) hp
  rw [hfP] at e wm
  change putS ((fam k).first + i) rd rs1 rs2 imm = if okS 5 ((fam k).first + i) rd rs1 rs2 imm then (wordS 5 ((fam k).words.getD i 0) rd rs1 rs2 imm, 0) else (0, 2) at e
  change maskA 5 ((fam k).words.getD i 0) = (fam k).words.getD i 0 at wm
  have I : (getF 5 (putF 5 (imm % 4294967296)) != imm) = !(immOk 5 imm) := by rw [← imm_is 5 (by decide) imm b4.1 b4.2, Bool.not_not]
  have no : okS 5 ((fam k).first + i) rd rs1 rs2 imm = false → putV (putS ((fam k).first + i) rd rs1 rs2 imm) = .tuple #[.int .u32 0, .int .i64 2] := fun h => by rw [e, h]; rfl
  cases hA : regOk (hRd 5) rd with
  | false => rw [no (by simp [okS, hA])]; exact put_5_1 k i hk hi hf rd rs1 rs2 imm b1 b2 b3 b4 hA w
  | true =>
    cases hB : regOk (hRs1 5) rs1 with
    | false => rw [no (by simp [okS, hB])]; exact put_5_2 k i hk hi hf rd rs1 rs2 imm b1 b2 b3 b4 hA hB w
    | true =>
      cases hC : regOk (hRs2 5) rs2 with
      | false => rw [no (by simp [okS, hC])]; exact put_5_3 k i hk hi hf rd rs1 rs2 imm b1 b2 b3 b4 hA hB hC w
      | true =>
        cases hE : immOk 5 imm with
        | false => rw [no (by simp [okS, hE])]; rw [hE] at I; exact put_5_4 k i hk hi hf rd rs1 rs2 imm b1 b2 b3 b4 hA hB hC I w
        | true =>
          rw [hE] at I
          cases hS : specB ((fam k).first + i) imm with
          | false => rw [no (by simp [okS, hS])]; exact put_5_5 k i hk hi hf rd rs1 rs2 imm b1 b2 b3 b4 hA hB hC I hS w
          | true =>
            have ok : okS 5 ((fam k).first + i) rd rs1 rs2 imm = true := by simp [okS, hA, hB, hC, hE, hS]
            have o := or_word 5 (by decide) ((fam k).first + i) ((fam k).words.getD i 0) rd rs1 rs2 imm w0 w1 wm b1.1 b2.1 b3.1 b4 ok
            rw [e, ok, if_pos rfl, ← o]
            exact put_5_6 k i hk hi hf rd rs1 rs2 imm b1 b2 b3 b4 hA hB hC I hS w
theorem put_form_6 (k i : Nat) (hk : k < 18) (hi : i < (fam k).words.length) (hf : (fam k).form = 6) (rd rs1 rs2 imm : Int) (b1 : 0 ≤ rd ∧ rd < 256) (b2 : 0 ≤ rs1 ∧ rs1 < 256) (b3 : 0 ≤ rs2 ∧ rs2 < 256) (b4 : -2147483648 ≤ imm ∧ imm < 2147483648) (w : World) :
    Calls Try.prog 25 #[.agg #[.int .u8 ((fam k).first + i), .int .u8 rd, .int .u8 rs1, .int .u8 rs2, .int .i32 imm]] w fun e w' => e = .returned (putV (putS ((fam k).first + i) rd rs1 rs2 imm)) ∧ Below w.heap.size w w' := by
  have hp : (k, i) ∈ pairs := mem_pairs hk hi
  have e := putS_of hp rd rs1 rs2 imm
  have hfP : formP (k, i) = 6 := hf
  obtain ⟨_, w0, w1, wm, _⟩ := words_in (k, i) hp
  rw [hfP] at e wm
  change putS ((fam k).first + i) rd rs1 rs2 imm = if okS 6 ((fam k).first + i) rd rs1 rs2 imm then (wordS 6 ((fam k).words.getD i 0) rd rs1 rs2 imm, 0) else (0, 2) at e
  change maskA 6 ((fam k).words.getD i 0) = (fam k).words.getD i 0 at wm
  have I : (getF 6 (putF 6 (imm % 4294967296)) != imm) = !(immOk 6 imm) := by rw [← imm_is 6 (by decide) imm b4.1 b4.2, Bool.not_not]
  have no : okS 6 ((fam k).first + i) rd rs1 rs2 imm = false → putV (putS ((fam k).first + i) rd rs1 rs2 imm) = .tuple #[.int .u32 0, .int .i64 2] := fun h => by rw [e, h]; rfl
  cases hA : regOk (hRd 6) rd with
  | false => rw [no (by simp [okS, hA])]; exact put_6_1 k i hk hi hf rd rs1 rs2 imm b1 b2 b3 b4 hA w
  | true =>
    cases hB : regOk (hRs1 6) rs1 with
    | false => rw [no (by simp [okS, hB])]; exact put_6_2 k i hk hi hf rd rs1 rs2 imm b1 b2 b3 b4 hA hB w
    | true =>
      cases hC : regOk (hRs2 6) rs2 with
      | false => rw [no (by simp [okS, hC])]; exact put_6_3 k i hk hi hf rd rs1 rs2 imm b1 b2 b3 b4 hA hB hC w
      | true =>
        cases hE : immOk 6 imm with
        | false => rw [no (by simp [okS, hE])]; rw [hE] at I; exact put_6_4 k i hk hi hf rd rs1 rs2 imm b1 b2 b3 b4 hA hB hC I w
        | true =>
          rw [hE] at I
          cases hS : specB ((fam k).first + i) imm with
          | false => rw [no (by simp [okS, hS])]; exact put_6_5 k i hk hi hf rd rs1 rs2 imm b1 b2 b3 b4 hA hB hC I hS w
          | true =>
            have ok : okS 6 ((fam k).first + i) rd rs1 rs2 imm = true := by simp [okS, hA, hB, hC, hE, hS]
            have o := or_word 6 (by decide) ((fam k).first + i) ((fam k).words.getD i 0) rd rs1 rs2 imm w0 w1 wm b1.1 b2.1 b3.1 b4 ok
            rw [e, ok, if_pos rfl, ← o]
            exact put_6_6 k i hk hi hf rd rs1 rs2 imm b1 b2 b3 b4 hA hB hC I hS w
theorem put_form_7 (k i : Nat) (hk : k < 18) (hi : i < (fam k).words.length) (hf : (fam k).form = 7) (rd rs1 rs2 imm : Int) (b1 : 0 ≤ rd ∧ rd < 256) (b2 : 0 ≤ rs1 ∧ rs1 < 256) (b3 : 0 ≤ rs2 ∧ rs2 < 256) (b4 : -2147483648 ≤ imm ∧ imm < 2147483648) (w : World) :
    Calls Try.prog 25 #[.agg #[.int .u8 ((fam k).first + i), .int .u8 rd, .int .u8 rs1, .int .u8 rs2, .int .i32 imm]] w fun e w' => e = .returned (putV (putS ((fam k).first + i) rd rs1 rs2 imm)) ∧ Below w.heap.size w w' := by
  have hp : (k, i) ∈ pairs := mem_pairs hk hi
  have e := putS_of hp rd rs1 rs2 imm
  have hfP : formP (k, i) = 7 := hf
  obtain ⟨_, w0, w1, wm, _⟩ := words_in (k, i) hp
  rw [hfP] at e wm
  change putS ((fam k).first + i) rd rs1 rs2 imm = if okS 7 ((fam k).first + i) rd rs1 rs2 imm then (wordS 7 ((fam k).words.getD i 0) rd rs1 rs2 imm, 0) else (0, 2) at e
  change maskA 7 ((fam k).words.getD i 0) = (fam k).words.getD i 0 at wm
  have I : (getF 7 (putF 7 (imm % 4294967296)) != imm) = !(immOk 7 imm) := by rw [← imm_is 7 (by decide) imm b4.1 b4.2, Bool.not_not]
  have no : okS 7 ((fam k).first + i) rd rs1 rs2 imm = false → putV (putS ((fam k).first + i) rd rs1 rs2 imm) = .tuple #[.int .u32 0, .int .i64 2] := fun h => by rw [e, h]; rfl
  cases hA : regOk (hRd 7) rd with
  | false => rw [no (by simp [okS, hA])]; exact put_7_1 k i hk hi hf rd rs1 rs2 imm b1 b2 b3 b4 hA w
  | true =>
    cases hB : regOk (hRs1 7) rs1 with
    | false => rw [no (by simp [okS, hB])]; exact put_7_2 k i hk hi hf rd rs1 rs2 imm b1 b2 b3 b4 hA hB w
    | true =>
      cases hC : regOk (hRs2 7) rs2 with
      | false => rw [no (by simp [okS, hC])]; exact put_7_3 k i hk hi hf rd rs1 rs2 imm b1 b2 b3 b4 hA hB hC w
      | true =>
        cases hE : immOk 7 imm with
        | false => rw [no (by simp [okS, hE])]; rw [hE] at I; exact put_7_4 k i hk hi hf rd rs1 rs2 imm b1 b2 b3 b4 hA hB hC I w
        | true =>
          rw [hE] at I
          cases hS : specB ((fam k).first + i) imm with
          | false => rw [no (by simp [okS, hS])]; exact put_7_5 k i hk hi hf rd rs1 rs2 imm b1 b2 b3 b4 hA hB hC I hS w
          | true =>
            have ok : okS 7 ((fam k).first + i) rd rs1 rs2 imm = true := by simp [okS, hA, hB, hC, hE, hS]
            have o := or_word 7 (by decide) ((fam k).first + i) ((fam k).words.getD i 0) rd rs1 rs2 imm w0 w1 wm b1.1 b2.1 b3.1 b4 ok
            rw [e, ok, if_pos rfl, ← o]
            exact put_7_6 k i hk hi hf rd rs1 rs2 imm b1 b2 b3 b4 hA hB hC I hS w
theorem put_form_8 (k i : Nat) (hk : k < 18) (hi : i < (fam k).words.length) (hf : (fam k).form = 8) (rd rs1 rs2 imm : Int) (b1 : 0 ≤ rd ∧ rd < 256) (b2 : 0 ≤ rs1 ∧ rs1 < 256) (b3 : 0 ≤ rs2 ∧ rs2 < 256) (b4 : -2147483648 ≤ imm ∧ imm < 2147483648) (w : World) :
    Calls Try.prog 25 #[.agg #[.int .u8 ((fam k).first + i), .int .u8 rd, .int .u8 rs1, .int .u8 rs2, .int .i32 imm]] w fun e w' => e = .returned (putV (putS ((fam k).first + i) rd rs1 rs2 imm)) ∧ Below w.heap.size w w' := by
  have hp : (k, i) ∈ pairs := mem_pairs hk hi
  have e := putS_of hp rd rs1 rs2 imm
  have hfP : formP (k, i) = 8 := hf
  obtain ⟨_, w0, w1, wm, _⟩ := words_in (k, i) hp
  rw [hfP] at e wm
  change putS ((fam k).first + i) rd rs1 rs2 imm = if okS 8 ((fam k).first + i) rd rs1 rs2 imm then (wordS 8 ((fam k).words.getD i 0) rd rs1 rs2 imm, 0) else (0, 2) at e
  change maskA 8 ((fam k).words.getD i 0) = (fam k).words.getD i 0 at wm
  have I : (getF 8 (putF 8 (imm % 4294967296)) != imm) = !(immOk 8 imm) := by rw [← imm_is 8 (by decide) imm b4.1 b4.2, Bool.not_not]
  have no : okS 8 ((fam k).first + i) rd rs1 rs2 imm = false → putV (putS ((fam k).first + i) rd rs1 rs2 imm) = .tuple #[.int .u32 0, .int .i64 2] := fun h => by rw [e, h]; rfl
  cases hA : regOk (hRd 8) rd with
  | false => rw [no (by simp [okS, hA])]; exact put_8_1 k i hk hi hf rd rs1 rs2 imm b1 b2 b3 b4 hA w
  | true =>
    cases hB : regOk (hRs1 8) rs1 with
    | false => rw [no (by simp [okS, hB])]; exact put_8_2 k i hk hi hf rd rs1 rs2 imm b1 b2 b3 b4 hA hB w
    | true =>
      cases hC : regOk (hRs2 8) rs2 with
      | false => rw [no (by simp [okS, hC])]; exact put_8_3 k i hk hi hf rd rs1 rs2 imm b1 b2 b3 b4 hA hB hC w
      | true =>
        cases hE : immOk 8 imm with
        | false => rw [no (by simp [okS, hE])]; rw [hE] at I; exact put_8_4 k i hk hi hf rd rs1 rs2 imm b1 b2 b3 b4 hA hB hC I w
        | true =>
          rw [hE] at I
          cases hS : specB ((fam k).first + i) imm with
          | false => rw [no (by simp [okS, hS])]; exact put_8_5 k i hk hi hf rd rs1 rs2 imm b1 b2 b3 b4 hA hB hC I hS w
          | true =>
            have ok : okS 8 ((fam k).first + i) rd rs1 rs2 imm = true := by simp [okS, hA, hB, hC, hE, hS]
            have o := or_word 8 (by decide) ((fam k).first + i) ((fam k).words.getD i 0) rd rs1 rs2 imm w0 w1 wm b1.1 b2.1 b3.1 b4 ok
            rw [e, ok, if_pos rfl, ← o]
            exact put_8_6 k i hk hi hf rd rs1 rs2 imm b1 b2 b3 b4 hA hB hC I hS w
theorem put_form_9 (k i : Nat) (hk : k < 18) (hi : i < (fam k).words.length) (hf : (fam k).form = 9) (rd rs1 rs2 imm : Int) (b1 : 0 ≤ rd ∧ rd < 256) (b2 : 0 ≤ rs1 ∧ rs1 < 256) (b3 : 0 ≤ rs2 ∧ rs2 < 256) (b4 : -2147483648 ≤ imm ∧ imm < 2147483648) (w : World) :
    Calls Try.prog 25 #[.agg #[.int .u8 ((fam k).first + i), .int .u8 rd, .int .u8 rs1, .int .u8 rs2, .int .i32 imm]] w fun e w' => e = .returned (putV (putS ((fam k).first + i) rd rs1 rs2 imm)) ∧ Below w.heap.size w w' := by
  have hp : (k, i) ∈ pairs := mem_pairs hk hi
  have e := putS_of hp rd rs1 rs2 imm
  have hfP : formP (k, i) = 9 := hf
  obtain ⟨_, w0, w1, wm, _⟩ := words_in (k, i) hp
  rw [hfP] at e wm
  change putS ((fam k).first + i) rd rs1 rs2 imm = if okS 9 ((fam k).first + i) rd rs1 rs2 imm then (wordS 9 ((fam k).words.getD i 0) rd rs1 rs2 imm, 0) else (0, 2) at e
  change maskA 9 ((fam k).words.getD i 0) = (fam k).words.getD i 0 at wm
  have I : (getF 9 (putF 9 (imm % 4294967296)) != imm) = !(immOk 9 imm) := by rw [← imm_is 9 (by decide) imm b4.1 b4.2, Bool.not_not]
  have no : okS 9 ((fam k).first + i) rd rs1 rs2 imm = false → putV (putS ((fam k).first + i) rd rs1 rs2 imm) = .tuple #[.int .u32 0, .int .i64 2] := fun h => by rw [e, h]; rfl
  cases hA : regOk (hRd 9) rd with
  | false => rw [no (by simp [okS, hA])]; exact put_9_1 k i hk hi hf rd rs1 rs2 imm b1 b2 b3 b4 hA w
  | true =>
    cases hB : regOk (hRs1 9) rs1 with
    | false => rw [no (by simp [okS, hB])]; exact put_9_2 k i hk hi hf rd rs1 rs2 imm b1 b2 b3 b4 hA hB w
    | true =>
      cases hC : regOk (hRs2 9) rs2 with
      | false => rw [no (by simp [okS, hC])]; exact put_9_3 k i hk hi hf rd rs1 rs2 imm b1 b2 b3 b4 hA hB hC w
      | true =>
        cases hE : immOk 9 imm with
        | false => rw [no (by simp [okS, hE])]; rw [hE] at I; exact put_9_4 k i hk hi hf rd rs1 rs2 imm b1 b2 b3 b4 hA hB hC I w
        | true =>
          rw [hE] at I
          cases hS : specB ((fam k).first + i) imm with
          | false => rw [no (by simp [okS, hS])]; exact put_9_5 k i hk hi hf rd rs1 rs2 imm b1 b2 b3 b4 hA hB hC I hS w
          | true =>
            have ok : okS 9 ((fam k).first + i) rd rs1 rs2 imm = true := by simp [okS, hA, hB, hC, hE, hS]
            have o := or_word 9 (by decide) ((fam k).first + i) ((fam k).words.getD i 0) rd rs1 rs2 imm w0 w1 wm b1.1 b2.1 b3.1 b4 ok
            rw [e, ok, if_pos rfl, ← o]
            exact put_9_6 k i hk hi hf rd rs1 rs2 imm b1 b2 b3 b4 hA hB hC I hS w
set_option maxHeartbeats 8000000 in
set_option maxRecDepth 100000 in
theorem put_none (o : Int) (h0 : 0 ≤ o) (h1 : o < 256) (ho : o = 0 ∨ 69 ≤ o) (rd rs1 rs2 imm : Int) (w : World) :
    Calls Try.prog 25 #[.agg #[.int .u8 o, .int .u8 rd, .int .u8 rs1, .int .u8 rs2, .int .i32 imm]] w fun e w' => e = .returned (.tuple #[.int .u32 0, .int .i64 2]) ∧ Below w.heap.size w w' := by
  have GC : Aside0 (∀ w, Calls Try.prog 48 #[.int .u8 o] w fun e w' => e = .returned (.tuple #[.agg #[.int .u8 0, .nilFunc, .slice none 0 0, .slice none 0 0], .int .i64 0, .bool false]) ∧ Below w.heap.size w w') := ⟨of_no o h0 h1 ho⟩
  clear ho
  go_enter Try.func25, Try.ntmps25
  go_wp2_with fail
  refine (GC.out _).mono ?_
  rintro e w1 ⟨rfl, hb⟩
  have HB : Aside0 (Below w.heap.size w w1) := ⟨((Below.refl _ _).alloc (Nat.le_refl _) _).trans (hb.mono (by simp))⟩
  clear hb
  go_wp2
  go_ret2
  exact ⟨by first | rfl | simp, by first | exact HB.out | (refine Below.alloc ?_ ?_ _; exact HB.out; exact HB.out.size)⟩
theorem put_calls (o rd rs1 rs2 imm : Int) (b0 : 0 ≤ o ∧ o < 256) (b1 : 0 ≤ rd ∧ rd < 256) (b2 : 0 ≤ rs1 ∧ rs1 < 256) (b3 : 0 ≤ rs2 ∧ rs2 < 256) (b4 : -2147483648 ≤ imm ∧ imm < 2147483648) (w : World) :
    Calls Try.prog 25 #[.agg #[.int .u8 o, .int .u8 rd, .int .u8 rs1, .int .u8 rs2, .int .i32 imm]] w fun e w' => e = .returned (putV (putS o rd rs1 rs2 imm)) ∧ Below w.heap.size w w' := by
  by_cases ho : o = 0 ∨ 69 ≤ o
  · rw [putS_no ho]; exact put_none o b0.1 b0.2 ho rd rs1 rs2 imm w
  · rcases ops_all o.toNat (by omega) with h | ⟨p, hp, hpo⟩
    · omega
    · obtain ⟨k, i⟩ := p
      obtain ⟨hk, hi⟩ := of_pairs hp
      have e : o = (fam k).first + i := by rw [show o = (o.toNat : Int) from by omega, ← hpo]; rfl
      subst e
      rcases forms10 (words_in (k, i) hp).1 with g | g | g | g | g | g | g | g | g | g
      · exact put_form_0 k i hk hi g rd rs1 rs2 imm b1 b2 b3 b4 w
      · exact put_form_1 k i hk hi g rd rs1 rs2 imm b1 b2 b3 b4 w
      · exact put_form_2 k i hk hi g rd rs1 rs2 imm b1 b2 b3 b4 w
      · exact put_form_3 k i hk hi g rd rs1 rs2 imm b1 b2 b3 b4 w
      · exact put_form_4 k i hk hi g rd rs1 rs2 imm b1 b2 b3 b4 w
      · exact put_form_5 k i hk hi g rd rs1 rs2 imm b1 b2 b3 b4 w
      · exact put_form_6 k i hk hi g rd rs1 rs2 imm b1 b2 b3 b4 w
      · exact put_form_7 k i hk hi g rd rs1 rs2 imm b1 b2 b3 b4 w
      · exact put_form_8 k i hk hi g rd rs1 rs2 imm b1 b2 b3 b4 w
      · exact put_form_9 k i hk hi g rd rs1 rs2 imm b1 b2 b3 b4 w
end Go.Proofs.Ythkbjoglhfclmaa.Ins
