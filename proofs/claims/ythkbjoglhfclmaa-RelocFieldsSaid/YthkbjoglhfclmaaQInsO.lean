/- An argument of type api.Instr, by value, opened: five numbers, each within its kind. No condition. -/
import Derived.Test.YthkbjoglhfclmaaProg
import Derived.ProofKit
import Derived.Lib.SmallJoins
namespace Go.Proofs.Ythkbjoglhfclmaa.Ins
open Go.ChangeShapes Go.WideShapes Go.ChangeAt Go.RowKit
set_option linter.unusedVariables false
theorem open_instr {H : Type} {enc : TypeId × Value → H} {w : World} {base : Nat} {spare : Nat → Bool} {held : Bool} {r : Reach} {b0 : Nat} {v : Value} {d : DataW H} {p : List MemPlace}
    (hv : Value.okWide Try.prog w r b0 40 v) (h : DataW.Trod enc Try.prog w base spare held 40 v d p) :
    ∃ o rd rs1 rs2 imm : Int, v = .agg #[.int .u8 o, .int .u8 rd, .int .u8 rs1, .int .u8 rs2, .int .i32 imm] ∧ (Lit.int .u8 o).wf = true ∧ (Lit.int .u8 rd).wf = true ∧ (Lit.int .u8 rs1).wf = true ∧ (Lit.int .u8 rs2).wf = true ∧ (Lit.int .i32 imm).wf = true := by
  obtain ⟨cs, rfl, hsz⟩ := okWide_struct Try.underlying40 hv
  obtain ⟨c0, c1, c2, c3, c4, rfl⟩ : ∃ c0 c1 c2 c3 c4, cs = #[c0, c1, c2, c3, c4] := by
    have h5 : cs.size = 5 := hsz.trans (by kernel_rfl)
    obtain ⟨l⟩ := cs
    match l, h5 with
    | [c0, c1, c2, c3, c4], _ => exact ⟨c0, c1, c2, c3, c4, rfl⟩
  obtain ⟨fuel, hf⟩ := h
  obtain ⟨xs, n, _, _, hl, hlen, hall⟩ := DataW.trod_struct Try.underlying40 hf
  have g0 := hall 0 _ rfl
  have g1 := hall 1 _ rfl
  have g2 := hall 2 _ rfl
  have g3 := hall 3 _ rfl
  have g4 := hall 4 _ rfl
  have k30 : Try.prog.cellsOf 30 = 1 := by kernel_rfl
  have k5 : Try.prog.cellsOf 5 = 1 := by kernel_rfl
  have k21 : Try.prog.cellsOf 21 = 1 := by kernel_rfl
  match xs, hlen with
  | [y0, y1, y2, y3, y4], _ =>
    simp [Value.cells, k30, k5, k21] at g0 g1 g2 g3 g4
    obtain ⟨m0, e0, _, w0⟩ := DataW.trod_int Try.underlying30 g0
    obtain ⟨m1, e1, _, w1⟩ := DataW.trod_int Try.underlying5 g1
    obtain ⟨m2, e2, _, w2⟩ := DataW.trod_int Try.underlying5 g2
    obtain ⟨m3, e3, _, w3⟩ := DataW.trod_int Try.underlying5 g3
    obtain ⟨m4, e4, _, w4⟩ := DataW.trod_int Try.underlying21 g4
    simp only [List.cons.injEq, and_true] at e0 e1 e2 e3 e4
    subst e0 e1 e2 e3 e4
    exact ⟨m0, m1, m2, m3, m4, rfl, w0, w1, w2, w3, w4⟩
end Go.Proofs.Ythkbjoglhfclmaa.Ins
