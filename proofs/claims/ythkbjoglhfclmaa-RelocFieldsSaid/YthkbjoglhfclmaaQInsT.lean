/- What ref05.Table hands back: 68 rows of six cells in one block. No condition. -/
import Derived.Test.YthkbjoglhfclmaaQInsP
namespace Go.Proofs.Ythkbjoglhfclmaa.Ins
open Go.RowKit Go.Proofs.YthkbjoglhfclmaaW.PrintWords Go.Proofs.YthkbjoglhfclmaaW.PrintLast Go.Proofs.Ythkbjoglhfclmaa.Alu
set_option linter.unusedVariables false
set_option linter.unusedSimpArgs false

/-- What a list of operators does, run. -/
def runPure (P : Program) (ops : Array Oper) : List Oper → Act → World → Option (Act × World)
  | [], a, w => some (a, w)
  | o :: rest, a, w =>
    if Region.wanted o (yielded ops a.tmps) then
      match (execOp a.eval o).run P w with
      | .ok (.value v) w' => runPure P ops rest (a.put o.dst v) w'
      | .ok .skip w' => runPure P ops rest (a.put o.dst undef) w'
      | _ => none
    else runPure P ops rest (a.put o.dst undef) w
theorem wpList_of_run {P : Program} {ops : Array Oper} {Q : Exit → Act → World → Prop} : ∀ (l : List Oper) (a : Act) (w : World) (a' : Act) (w' : World), runPure P ops l a w = some (a', w') → Q .normal a' w' → wpList P ops Q l a w
  | [], a, w, a', w', h, hQ => by
    simp only [runPure, Option.some.injEq, Prod.mk.injEq] at h
    obtain ⟨rfl, rfl⟩ := h
    exact hQ
  | o :: rest, a, w, a', w', h, hQ => by
    unfold wpList
    unfold runPure at h
    split
    · rename_i hw
      rw [if_pos hw] at h
      refine .inl ?_
      unfold Oper.wp
      generalize (execOp a.eval o).run P w = r at h
      split at h
      · simp only [Oper.upon]; exact wpList_of_run rest _ _ _ _ h hQ
      · simp only [Oper.upon]; exact wpList_of_run rest _ _ _ _ h hQ
      · cases h
    · rename_i hw
      rw [if_neg hw] at h
      exact wpList_of_run rest _ _ _ _ h hQ

section
variable {K : Act → World → Prop} {Q : Exit → Act → World → Prop} {n m : Nat} {a : Act} {w : World}
theorem ex_then (h : Q (.exit n) a w) : Exit.then K Q (.exit n) a w := h
theorem ex_thenR (h : Q .ret a w) : Exit.then K Q .ret a w := h
theorem ex_norm (h : K a w) : Exit.then K Q .normal a w := h
theorem ex_eq (h : Q .normal a w) : Exit.inBlock n Q (.exit n) a w := by
  show (if n = n then Q .normal a w else Q (.exit n) a w)
  rw [if_pos rfl]; exact h
theorem ex_ne (hn : (n == m) = false) (h : Q (.exit n) a w) : Exit.inBlock m Q (.exit n) a w := by
  show (if n = m then Q .normal a w else Q (.exit n) a w)
  rw [if_neg (by simpa using hn)]; exact h
theorem ex_inN (h : Q .normal a w) : Exit.inBlock m Q .normal a w := h
theorem ex_inR (h : Q .ret a w) : Exit.inBlock m Q .ret a w := h
end
structure Row5 where
  op : Int
  name : ByteArray
  form : Int
  code : Int
  f3 : Int
  extra : Int
def rows5 : List Row5 := [
  ⟨1, ⟨#[108, 117, 105]⟩, 0, 55, 0, 0⟩,
  ⟨2, ⟨#[97, 117, 105, 112, 99, 99]⟩, 0, 23, 0, 0⟩,
  ⟨3, ⟨#[99, 106, 97, 108]⟩, 1, 111, 0, 0⟩,
  ⟨4, ⟨#[99, 106, 97, 108, 114]⟩, 2, 103, 0, 0⟩,
  ⟨5, ⟨#[98, 101, 113]⟩, 6, 99, 0, 0⟩,
  ⟨6, ⟨#[98, 110, 101]⟩, 6, 99, 1, 0⟩,
  ⟨7, ⟨#[98, 108, 116]⟩, 6, 99, 4, 0⟩,
  ⟨8, ⟨#[98, 103, 101]⟩, 6, 99, 5, 0⟩,
  ⟨9, ⟨#[98, 108, 116, 117]⟩, 6, 99, 6, 0⟩,
  ⟨10, ⟨#[98, 103, 101, 117]⟩, 6, 99, 7, 0⟩,
  ⟨11, ⟨#[108, 98]⟩, 2, 3, 0, 0⟩,
  ⟨12, ⟨#[108, 104]⟩, 2, 3, 1, 0⟩,
  ⟨13, ⟨#[108, 119]⟩, 2, 3, 2, 0⟩,
  ⟨14, ⟨#[99, 108, 99]⟩, 2, 3, 3, 0⟩,
  ⟨15, ⟨#[108, 98, 117]⟩, 2, 3, 4, 0⟩,
  ⟨16, ⟨#[108, 104, 117]⟩, 2, 3, 5, 0⟩,
  ⟨17, ⟨#[115, 98]⟩, 5, 35, 0, 0⟩,
  ⟨18, ⟨#[115, 104]⟩, 5, 35, 1, 0⟩,
  ⟨19, ⟨#[115, 119]⟩, 5, 35, 2, 0⟩,
  ⟨20, ⟨#[99, 115, 99]⟩, 5, 35, 3, 0⟩,
  ⟨21, ⟨#[97, 100, 100, 105]⟩, 2, 19, 0, 0⟩,
  ⟨22, ⟨#[115, 108, 116, 105]⟩, 2, 19, 2, 0⟩,
  ⟨23, ⟨#[115, 108, 116, 105, 117]⟩, 2, 19, 3, 0⟩,
  ⟨24, ⟨#[120, 111, 114, 105]⟩, 2, 19, 4, 0⟩,
  ⟨25, ⟨#[111, 114, 105]⟩, 2, 19, 6, 0⟩,
  ⟨26, ⟨#[97, 110, 100, 105]⟩, 2, 19, 7, 0⟩,
  ⟨27, ⟨#[115, 108, 108, 105]⟩, 4, 19, 1, 0⟩,
  ⟨28, ⟨#[115, 114, 108, 105]⟩, 4, 19, 5, 0⟩,
  ⟨29, ⟨#[115, 114, 97, 105]⟩, 4, 19, 5, 32⟩,
  ⟨30, ⟨#[97, 100, 100]⟩, 7, 51, 0, 0⟩,
  ⟨31, ⟨#[115, 117, 98]⟩, 7, 51, 0, 32⟩,
  ⟨32, ⟨#[115, 108, 108]⟩, 7, 51, 1, 0⟩,
  ⟨33, ⟨#[115, 108, 116]⟩, 7, 51, 2, 0⟩,
  ⟨34, ⟨#[115, 108, 116, 117]⟩, 7, 51, 3, 0⟩,
  ⟨35, ⟨#[120, 111, 114]⟩, 7, 51, 4, 0⟩,
  ⟨36, ⟨#[115, 114, 108]⟩, 7, 51, 5, 0⟩,
  ⟨37, ⟨#[115, 114, 97]⟩, 7, 51, 5, 32⟩,
  ⟨38, ⟨#[111, 114]⟩, 7, 51, 6, 0⟩,
  ⟨39, ⟨#[97, 110, 100]⟩, 7, 51, 7, 0⟩,
  ⟨40, ⟨#[109, 117, 108]⟩, 7, 51, 0, 1⟩,
  ⟨41, ⟨#[109, 117, 108, 104]⟩, 7, 51, 1, 1⟩,
  ⟨42, ⟨#[109, 117, 108, 104, 115, 117]⟩, 7, 51, 2, 1⟩,
  ⟨43, ⟨#[109, 117, 108, 104, 117]⟩, 7, 51, 3, 1⟩,
  ⟨44, ⟨#[100, 105, 118]⟩, 7, 51, 4, 1⟩,
  ⟨45, ⟨#[100, 105, 118, 117]⟩, 7, 51, 5, 1⟩,
  ⟨46, ⟨#[114, 101, 109]⟩, 7, 51, 6, 1⟩,
  ⟨47, ⟨#[114, 101, 109, 117]⟩, 7, 51, 7, 1⟩,
  ⟨48, ⟨#[99, 46, 105, 110, 99, 97, 100, 100, 114, 105, 109, 109]⟩, 2, 91, 1, 0⟩,
  ⟨49, ⟨#[99, 46, 115, 101, 116, 98, 111, 117, 110, 100, 115, 105, 109, 109]⟩, 3, 91, 2, 0⟩,
  ⟨50, ⟨#[99, 46, 115, 101, 116, 98, 111, 117, 110, 100, 115]⟩, 7, 91, 0, 8⟩,
  ⟨51, ⟨#[99, 46, 115, 101, 97, 108]⟩, 7, 91, 0, 11⟩,
  ⟨52, ⟨#[99, 46, 117, 110, 115, 101, 97, 108]⟩, 8, 91, 0, 384⟩,
  ⟨53, ⟨#[99, 46, 97, 110, 100, 112, 101, 114, 109]⟩, 7, 91, 0, 13⟩,
  ⟨54, ⟨#[99, 46, 115, 101, 116, 97, 100, 100, 114]⟩, 7, 91, 0, 16⟩,
  ⟨55, ⟨#[99, 46, 105, 110, 99, 97, 100, 100, 114]⟩, 7, 91, 0, 17⟩,
  ⟨56, ⟨#[99, 46, 116, 101, 115, 116, 115, 117, 98, 115, 101, 116]⟩, 7, 91, 0, 32⟩,
  ⟨57, ⟨#[99, 46, 103, 101, 116, 112, 101, 114, 109]⟩, 8, 91, 0, 4064⟩,
  ⟨58, ⟨#[99, 46, 103, 101, 116, 116, 121, 112, 101]⟩, 8, 91, 0, 4065⟩,
  ⟨59, ⟨#[99, 46, 103, 101, 116, 98, 97, 115, 101]⟩, 8, 91, 0, 4066⟩,
  ⟨60, ⟨#[99, 46, 103, 101, 116, 108, 101, 110]⟩, 8, 91, 0, 4067⟩,
  ⟨61, ⟨#[99, 46, 103, 101, 116, 116, 97, 103]⟩, 8, 91, 0, 4068⟩,
  ⟨62, ⟨#[99, 46, 109, 111, 118, 101]⟩, 8, 91, 0, 4074⟩,
  ⟨63, ⟨#[99, 46, 99, 108, 101, 97, 114, 116, 97, 103]⟩, 8, 91, 0, 4075⟩,
  ⟨64, ⟨#[99, 46, 103, 101, 116, 97, 100, 100, 114]⟩, 8, 91, 0, 4079⟩,
  ⟨65, ⟨#[99, 46, 115, 101, 110, 116, 114, 121]⟩, 8, 91, 0, 4081⟩,
  ⟨66, ⟨#[99, 46, 115, 112, 101, 99, 105, 97, 108, 114, 119]⟩, 9, 91, 0, 1⟩,
  ⟨67, ⟨#[101, 99, 97, 108, 108]⟩, 10, 115, 0, 0⟩,
  ⟨68, ⟨#[109, 114, 101, 116]⟩, 10, 807403635, 0, 0⟩]
def row5 (k : Nat) : Row5 := rows5.getD k ⟨0, ByteArray.empty, 0, 0, 0, 0⟩
def cells5 (r : Row5) : List Value := [.int .u8 r.op, .string r.name, .int .i64 r.form, .int .u32 r.code, .int .u32 r.f3, .int .u32 r.extra]
def tabCells : Array Value := (rows5.flatMap cells5).toArray
/-- The rows, in this world, in the block g. -/
def RowsAt (w : World) (g : Nat) : Prop := w.heap[g]? = some (.cells tabCells 79 (0, 0))
set_option maxHeartbeats 8000000 in
set_option maxRecDepth 100000 in
theorem table_calls (w : World) : Calls Try.prog 56 #[] w fun e w' => ∃ g, e = .returned (.slice (some ⟨g, 0, none⟩) 68 68) ∧ RowsAt w' g ∧ Below w.heap.size w w' := by
  go_enter Try.func56, Try.ntmps56
  iterate 11 go_step
  refine wpList_of_run _ _ _ ⟨#[.slice (some ⟨w.heap.size, 0, none⟩) 68 68, Value.agg #[.int .u8 1, .string ⟨#[108, 117, 105]⟩, .int .i64 0, .int .u32 55, .int .u32 0, .int .u32 0],
    Value.agg #[.int .u8 2, .string ⟨#[97, 117, 105, 112, 99, 99]⟩, .int .i64 0, .int .u32 23, .int .u32 0, .int .u32 0],
    Value.agg #[.int .u8 3, .string ⟨#[99, 106, 97, 108]⟩, .int .i64 1, .int .u32 111, .int .u32 0, .int .u32 0],
    Value.agg #[.int .u8 4, .string ⟨#[99, 106, 97, 108, 114]⟩, .int .i64 2, .int .u32 103, .int .u32 0, .int .u32 0],
    Value.agg #[.int .u8 5, .string ⟨#[98, 101, 113]⟩, .int .i64 6, .int .u32 99, .int .u32 0, .int .u32 0],
    Value.agg #[.int .u8 6, .string ⟨#[98, 110, 101]⟩, .int .i64 6, .int .u32 99, .int .u32 1, .int .u32 0],
    Value.agg #[.int .u8 7, .string ⟨#[98, 108, 116]⟩, .int .i64 6, .int .u32 99, .int .u32 4, .int .u32 0],
    Value.agg #[.int .u8 8, .string ⟨#[98, 103, 101]⟩, .int .i64 6, .int .u32 99, .int .u32 5, .int .u32 0],
    Value.agg #[.int .u8 9, .string ⟨#[98, 108, 116, 117]⟩, .int .i64 6, .int .u32 99, .int .u32 6, .int .u32 0],
    Value.agg #[.int .u8 10, .string ⟨#[98, 103, 101, 117]⟩, .int .i64 6, .int .u32 99, .int .u32 7, .int .u32 0],
    Value.agg #[.int .u8 11, .string ⟨#[108, 98]⟩, .int .i64 2, .int .u32 3, .int .u32 0, .int .u32 0],
    Value.agg #[.int .u8 12, .string ⟨#[108, 104]⟩, .int .i64 2, .int .u32 3, .int .u32 1, .int .u32 0],
    Value.agg #[.int .u8 13, .string ⟨#[108, 119]⟩, .int .i64 2, .int .u32 3, .int .u32 2, .int .u32 0],
    Value.agg #[.int .u8 14, .string ⟨#[99, 108, 99]⟩, .int .i64 2, .int .u32 3, .int .u32 3, .int .u32 0],
    Value.agg #[.int .u8 15, .string ⟨#[108, 98, 117]⟩, .int .i64 2, .int .u32 3, .int .u32 4, .int .u32 0],
    Value.agg #[.int .u8 16, .string ⟨#[108, 104, 117]⟩, .int .i64 2, .int .u32 3, .int .u32 5, .int .u32 0],
    Value.agg #[.int .u8 17, .string ⟨#[115, 98]⟩, .int .i64 5, .int .u32 35, .int .u32 0, .int .u32 0],
    Value.agg #[.int .u8 18, .string ⟨#[115, 104]⟩, .int .i64 5, .int .u32 35, .int .u32 1, .int .u32 0],
    Value.agg #[.int .u8 19, .string ⟨#[115, 119]⟩, .int .i64 5, .int .u32 35, .int .u32 2, .int .u32 0],
    Value.agg #[.int .u8 20, .string ⟨#[99, 115, 99]⟩, .int .i64 5, .int .u32 35, .int .u32 3, .int .u32 0],
    Value.agg #[.int .u8 21, .string ⟨#[97, 100, 100, 105]⟩, .int .i64 2, .int .u32 19, .int .u32 0, .int .u32 0],
    Value.agg #[.int .u8 22, .string ⟨#[115, 108, 116, 105]⟩, .int .i64 2, .int .u32 19, .int .u32 2, .int .u32 0],
    Value.agg #[.int .u8 23, .string ⟨#[115, 108, 116, 105, 117]⟩, .int .i64 2, .int .u32 19, .int .u32 3, .int .u32 0],
    Value.agg #[.int .u8 24, .string ⟨#[120, 111, 114, 105]⟩, .int .i64 2, .int .u32 19, .int .u32 4, .int .u32 0],
    Value.agg #[.int .u8 25, .string ⟨#[111, 114, 105]⟩, .int .i64 2, .int .u32 19, .int .u32 6, .int .u32 0],
    Value.agg #[.int .u8 26, .string ⟨#[97, 110, 100, 105]⟩, .int .i64 2, .int .u32 19, .int .u32 7, .int .u32 0],
    Value.agg #[.int .u8 27, .string ⟨#[115, 108, 108, 105]⟩, .int .i64 4, .int .u32 19, .int .u32 1, .int .u32 0],
    Value.agg #[.int .u8 28, .string ⟨#[115, 114, 108, 105]⟩, .int .i64 4, .int .u32 19, .int .u32 5, .int .u32 0],
    Value.agg #[.int .u8 29, .string ⟨#[115, 114, 97, 105]⟩, .int .i64 4, .int .u32 19, .int .u32 5, .int .u32 32],
    Value.agg #[.int .u8 30, .string ⟨#[97, 100, 100]⟩, .int .i64 7, .int .u32 51, .int .u32 0, .int .u32 0],
    Value.agg #[.int .u8 31, .string ⟨#[115, 117, 98]⟩, .int .i64 7, .int .u32 51, .int .u32 0, .int .u32 32],
    Value.agg #[.int .u8 32, .string ⟨#[115, 108, 108]⟩, .int .i64 7, .int .u32 51, .int .u32 1, .int .u32 0],
    Value.agg #[.int .u8 33, .string ⟨#[115, 108, 116]⟩, .int .i64 7, .int .u32 51, .int .u32 2, .int .u32 0],
    Value.agg #[.int .u8 34, .string ⟨#[115, 108, 116, 117]⟩, .int .i64 7, .int .u32 51, .int .u32 3, .int .u32 0],
    Value.agg #[.int .u8 35, .string ⟨#[120, 111, 114]⟩, .int .i64 7, .int .u32 51, .int .u32 4, .int .u32 0],
    Value.agg #[.int .u8 36, .string ⟨#[115, 114, 108]⟩, .int .i64 7, .int .u32 51, .int .u32 5, .int .u32 0],
    Value.agg #[.int .u8 37, .string ⟨#[115, 114, 97]⟩, .int .i64 7, .int .u32 51, .int .u32 5, .int .u32 32],
    Value.agg #[.int .u8 38, .string ⟨#[111, 114]⟩, .int .i64 7, .int .u32 51, .int .u32 6, .int .u32 0],
    Value.agg #[.int .u8 39, .string ⟨#[97, 110, 100]⟩, .int .i64 7, .int .u32 51, .int .u32 7, .int .u32 0],
    Value.agg #[.int .u8 40, .string ⟨#[109, 117, 108]⟩, .int .i64 7, .int .u32 51, .int .u32 0, .int .u32 1],
    Value.agg #[.int .u8 41, .string ⟨#[109, 117, 108, 104]⟩, .int .i64 7, .int .u32 51, .int .u32 1, .int .u32 1],
    Value.agg #[.int .u8 42, .string ⟨#[109, 117, 108, 104, 115, 117]⟩, .int .i64 7, .int .u32 51, .int .u32 2, .int .u32 1],
    Value.agg #[.int .u8 43, .string ⟨#[109, 117, 108, 104, 117]⟩, .int .i64 7, .int .u32 51, .int .u32 3, .int .u32 1],
    Value.agg #[.int .u8 44, .string ⟨#[100, 105, 118]⟩, .int .i64 7, .int .u32 51, .int .u32 4, .int .u32 1],
    Value.agg #[.int .u8 45, .string ⟨#[100, 105, 118, 117]⟩, .int .i64 7, .int .u32 51, .int .u32 5, .int .u32 1],
    Value.agg #[.int .u8 46, .string ⟨#[114, 101, 109]⟩, .int .i64 7, .int .u32 51, .int .u32 6, .int .u32 1],
    Value.agg #[.int .u8 47, .string ⟨#[114, 101, 109, 117]⟩, .int .i64 7, .int .u32 51, .int .u32 7, .int .u32 1],
    Value.agg #[.int .u8 48, .string ⟨#[99, 46, 105, 110, 99, 97, 100, 100, 114, 105, 109, 109]⟩, .int .i64 2, .int .u32 91, .int .u32 1, .int .u32 0],
    Value.agg #[.int .u8 49, .string ⟨#[99, 46, 115, 101, 116, 98, 111, 117, 110, 100, 115, 105, 109, 109]⟩, .int .i64 3, .int .u32 91, .int .u32 2, .int .u32 0],
    Value.agg #[.int .u8 50, .string ⟨#[99, 46, 115, 101, 116, 98, 111, 117, 110, 100, 115]⟩, .int .i64 7, .int .u32 91, .int .u32 0, .int .u32 8],
    Value.agg #[.int .u8 51, .string ⟨#[99, 46, 115, 101, 97, 108]⟩, .int .i64 7, .int .u32 91, .int .u32 0, .int .u32 11],
    Value.agg #[.int .u8 52, .string ⟨#[99, 46, 117, 110, 115, 101, 97, 108]⟩, .int .i64 8, .int .u32 91, .int .u32 0, .int .u32 384],
    Value.agg #[.int .u8 53, .string ⟨#[99, 46, 97, 110, 100, 112, 101, 114, 109]⟩, .int .i64 7, .int .u32 91, .int .u32 0, .int .u32 13],
    Value.agg #[.int .u8 54, .string ⟨#[99, 46, 115, 101, 116, 97, 100, 100, 114]⟩, .int .i64 7, .int .u32 91, .int .u32 0, .int .u32 16],
    Value.agg #[.int .u8 55, .string ⟨#[99, 46, 105, 110, 99, 97, 100, 100, 114]⟩, .int .i64 7, .int .u32 91, .int .u32 0, .int .u32 17],
    Value.agg #[.int .u8 56, .string ⟨#[99, 46, 116, 101, 115, 116, 115, 117, 98, 115, 101, 116]⟩, .int .i64 7, .int .u32 91, .int .u32 0, .int .u32 32],
    Value.agg #[.int .u8 57, .string ⟨#[99, 46, 103, 101, 116, 112, 101, 114, 109]⟩, .int .i64 8, .int .u32 91, .int .u32 0, .int .u32 4064],
    Value.agg #[.int .u8 58, .string ⟨#[99, 46, 103, 101, 116, 116, 121, 112, 101]⟩, .int .i64 8, .int .u32 91, .int .u32 0, .int .u32 4065],
    Value.agg #[.int .u8 59, .string ⟨#[99, 46, 103, 101, 116, 98, 97, 115, 101]⟩, .int .i64 8, .int .u32 91, .int .u32 0, .int .u32 4066],
    Value.agg #[.int .u8 60, .string ⟨#[99, 46, 103, 101, 116, 108, 101, 110]⟩, .int .i64 8, .int .u32 91, .int .u32 0, .int .u32 4067],
    Value.agg #[.int .u8 61, .string ⟨#[99, 46, 103, 101, 116, 116, 97, 103]⟩, .int .i64 8, .int .u32 91, .int .u32 0, .int .u32 4068],
    Value.agg #[.int .u8 62, .string ⟨#[99, 46, 109, 111, 118, 101]⟩, .int .i64 8, .int .u32 91, .int .u32 0, .int .u32 4074],
    Value.agg #[.int .u8 63, .string ⟨#[99, 46, 99, 108, 101, 97, 114, 116, 97, 103]⟩, .int .i64 8, .int .u32 91, .int .u32 0, .int .u32 4075],
    Value.agg #[.int .u8 64, .string ⟨#[99, 46, 103, 101, 116, 97, 100, 100, 114]⟩, .int .i64 8, .int .u32 91, .int .u32 0, .int .u32 4079],
    Value.agg #[.int .u8 65, .string ⟨#[99, 46, 115, 101, 110, 116, 114, 121]⟩, .int .i64 8, .int .u32 91, .int .u32 0, .int .u32 4081],
    Value.agg #[.int .u8 66, .string ⟨#[99, 46, 115, 112, 101, 99, 105, 97, 108, 114, 119]⟩, .int .i64 9, .int .u32 91, .int .u32 0, .int .u32 1],
    Value.agg #[.int .u8 67, .string ⟨#[101, 99, 97, 108, 108]⟩, .int .i64 10, .int .u32 115, .int .u32 0, .int .u32 0],
    Value.agg #[.int .u8 68, .string ⟨#[109, 114, 101, 116]⟩, .int .i64 10, .int .u32 807403635, .int .u32 0, .int .u32 0], .slice (some ⟨w.heap.size, 0, none⟩) 68 68], []⟩ (w.alloc (.cells tabCells 79)) (by kernel_rfl) ?_
  refine ex_norm ?_
  iterate 3 go_step
  refine bodyPost_ret (v := .slice (some ⟨w.heap.size, 0, none⟩) 68 68) (by simp only [results, Try.results56]; kernel_rfl) rfl ⟨_, rfl, ?_, below_alloc (Below.refl _ _) _⟩
  rw [RowsAt, show ∀ o, (w.alloc o).heap = w.heap.push o from fun _ => rfl]
  exact Array.getElem?_push_size
end Go.Proofs.Ythkbjoglhfclmaa.Ins
