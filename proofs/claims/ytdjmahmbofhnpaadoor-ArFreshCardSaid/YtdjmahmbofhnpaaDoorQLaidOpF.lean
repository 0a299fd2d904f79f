/- What the rows' lists give: the table and the two sentinels that the library reads; and a world in which all seven variables lie. -/
import Derived.Test.YtdjmahmbofhnpaaDoorRows
import Derived.Test.YtdjmahmbofhnpaaDoorQArA
import Derived.Stop.LaidErr
import Derived.LaidMore
import Derived.Lay
import Derived.ProofKit
import Derived.Deep.DeepHandedRow
import Derived.Deep.DeepWitnessRowRef
import Derived.Test.YtdjmahmbofhnpaaDoorQOpen
import Derived.Test.YtdjmahmbofhnpaaDoorQArT
import Derived.Test.YtdjmahmbofhnpaaDoorQArIKF
namespace Go.Proofs.YtdjmahmbofhnpaaDoor.Ar
open Go.ChangeShapes Go.WideShapes Go.ChangeAt Go.RowKit
set_option linter.unusedVariables false
abbrev laid7 : List (String × DataW Unit) := Rows.arBackRow.laid
theorem gSyn : Tryd.prog.globalNamed "strconv.ErrSyntax" = some 1 := by kernel_rfl
theorem gRng : Tryd.prog.globalNamed "strconv.ErrRange" = some 2 := by kernel_rfl
theorem gTab : Tryd.prog.globalNamed "internal/strconv.uint64pow10" = some 3 := by kernel_rfl
theorem tSyn : (Tryd.prog.globals[1]?).map (·.type) = some 71 := by kernel_rfl
theorem tRng : (Tryd.prog.globals[2]?).map (·.type) = some 71 := by kernel_rfl
theorem tTab : (Tryd.prog.globals[3]?).map (·.type) = some 130 := by kernel_rfl
theorem cells137 : Tryd.prog.cellsOf 137 = 1 := by kernel_rfl
theorem cells9 : Tryd.prog.cellsOf 9 = 1 := by kernel_rfl
theorem star : "*" ++ "errors.errorString" = "*errors.errorString" := by decide
theorem row135 (u : TypeId) (h : Tryd.prog.typeName? 3 u = some "*errors.errorString") : u = 135 :=
  typeName_ptr_named (nm := "errors.errorString") (by rw [star]; kernel_rfl) (by kernel_rfl) (by decide) u (by rw [star]; exact h)
set_option maxRecDepth 100000 in
theorem vars_of_laid {W : World} (h : laidMetH Tryd.prog laid7 W) : Vars W := by
  rw [MakeChecks.laidMetH_plain _ _ _ (by kernel_rfl)] at h
  have h1 : laidMet Tryd.prog (("internal/strconv.uint64pow10", Lib.tabData .u64 Lib.pow10Tab) :: [("unicode/utf8.acceptRanges", Rows.laid_unicode_utf8_acceptRanges), ("strconv.ErrRange", Rows.laid_strconv_ErrRange), ("strconv.ErrSyntax", Rows.laid_strconv_ErrSyntax), ("unicode/utf8.first", Rows.laid_unicode_utf8_first)]) W := laidMet.tail (laidMet.tail h)
  have h2 := laidMet.tail (laidMet.tail h1)
  have h3 := laidMet.tail h2
  obtain ⟨a2, s2, v2, _⟩ := laid_sentinel h2 gRng tRng Tryd.underlying71 row135 Tryd.underlying135 Tryd.underlying137 rfl rfl Tryd.underlying9 cells137 cells9
  obtain ⟨a3, s3, v3, _⟩ := laid_sentinel h3 gSyn tSyn Tryd.underlying71 row135 Tryd.underlying135 Tryd.underlying137 rfl rfl Tryd.underlying9 cells137 cells9
  exact ⟨Lib.tabIs_of_head gTab tTab Tryd.underlying130 Tryd.underlying111 (by kernel_rfl) (by kernel_rfl) h1, ⟨_, _, World.var?_cell gSyn v3 0⟩, ⟨_, _, World.var?_cell gRng v2 0⟩⟩
set_option maxRecDepth 100000 in
/-- The laid world meets the condition: closed facts. -/
theorem door_met (os : Os) (args : Array Value) : laidMetH Tryd.prog laid7 ((World.laidAll Tryd.prog os laid7).forCall (fun _ _ => 0) ⟨#[], args, []⟩).memory := by
  rw [MakeChecks.laidMetH_plain _ _ _ (by kernel_rfl)]
  exact laidMet_laidAll _ (by kernel_rfl) (by kernel_rfl)
theorem own : ownKnob Tryd.prog.godebug = none := by kernel_rfl
theorem laidOut : laidOutB Tryd.prog = true := by kernel_rfl
set_option maxRecDepth 100000 in
theorem refs_ok (os : Os) : ((World.laidAll Tryd.prog os laid7).forCall (fun _ _ => 0) ⟨#[], #[.slice none 0 0], []⟩).variablesRefB Tryd.prog = true := by kernel_rfl
end Go.Proofs.YtdjmahmbofhnpaaDoor.Ar

/- The arguments of the laws of archives, opened. -/
namespace Go.Proofs.YtdjmahmbofhnpaaDoor.Ar
open Go.RowKit Go.Proofs.YtdjmahmbofhnpaaDoorW.PrintWords Go.Proofs.YtdjmahmbofhnpaaDoorW.PrintLast Go.Proofs.YtdjmahmbofhnpaaDoor.QAr Go.Proofs.YtdjmahmbofhnpaaDoor.Open
set_option linter.unusedVariables false
theorem sum_ones {α : Type} (l : List α) : (l.map fun _ => 1).sum = l.length := by
  induction l with
  | nil => rfl
  | cons x r ih => simp only [List.map_cons, List.sum_cons, ih, List.length_cons]; omega
theorem wf_u8 {n : Int} (h : (Lit.int .u8 n).wf = true) : 0 ≤ n ∧ n < 256 := by
  simp [Lit.wf, IntKind.min, IntKind.max, IntKind.bits, IntKind.signed] at h
  omega
def m39 (m : S39) : Nat := m.f0.size + m.f1.length + 1
def m43 (m : S43) : Nat := m.f0.size + 1
theorem mM_le (l : List S39) : mM l ≤ 200 * (l.map m39).sum := by
  unfold mM
  induction l with
  | nil => exact Nat.le_refl _
  | cons m r ih => simp only [List.map_cons, List.sum_cons]; unfold m39 at *; omega
theorem mX_le (l : List S43) : mX l ≤ 200 * (l.map m43).sum := by
  unfold mX
  induction l with
  | nil => exact Nat.le_refl _
  | cons m r ih => simp only [List.map_cons, List.sum_cons]; unfold m43 at *; omega
section
variable {H : Type} {enc : TypeId × Value → H} {w : World} {base : Nat} {spare : Nat → Bool} {held : Bool}
theorem op5 : Opens enc Tryd.prog w base spare held 5 (Kd.int .u8) (fun n => 0 ≤ n ∧ n < 256) (fun _ => True) (fun _ => 1) :=
  op_imp (op_int Tryd.underlying5 (by kernel_rfl)) (fun _ h => wf_u8 h) (fun _ h => h) (fun _ => Nat.le_refl _)
theorem op24 : Opens enc Tryd.prog w base spare held 24 (Kd.slice 5 (Kd.int .u8)) Bytes8 (fun l => l.length ≤ 140737488351232) (fun l => l.length) :=
  op_imp (op_slice Tryd.underlying24 (by kernel_rfl) op5) (fun _ h => h) (fun l h => by have h1 := h.1; rw [show Tryd.prog.bytesOf 5 = 1 by kernel_rfl, Nat.mul_one] at h1; exact h1) (fun l => by rw [sum_ones]; omega)
theorem op39 : Opens enc Tryd.prog w base spare held 39 k39 (fun m => Bytes8 m.f1) (fun _ => True) m39 :=
  op_imp (op_iso (fun x : S39 => (x.f0, x.f1)) (fun p => ⟨p.1, p.2⟩) (fun _ => rfl)
    (op_struct Tryd.underlying39 (by kernel_rfl) (opf_cons (op_string Tryd.underlying9 (by kernel_rfl)) rfl (opf_one op24 (by kernel_rfl) (by kernel_rfl)))))
    (fun _ h => h.2) (fun _ _ => trivial) (fun x => by unfold m39; show x.f0.size + x.f1.length + 1 ≤ x.f0.size + 1 + x.f1.length + 1; omega)
theorem op43 : Opens enc Tryd.prog w base spare held 43 k43 (fun _ => True) (fun _ => True) m43 :=
  op_imp (op_iso (fun x : S43 => (x.f0, x.f1)) (fun p => ⟨p.1, p.2⟩) (fun _ => rfl)
    (op_struct Tryd.underlying43 (by kernel_rfl) (opf_cons (op_string Tryd.underlying9 (by kernel_rfl)) rfl (opf_one (op_int Tryd.underlying3 (by kernel_rfl)) (by kernel_rfl) (by kernel_rfl)))))
    (fun _ _ => trivial) (fun _ _ => trivial) (fun x => by unfold m43; show x.f0.size + 1 ≤ x.f0.size + 1 + 1 + 1; omega)
theorem op22 : Opens enc Tryd.prog w base spare held 22 (Kd.slice 39 k39) (fun l => ∀ m ∈ l, Bytes8 m.f1) (fun _ => True) (fun l => (l.map m39).sum) :=
  op_imp (op_slice Tryd.underlying22 (by kernel_rfl) op39) (fun _ h => h) (fun _ _ => trivial) (fun l => Nat.le_add_right _ _)
theorem op23 : Opens enc Tryd.prog w base spare held 23 (Kd.slice 43 k43) (fun _ => True) (fun _ => True) (fun l => (l.map m43).sum) :=
  op_imp (op_slice Tryd.underlying23 (by kernel_rfl) op43) (fun _ _ => trivial) (fun _ _ => trivial) (fun l => Nat.le_add_right _ _)
end
end Go.Proofs.YtdjmahmbofhnpaaDoor.Ar
