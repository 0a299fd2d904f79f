/- What the rows' lists give: the two sentinels lie in their variables' cells, as two pointers. -/
import Derived.Test.YtchkjfokoenlnaaDoorRows
import Derived.Test.YtchkjfokoenlnaaDoorQNum
import Derived.Stop.LaidTwo
import Derived.LaidMore
import Derived.ProofKit
import Derived.Deep.DeepHandedRow
import Derived.Deep.DeepWitnessRowRef
namespace Go.Proofs.YtchkjfokoenlnaaDoor.Lin
open Go.ChangeShapes Go.WideShapes Go.ChangeAt Go.RowKit Go.Proofs.YtchkjfokoenlnaaDoor.Err
theorem gTwice : Tryd.prog.globalNamed "bulwark/asm.errTwice" = some 1 := by kernel_rfl
theorem gNone : Tryd.prog.globalNamed "bulwark/asm.errNone" = some 0 := by kernel_rfl
theorem tTwice : (Tryd.prog.globals[1]?).map (·.type) = some 42 := by kernel_rfl
theorem tNone : (Tryd.prog.globals[0]?).map (·.type) = some 42 := by kernel_rfl
theorem cells117 : Tryd.prog.cellsOf 117 = 1 := by kernel_rfl
theorem cells9 : Tryd.prog.cellsOf 9 = 1 := by kernel_rfl
theorem star : "*" ++ "errors.errorString" = "*errors.errorString" := by decide
theorem row92 (u : TypeId) (h : Tryd.prog.typeName? 3 u = some "*errors.errorString") : u = 92 :=
  typeName_ptr_named (nm := "errors.errorString") (by rw [star]; kernel_rfl) (by kernel_rfl) (by decide) u (by rw [star]; exact h)
abbrev laid2 : List (String × DataW Unit) := [("bulwark/asm.errTwice", Rows.laid_bulwark_asm_errTwice), ("bulwark/asm.errNone", Rows.laid_bulwark_asm_errNone)]
theorem sent_of_laid {W : World} (h : laidMetH Tryd.prog laid2 W) : ∃ a0 a1, Sent W a0 a1 := by
  rw [MakeChecks.laidMetH_plain _ _ _ (by kernel_rfl)] at h
  obtain ⟨a0, a1, s0, s1, c0, c1, t0, t1, hv0, hv1, hc0, hs0, hz0, hc1, hs1, hz1, hne, hb0, hb1⟩ := laid_sentinels2 h gTwice tTwice gNone tNone Tryd.underlying42 row92 Tryd.underlying92 Tryd.underlying117 rfl rfl Tryd.underlying9 cells117 cells9
  exact ⟨a1, a0, (World.var?_cell gNone hv1 0).trans rfl, (World.var?_cell gTwice hv0 0).trans rfl, Ne.symm hne, ⟨c1, t1, hb1⟩, ⟨c0, t0, hb0⟩⟩
/-- The door's own heap meets the condition: closed facts. -/
theorem door_met (os : Os) (args : Array Value) : laidMetH Tryd.prog laid2 ((World.doorLaid Tryd.prog 47 os).forCall (fun _ _ => 0) ⟨#[], args, []⟩).memory :=
  laidMetH_of_parts3 (fuel := 8) (laidMet_of_run' 8 (by kernel_rfl) (by kernel_rfl)) (by kernel_rfl) (by kernel_rfl)
theorem own : ownKnob Tryd.prog.godebug = none := by kernel_rfl
theorem laidOut : laidOutB Tryd.prog = true := by kernel_rfl
end Go.Proofs.YtchkjfokoenlnaaDoor.Lin
