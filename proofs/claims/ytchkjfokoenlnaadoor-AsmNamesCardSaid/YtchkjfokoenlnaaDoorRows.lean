/-
  NARROWER THAN 'FOR EVERY INPUT', by the rows' own cells (each row's printed sentence says how): AsmNames: laid · AsmBack: laid.
  DERIVED. THE GIVEN ROWS OF THIS SEAT. 2 by the template 'for every input the law returns true; each argument reads behind the call as it read before'; 0 by the template 'total and deterministic' (their statements: YtchkjfokoenlnaaDoorTotals.lean).
  GIVEN WITH THE SEED: the statements are not yours to turn. If you find one false, say at which input.
  Laid BY PROGRAM, IN A SANDBOX (cutbox-rows.mjs): the forced cells as the released guide's own fill.sh prints them over the translation cb31f5e0c39efdba… (all of the seat's roots in one cut). By AI agents, Wed Nov 11 2026. No macro, syntax, notation, axiom, sorry.
-/
import Derived.Test.YtchkjfokoenlnaaDoorChecked
import GoSem.Claim
import GoSem.ClaimJoined
import GoSem.ClaimMapViews
import Derived.JoinedTies
import Derived.KernelRfl
namespace Go.Proofs.YtchkjfokoenlnaaDoor
/- THE CELL 'sum', in the pinned program and in every row, IS THE sha256 OF THE DUMP (.gsa) THAT YtchkjfokoenlnaaDoorProg.lean LOADS. Nothing in Lean hashes anything: it is a label: what it is worth is what the hold of that sum in a sandbox is worth. -/
noncomputable def Tryd.pinned : Pinned := { name := "ytchkjfokoenlnaadoor", sum := "cb31f5e0c39efdbac4ffebf78f44f633efc0c0b2e5237ff4a321f6587d7e662e", checked := Tryd.checked }
namespace Rows
def none {H : Type} : Left H := { results := [], args := [] }

/- WHAT THE LISTED PACKAGE-LEVEL VARIABLES READ AS WHEN THE CALL BEGINS. Each datum BY PROGRAM (the guide's laid-datum.mjs) off the statement by which the dump's own 'gosem.cut.vars' lays the variable. In a bare row this is a premise. The card (YtchkjfokoenlnaaDoorCards.lean) ties it to the program's text. -/
def laid_bulwark_asm_errTwice {H : Type} : DataW H := .iface "*errors.errorString" (.ptr (.agg [.lit (.string [97, 32, 110, 97, 109, 101, 32, 116, 104, 97, 116, 32, 115, 116, 97, 110, 100, 115, 32, 116, 119, 105, 99, 101])]))
def laid_bulwark_asm_errNone {H : Type} : DataW H := .iface "*errors.errorString" (.ptr (.agg [.lit (.string [97, 32, 110, 97, 109, 101, 32, 116, 104, 97, 116, 32, 115, 116, 97, 110, 100, 115, 32, 110, 111, 119, 104, 101, 114, 101])]))

/-- 'bulwarklaw08.AsmNames': WHATEVER THE INPUT: true; the input reads as it did. -/
def asmNamesSpec : ChangeSpec := { name := "asmNames", fn := fun _ => fun
  | [d1, d2] => { results := [.lit (.bool true)], args := [d1, d2] }
  | _ => none }
def asmNamesRow : OpenClaim := { program := "ytchkjfokoenlnaadoor", sum := "cb31f5e0c39efdbac4ffebf78f44f633efc0c0b2e5237ff4a321f6587d7e662e", func := "bulwark/bulwarklaw08.AsmNames", spec := "asmNames", inPlace := ["internal/reflectlite.TypeOf"], unfollowed := true, recurses := true, named := ["bulwark/asm.errNone", "bulwark/asm.errTwice"], apart := false, laid := [("bulwark/asm.errTwice", laid_bulwark_asm_errTwice), ("bulwark/asm.errNone", laid_bulwark_asm_errNone)] }
def AsmNamesSaid : Prop := asmNamesRow.holds Tryd.pinned (OpenSpec.ofChange asmNamesSpec)

/-- ITS FALSE NEIGHBOUR: 'it returns false'. Refute it at one input. -/
def asmNamesWrong : ChangeSpec := { name := "asmNames", fn := fun _ => fun
  | [d1, d2] => { results := [.lit (.bool false)], args := [d1, d2] }
  | _ => none }
def AsmNamesWrongFalsely : Prop := asmNamesRow.holds Tryd.pinned (OpenSpec.ofChange asmNamesWrong)

/-- 'bulwarklaw08.AsmBack': WHATEVER THE INPUT: true; the input reads as it did. -/
def asmBackSpec : ChangeSpec := { name := "asmBack", fn := fun _ => fun
  | [d1, d2, d3] => { results := [.lit (.bool true)], args := [d1, d2, d3] }
  | _ => none }
def asmBackRow : OpenClaim := { program := "ytchkjfokoenlnaadoor", sum := "cb31f5e0c39efdbac4ffebf78f44f633efc0c0b2e5237ff4a321f6587d7e662e", func := "bulwark/bulwarklaw08.AsmBack", spec := "asmBack", inPlace := ["internal/reflectlite.TypeOf"], unfollowed := true, recurses := true, named := ["bulwark/asm.errNone", "bulwark/asm.errTwice"], apart := false, laid := [("bulwark/asm.errTwice", laid_bulwark_asm_errTwice), ("bulwark/asm.errNone", laid_bulwark_asm_errNone)] }
def AsmBackSaid : Prop := asmBackRow.holds Tryd.pinned (OpenSpec.ofChange asmBackSpec)

/-- ITS FALSE NEIGHBOUR: 'it returns false'. Refute it at one input. -/
def asmBackWrong : ChangeSpec := { name := "asmBack", fn := fun _ => fun
  | [d1, d2, d3] => { results := [.lit (.bool false)], args := [d1, d2, d3] }
  | _ => none }
def AsmBackWrongFalsely : Prop := asmBackRow.holds Tryd.pinned (OpenSpec.ofChange asmBackWrong)

/- THE SECOND FORM. 'bulk': how many values and letters a reading holds, each counted each time it is reached (what is shared counts as often as it is met; a slice's spare places count too). A statement '..UptoSaid' is the law's where the arguments, and the package variables that the reading takes, are together of bulk at most 1048576: NARROWER than '..Said'. Prove '..Said' where nothing that the law and all that it calls make is longer than what came in: it says more and counts as full. Else prove '..UptoSaid'. A law counts once. -/
mutual
def uptoBulk {H : Type} : DataW H → Nat
  | .lit (.string bytes) => bytes.length + 1
  | .lit _ => 1
  | .nil => 1
  | .ptr d => uptoBulk d + 1
  | .slice elems spare => uptoBulkAll elems + uptoBulkAll spare + 1
  | .agg parts => uptoBulkAll parts + 1
  | .iface _ d => uptoBulk d + 1
  | .map entries => uptoBulkEntries entries + 1
  | .held _ => 1
def uptoBulkAll {H : Type} : List (DataW H) → Nat
  | [] => 0
  | d :: r => uptoBulk d + uptoBulkAll r
def uptoBulkEntries {H : Type} : List (Lit × DataW H) → Nat
  | [] => 0
  | x :: r => uptoBulkEntry x + uptoBulkEntries r
def uptoBulkEntry {H : Type} : Lit × DataW H → Nat
  | (.string bytes, d) => bytes.length + uptoBulk d + 1
  | (_, d) => uptoBulk d + 1
 end
def uptoSmall : (H : Type) → List (DataW H) → Bool := fun _ ds => decide (uptoBulkAll ds ≤ 1048576)
def OpenSpec.upto (s : _root_.Go.ChangeSpec) : _root_.Go.OpenSpec := { _root_.Go.OpenSpec.ofChange s with cond := some uptoSmall }

/-- 'bulwarklaw08.AsmNames', WHERE WHAT IT READS IS OF BULK AT MOST 1048576: true; the input reads as it did. -/
def asmNamesUptoRow : OpenClaim := { program := "ytchkjfokoenlnaadoor", sum := "cb31f5e0c39efdbac4ffebf78f44f633efc0c0b2e5237ff4a321f6587d7e662e", func := "bulwark/bulwarklaw08.AsmNames", spec := "asmNames", inPlace := ["internal/reflectlite.TypeOf"], unfollowed := true, recurses := true, named := ["bulwark/asm.errNone", "bulwark/asm.errTwice"], apart := false, laid := [("bulwark/asm.errTwice", laid_bulwark_asm_errTwice), ("bulwark/asm.errNone", laid_bulwark_asm_errNone)], narrowed := true }
def AsmNamesUptoSaid : Prop := asmNamesUptoRow.holds Tryd.pinned (OpenSpec.upto asmNamesSpec)

/-- 'bulwarklaw08.AsmBack', WHERE WHAT IT READS IS OF BULK AT MOST 1048576: true; the input reads as it did. -/
def asmBackUptoRow : OpenClaim := { program := "ytchkjfokoenlnaadoor", sum := "cb31f5e0c39efdbac4ffebf78f44f633efc0c0b2e5237ff4a321f6587d7e662e", func := "bulwark/bulwarklaw08.AsmBack", spec := "asmBack", inPlace := ["internal/reflectlite.TypeOf"], unfollowed := true, recurses := true, named := ["bulwark/asm.errNone", "bulwark/asm.errTwice"], apart := false, laid := [("bulwark/asm.errTwice", laid_bulwark_asm_errTwice), ("bulwark/asm.errNone", laid_bulwark_asm_errNone)], narrowed := true }
def AsmBackUptoSaid : Prop := asmBackUptoRow.holds Tryd.pinned (OpenSpec.upto asmBackSpec)

end Rows
end Go.Proofs.YtchkjfokoenlnaaDoor
