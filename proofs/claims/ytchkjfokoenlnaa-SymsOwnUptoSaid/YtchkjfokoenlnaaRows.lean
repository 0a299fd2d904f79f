/-
  No cell of these rows narrows 'for every input' (looked for: loops, veiled, ifaces, maps, wideKeys, modest, calm, conditions, laid).
  DERIVED. THE GIVEN ROWS OF THIS SEAT. 4 by the template 'for every input the law returns true; each argument reads behind the call as it read before'; 0 by the template 'total and deterministic' (their statements: YtchkjfokoenlnaaTotals.lean).
  GIVEN WITH THE SEED: the statements are not yours to turn. If you find one false, say at which input.
  Laid BY PROGRAM, IN A SANDBOX (cutbox-rows.mjs): the forced cells as the released guide's own fill.sh prints them over the translation 2ac2d6fb10c274e5… (all of the seat's roots in one cut). By AI agents, Wed Nov 11 2026. No macro, syntax, notation, axiom, sorry.
-/
import Derived.Test.YtchkjfokoenlnaaChecked
import GoSem.Claim
import GoSem.ClaimJoined
import GoSem.ClaimMapViews
import Derived.JoinedTies
import Derived.KernelRfl
namespace Go.Proofs.Ytchkjfokoenlnaa
/- THE CELL 'sum', in the pinned program and in every row, IS THE sha256 OF THE DUMP (.gsa) THAT YtchkjfokoenlnaaProg.lean LOADS. Nothing in Lean hashes anything: it is a label: what it is worth is what the hold of that sum in a sandbox is worth. -/
noncomputable def Try.pinned : Pinned := { name := "ytchkjfokoenlnaa", sum := "2ac2d6fb10c274e593e199a86794f27c43e0fe62c9ff51819482253aff4d6eb4", checked := Try.checked }
namespace Rows
def none {H : Type} : Left H := { results := [], args := [] }

/-- 'bulwarklaw14.SymsTable': WHATEVER THE INPUT: true; the input reads as it did. -/
def symsTableSpec : ChangeSpec := { name := "symsTable", fn := fun _ => fun
  | [d1, d2, d3, d4] => { results := [.lit (.bool true)], args := [d1, d2, d3, d4] }
  | _ => none }
def symsTableRow : OpenClaim := { program := "ytchkjfokoenlnaa", sum := "2ac2d6fb10c274e593e199a86794f27c43e0fe62c9ff51819482253aff4d6eb4", func := "bulwark/bulwarklaw14.SymsTable", spec := "symsTable", inPlace := ["internal/bytealg.abigen_runtime_cmpstring"], unfollowed := true, recurses := true, apart := false }
def SymsTableSaid : Prop := symsTableRow.holds Try.pinned (OpenSpec.ofChange symsTableSpec)

/-- ITS FALSE NEIGHBOUR: 'it returns false'. Refute it at one input. -/
def symsTableWrong : ChangeSpec := { name := "symsTable", fn := fun _ => fun
  | [d1, d2, d3, d4] => { results := [.lit (.bool false)], args := [d1, d2, d3, d4] }
  | _ => none }
def SymsTableWrongFalsely : Prop := symsTableRow.holds Try.pinned (OpenSpec.ofChange symsTableWrong)

/-- 'bulwarklaw14.SymsAll': WHATEVER THE INPUT: true; the input reads as it did. -/
def symsAllSpec : ChangeSpec := { name := "symsAll", fn := fun _ => fun
  | [d1, d2] => { results := [.lit (.bool true)], args := [d1, d2] }
  | _ => none }
def symsAllRow : OpenClaim := { program := "ytchkjfokoenlnaa", sum := "2ac2d6fb10c274e593e199a86794f27c43e0fe62c9ff51819482253aff4d6eb4", func := "bulwark/bulwarklaw14.SymsAll", spec := "symsAll", inPlace := ["internal/bytealg.abigen_runtime_cmpstring"], unfollowed := true, recurses := true, apart := false }
def SymsAllSaid : Prop := symsAllRow.holds Try.pinned (OpenSpec.ofChange symsAllSpec)

/-- ITS FALSE NEIGHBOUR: 'it returns false'. Refute it at one input. -/
def symsAllWrong : ChangeSpec := { name := "symsAll", fn := fun _ => fun
  | [d1, d2] => { results := [.lit (.bool false)], args := [d1, d2] }
  | _ => none }
def SymsAllWrongFalsely : Prop := symsAllRow.holds Try.pinned (OpenSpec.ofChange symsAllWrong)

/-- 'bulwarklaw14.SymsOrder': WHATEVER THE INPUT: true; the input reads as it did. -/
def symsOrderSpec : ChangeSpec := { name := "symsOrder", fn := fun _ => fun
  | [d1, d2] => { results := [.lit (.bool true)], args := [d1, d2] }
  | _ => none }
def symsOrderRow : OpenClaim := { program := "ytchkjfokoenlnaa", sum := "2ac2d6fb10c274e593e199a86794f27c43e0fe62c9ff51819482253aff4d6eb4", func := "bulwark/bulwarklaw14.SymsOrder", spec := "symsOrder", inPlace := ["internal/bytealg.abigen_runtime_cmpstring"], unfollowed := true, recurses := true, apart := false }
def SymsOrderSaid : Prop := symsOrderRow.holds Try.pinned (OpenSpec.ofChange symsOrderSpec)

/-- ITS FALSE NEIGHBOUR: 'it returns false'. Refute it at one input. -/
def symsOrderWrong : ChangeSpec := { name := "symsOrder", fn := fun _ => fun
  | [d1, d2] => { results := [.lit (.bool false)], args := [d1, d2] }
  | _ => none }
def SymsOrderWrongFalsely : Prop := symsOrderRow.holds Try.pinned (OpenSpec.ofChange symsOrderWrong)

/-- 'bulwarklaw14.SymsOwn': WHATEVER THE INPUT: true; the input reads as it did. -/
def symsOwnSpec : ChangeSpec := { name := "symsOwn", fn := fun _ => fun
  | [d1, d2] => { results := [.lit (.bool true)], args := [d1, d2] }
  | _ => none }
def symsOwnRow : OpenClaim := { program := "ytchkjfokoenlnaa", sum := "2ac2d6fb10c274e593e199a86794f27c43e0fe62c9ff51819482253aff4d6eb4", func := "bulwark/bulwarklaw14.SymsOwn", spec := "symsOwn", inPlace := ["internal/bytealg.abigen_runtime_cmpstring"], unfollowed := true, recurses := true, apart := false }
def SymsOwnSaid : Prop := symsOwnRow.holds Try.pinned (OpenSpec.ofChange symsOwnSpec)

/-- ITS FALSE NEIGHBOUR: 'it returns false'. Refute it at one input. -/
def symsOwnWrong : ChangeSpec := { name := "symsOwn", fn := fun _ => fun
  | [d1, d2] => { results := [.lit (.bool false)], args := [d1, d2] }
  | _ => none }
def SymsOwnWrongFalsely : Prop := symsOwnRow.holds Try.pinned (OpenSpec.ofChange symsOwnWrong)

/- THE SECOND FORM. 'bulk': how many values and letters a reading holds, each counted each time it is reached (what is shared counts as often as it is met; a slice's spare places count too). A statement '..UptoSaid' is the law's where the arguments, and the package variables that the reading takes, are together of bulk at most 1048576: NARROWER than '..Said'. Prove '..Said' where nothing that the law and all that it calls make is longer than what came in: it says more and counts as full. Else prove '..UptoSaid'. A law counts once. -/
mutual
def uptoBulk {H : Type} : DataW H → Nat
  | .lit (.string bytes) => bytes.length + 1
  | .lit _ => 1
  | .nil => 1
  | .ptr d => uptoBulk d + 1
  | .slice elems spare => uptoBulkAll elems + uptoBulkAll spare + 1
  | .agg parts => uptoBulkAll parts + 1
  | .iface _ d => uptoBulk d + 1
  | .map entries => uptoBulkEntries entries + 1
  | .held _ => 1
def uptoBulkAll {H : Type} : List (DataW H) → Nat
  | [] => 0
  | d :: r => uptoBulk d + uptoBulkAll r
def uptoBulkEntries {H : Type} : List (Lit × DataW H) → Nat
  | [] => 0
  | x :: r => uptoBulkEntry x + uptoBulkEntries r
def uptoBulkEntry {H : Type} : Lit × DataW H → Nat
  | (.string bytes, d) => bytes.length + uptoBulk d + 1
  | (_, d) => uptoBulk d + 1
 end
def uptoSmall : (H : Type) → List (DataW H) → Bool := fun _ ds => decide (uptoBulkAll ds ≤ 1048576)
def OpenSpec.upto (s : _root_.Go.ChangeSpec) : _root_.Go.OpenSpec := { _root_.Go.OpenSpec.ofChange s with cond := some uptoSmall }

/-- 'bulwarklaw14.SymsTable', WHERE WHAT IT READS IS OF BULK AT MOST 1048576: true; the input reads as it did. -/
def symsTableUptoRow : OpenClaim := { program := "ytchkjfokoenlnaa", sum := "2ac2d6fb10c274e593e199a86794f27c43e0fe62c9ff51819482253aff4d6eb4", func := "bulwark/bulwarklaw14.SymsTable", spec := "symsTable", inPlace := ["internal/bytealg.abigen_runtime_cmpstring"], unfollowed := true, recurses := true, apart := false, narrowed := true }
def SymsTableUptoSaid : Prop := symsTableUptoRow.holds Try.pinned (OpenSpec.upto symsTableSpec)

/-- 'bulwarklaw14.SymsAll', WHERE WHAT IT READS IS OF BULK AT MOST 1048576: true; the input reads as it did. -/
def symsAllUptoRow : OpenClaim := { program := "ytchkjfokoenlnaa", sum := "2ac2d6fb10c274e593e199a86794f27c43e0fe62c9ff51819482253aff4d6eb4", func := "bulwark/bulwarklaw14.SymsAll", spec := "symsAll", inPlace := ["internal/bytealg.abigen_runtime_cmpstring"], unfollowed := true, recurses := true, apart := false, narrowed := true }
def SymsAllUptoSaid : Prop := symsAllUptoRow.holds Try.pinned (OpenSpec.upto symsAllSpec)

/-- 'bulwarklaw14.SymsOrder', WHERE WHAT IT READS IS OF BULK AT MOST 1048576: true; the input reads as it did. -/
def symsOrderUptoRow : OpenClaim := { program := "ytchkjfokoenlnaa", sum := "2ac2d6fb10c274e593e199a86794f27c43e0fe62c9ff51819482253aff4d6eb4", func := "bulwark/bulwarklaw14.SymsOrder", spec := "symsOrder", inPlace := ["internal/bytealg.abigen_runtime_cmpstring"], unfollowed := true, recurses := true, apart := false, narrowed := true }
def SymsOrderUptoSaid : Prop := symsOrderUptoRow.holds Try.pinned (OpenSpec.upto symsOrderSpec)

/-- 'bulwarklaw14.SymsOwn', WHERE WHAT IT READS IS OF BULK AT MOST 1048576: true; the input reads as it did. -/
def symsOwnUptoRow : OpenClaim := { program := "ytchkjfokoenlnaa", sum := "2ac2d6fb10c274e593e199a86794f27c43e0fe62c9ff51819482253aff4d6eb4", func := "bulwark/bulwarklaw14.SymsOwn", spec := "symsOwn", inPlace := ["internal/bytealg.abigen_runtime_cmpstring"], unfollowed := true, recurses := true, apart := false, narrowed := true }
def SymsOwnUptoSaid : Prop := symsOwnUptoRow.holds Try.pinned (OpenSpec.upto symsOwnSpec)

end Rows
end Go.Proofs.Ytchkjfokoenlnaa
