/-
  No cell of these rows narrows 'for every input' (looked for: loops, veiled, ifaces, maps, wideKeys, modest, calm, conditions, laid).
  DERIVED. THE GIVEN ROWS OF THIS SEAT. 12 by the template 'for every input the law returns true; each argument reads behind the call as it read before'; 0 by the template 'total and deterministic' (their statements: YthkbjoglhfclmaaTotals.lean).
  GIVEN WITH THE SEED: the statements are not yours to turn. If you find one false, say at which input.
  Laid BY PROGRAM, IN A SANDBOX (cutbox-rows.mjs): the forced cells as the released guide's own fill.sh prints them over the translation 491e092a39fff32b… (all of the seat's roots in one cut). By AI agents, Wed Nov 11 2026. No macro, syntax, notation, axiom, sorry.
-/
import Derived.Test.YthkbjoglhfclmaaChecked
import GoSem.Claim
import GoSem.ClaimJoined
import GoSem.ClaimMapViews
import Derived.JoinedTies
import Derived.KernelRfl
namespace Go.Proofs.Ythkbjoglhfclmaa
/- THE CELL 'sum', in the pinned program and in every row, IS THE sha256 OF THE DUMP (.gsa) THAT YthkbjoglhfclmaaProg.lean LOADS. Nothing in Lean hashes anything: it is a label: what it is worth is what the hold of that sum in a sandbox is worth. -/
noncomputable def Try.pinned : Pinned := { name := "ythkbjoglhfclmaa", sum := "491e092a39fff32b36c3b2ecbefb89ff28e7f8b759ce651477308afe997862c9", checked := Try.checked }
namespace Rows
def none {H : Type} : Left H := { results := [], args := [] }

/-- 'bulwarklaw16.RelocWhole': WHATEVER THE INPUT: true; the input reads as it did. -/
def relocWholeSpec : ChangeSpec := { name := "relocWhole", fn := fun _ => fun
  | [d1, d2, d3] => { results := [.lit (.bool true)], args := [d1, d2, d3] }
  | _ => none }
def relocWholeRow : OpenClaim := { program := "ythkbjoglhfclmaa", sum := "491e092a39fff32b36c3b2ecbefb89ff28e7f8b759ce651477308afe997862c9", func := "bulwark/bulwarklaw16.RelocWhole", spec := "relocWhole", apart := false }
def RelocWholeSaid : Prop := relocWholeRow.holds Try.pinned (OpenSpec.ofChange relocWholeSpec)

/-- ITS FALSE NEIGHBOUR: 'it returns false'. Refute it at one input. -/
def relocWholeWrong : ChangeSpec := { name := "relocWhole", fn := fun _ => fun
  | [d1, d2, d3] => { results := [.lit (.bool false)], args := [d1, d2, d3] }
  | _ => none }
def RelocWholeWrongFalsely : Prop := relocWholeRow.holds Try.pinned (OpenSpec.ofChange relocWholeWrong)

/-- 'bulwarklaw16.RelocValues': WHATEVER THE INPUT: true; the input reads as it did. -/
def relocValuesSpec : ChangeSpec := { name := "relocValues", fn := fun _ => fun
  | [d1, d2, d3, d4, d5] => { results := [.lit (.bool true)], args := [d1, d2, d3, d4, d5] }
  | _ => none }
def relocValuesRow : OpenClaim := { program := "ythkbjoglhfclmaa", sum := "491e092a39fff32b36c3b2ecbefb89ff28e7f8b759ce651477308afe997862c9", func := "bulwark/bulwarklaw16.RelocValues", spec := "relocValues", apart := false }
def RelocValuesSaid : Prop := relocValuesRow.holds Try.pinned (OpenSpec.ofChange relocValuesSpec)

/-- ITS FALSE NEIGHBOUR: 'it returns false'. Refute it at one input. -/
def relocValuesWrong : ChangeSpec := { name := "relocValues", fn := fun _ => fun
  | [d1, d2, d3, d4, d5] => { results := [.lit (.bool false)], args := [d1, d2, d3, d4, d5] }
  | _ => none }
def RelocValuesWrongFalsely : Prop := relocValuesRow.holds Try.pinned (OpenSpec.ofChange relocValuesWrong)

/-- 'bulwarklaw06.AluDoes': WHATEVER THE INPUT: true; the input reads as it did. -/
def aluDoesSpec : ChangeSpec := { name := "aluDoes", fn := fun _ => fun
  | [d1, d2, d3] => { results := [.lit (.bool true)], args := [d1, d2, d3] }
  | _ => none }
def aluDoesRow : OpenClaim := { program := "ythkbjoglhfclmaa", sum := "491e092a39fff32b36c3b2ecbefb89ff28e7f8b759ce651477308afe997862c9", func := "bulwark/bulwarklaw06.AluDoes", spec := "aluDoes", apart := false }
def AluDoesSaid : Prop := aluDoesRow.holds Try.pinned (OpenSpec.ofChange aluDoesSpec)

/-- ITS FALSE NEIGHBOUR: 'it returns false'. Refute it at one input. -/
def aluDoesWrong : ChangeSpec := { name := "aluDoes", fn := fun _ => fun
  | [d1, d2, d3] => { results := [.lit (.bool false)], args := [d1, d2, d3] }
  | _ => none }
def AluDoesWrongFalsely : Prop := aluDoesRow.holds Try.pinned (OpenSpec.ofChange aluDoesWrong)

/-- 'bulwarklaw06.AluDivides': WHATEVER THE INPUT: true; the input reads as it did. -/
def aluDividesSpec : ChangeSpec := { name := "aluDivides", fn := fun _ => fun
  | [d1, d2] => { results := [.lit (.bool true)], args := [d1, d2] }
  | _ => none }
def aluDividesRow : OpenClaim := { program := "ythkbjoglhfclmaa", sum := "491e092a39fff32b36c3b2ecbefb89ff28e7f8b759ce651477308afe997862c9", func := "bulwark/bulwarklaw06.AluDivides", spec := "aluDivides", apart := false }
def AluDividesSaid : Prop := aluDividesRow.holds Try.pinned (OpenSpec.ofChange aluDividesSpec)

/-- ITS FALSE NEIGHBOUR: 'it returns false'. Refute it at one input. -/
def aluDividesWrong : ChangeSpec := { name := "aluDivides", fn := fun _ => fun
  | [d1, d2] => { results := [.lit (.bool false)], args := [d1, d2] }
  | _ => none }
def AluDividesWrongFalsely : Prop := aluDividesRow.holds Try.pinned (OpenSpec.ofChange aluDividesWrong)

/-- 'bulwarklaw06.AluOrders': WHATEVER THE INPUT: true; the input reads as it did. -/
def aluOrdersSpec : ChangeSpec := { name := "aluOrders", fn := fun _ => fun
  | [d1, d2] => { results := [.lit (.bool true)], args := [d1, d2] }
  | _ => none }
def aluOrdersRow : OpenClaim := { program := "ythkbjoglhfclmaa", sum := "491e092a39fff32b36c3b2ecbefb89ff28e7f8b759ce651477308afe997862c9", func := "bulwark/bulwarklaw06.AluOrders", spec := "aluOrders", apart := false }
def AluOrdersSaid : Prop := aluOrdersRow.holds Try.pinned (OpenSpec.ofChange aluOrdersSpec)

/-- ITS FALSE NEIGHBOUR: 'it returns false'. Refute it at one input. -/
def aluOrdersWrong : ChangeSpec := { name := "aluOrders", fn := fun _ => fun
  | [d1, d2] => { results := [.lit (.bool false)], args := [d1, d2] }
  | _ => none }
def AluOrdersWrongFalsely : Prop := aluOrdersRow.holds Try.pinned (OpenSpec.ofChange aluOrdersWrong)

/-- 'bulwarklaw06.AluBits': WHATEVER THE INPUT: true; the input reads as it did. -/
def aluBitsSpec : ChangeSpec := { name := "aluBits", fn := fun _ => fun
  | [d1, d2] => { results := [.lit (.bool true)], args := [d1, d2] }
  | _ => none }
def aluBitsRow : OpenClaim := { program := "ythkbjoglhfclmaa", sum := "491e092a39fff32b36c3b2ecbefb89ff28e7f8b759ce651477308afe997862c9", func := "bulwark/bulwarklaw06.AluBits", spec := "aluBits", apart := false }
def AluBitsSaid : Prop := aluBitsRow.holds Try.pinned (OpenSpec.ofChange aluBitsSpec)

/-- ITS FALSE NEIGHBOUR: 'it returns false'. Refute it at one input. -/
def aluBitsWrong : ChangeSpec := { name := "aluBits", fn := fun _ => fun
  | [d1, d2] => { results := [.lit (.bool false)], args := [d1, d2] }
  | _ => none }
def AluBitsWrongFalsely : Prop := aluBitsRow.holds Try.pinned (OpenSpec.ofChange aluBitsWrong)

/-- 'bulwarklaw05.InstrPuts': WHATEVER THE INPUT: true; the input reads as it did. -/
def instrPutsSpec : ChangeSpec := { name := "instrPuts", fn := fun _ => fun
  | [d1, d2] => { results := [.lit (.bool true)], args := [d1, d2] }
  | _ => none }
def instrPutsRow : OpenClaim := { program := "ythkbjoglhfclmaa", sum := "491e092a39fff32b36c3b2ecbefb89ff28e7f8b759ce651477308afe997862c9", func := "bulwark/bulwarklaw05.InstrPuts", spec := "instrPuts", unfollowed := true, recurses := true, apart := false }
def InstrPutsSaid : Prop := instrPutsRow.holds Try.pinned (OpenSpec.ofChange instrPutsSpec)

/-- ITS FALSE NEIGHBOUR: 'it returns false'. Refute it at one input. -/
def instrPutsWrong : ChangeSpec := { name := "instrPuts", fn := fun _ => fun
  | [d1, d2] => { results := [.lit (.bool false)], args := [d1, d2] }
  | _ => none }
def InstrPutsWrongFalsely : Prop := instrPutsRow.holds Try.pinned (OpenSpec.ofChange instrPutsWrong)

/-- 'bulwarklaw05.InstrBack': WHATEVER THE INPUT: true; the input reads as it did. -/
def instrBackSpec : ChangeSpec := { name := "instrBack", fn := fun _ => fun
  | [d1, d2] => { results := [.lit (.bool true)], args := [d1, d2] }
  | _ => none }
def instrBackRow : OpenClaim := { program := "ythkbjoglhfclmaa", sum := "491e092a39fff32b36c3b2ecbefb89ff28e7f8b759ce651477308afe997862c9", func := "bulwark/bulwarklaw05.InstrBack", spec := "instrBack", unfollowed := true, recurses := true, apart := false }
def InstrBackSaid : Prop := instrBackRow.holds Try.pinned (OpenSpec.ofChange instrBackSpec)

/-- ITS FALSE NEIGHBOUR: 'it returns false'. Refute it at one input. -/
def instrBackWrong : ChangeSpec := { name := "instrBack", fn := fun _ => fun
  | [d1, d2] => { results := [.lit (.bool false)], args := [d1, d2] }
  | _ => none }
def InstrBackWrongFalsely : Prop := instrBackRow.holds Try.pinned (OpenSpec.ofChange instrBackWrong)

/-- 'bulwarklaw05.InstrOne': WHATEVER THE INPUT: true; the input reads as it did. -/
def instrOneSpec : ChangeSpec := { name := "instrOne", fn := fun _ => fun
  | [d1, d2] => { results := [.lit (.bool true)], args := [d1, d2] }
  | _ => none }
def instrOneRow : OpenClaim := { program := "ythkbjoglhfclmaa", sum := "491e092a39fff32b36c3b2ecbefb89ff28e7f8b759ce651477308afe997862c9", func := "bulwark/bulwarklaw05.InstrOne", spec := "instrOne", unfollowed := true, recurses := true, apart := false }
def InstrOneSaid : Prop := instrOneRow.holds Try.pinned (OpenSpec.ofChange instrOneSpec)

/-- ITS FALSE NEIGHBOUR: 'it returns false'. Refute it at one input. -/
def instrOneWrong : ChangeSpec := { name := "instrOne", fn := fun _ => fun
  | [d1, d2] => { results := [.lit (.bool false)], args := [d1, d2] }
  | _ => none }
def InstrOneWrongFalsely : Prop := instrOneRow.holds Try.pinned (OpenSpec.ofChange instrOneWrong)

/-- 'bulwarklaw05.InstrNames': WHATEVER THE INPUT: true; the input reads as it did. -/
def instrNamesSpec : ChangeSpec := { name := "instrNames", fn := fun _ => fun
  | [d1, d2] => { results := [.lit (.bool true)], args := [d1, d2] }
  | _ => none }
def instrNamesRow : OpenClaim := { program := "ythkbjoglhfclmaa", sum := "491e092a39fff32b36c3b2ecbefb89ff28e7f8b759ce651477308afe997862c9", func := "bulwark/bulwarklaw05.InstrNames", spec := "instrNames", unfollowed := true, recurses := true, apart := false }
def InstrNamesSaid : Prop := instrNamesRow.holds Try.pinned (OpenSpec.ofChange instrNamesSpec)

/-- ITS FALSE NEIGHBOUR: 'it returns false'. Refute it at one input. -/
def instrNamesWrong : ChangeSpec := { name := "instrNames", fn := fun _ => fun
  | [d1, d2] => { results := [.lit (.bool false)], args := [d1, d2] }
  | _ => none }
def InstrNamesWrongFalsely : Prop := instrNamesRow.holds Try.pinned (OpenSpec.ofChange instrNamesWrong)

/-- 'bulwarklaw16.RelocFields': WHATEVER THE INPUT: true; the input reads as it did. -/
def relocFieldsSpec : ChangeSpec := { name := "relocFields", fn := fun _ => fun
  | [d1, d2, d3] => { results := [.lit (.bool true)], args := [d1, d2, d3] }
  | _ => none }
def relocFieldsRow : OpenClaim := { program := "ythkbjoglhfclmaa", sum := "491e092a39fff32b36c3b2ecbefb89ff28e7f8b759ce651477308afe997862c9", func := "bulwark/bulwarklaw16.RelocFields", spec := "relocFields", unfollowed := true, recurses := true, apart := false }
def RelocFieldsSaid : Prop := relocFieldsRow.holds Try.pinned (OpenSpec.ofChange relocFieldsSpec)

/-- ITS FALSE NEIGHBOUR: 'it returns false'. Refute it at one input. -/
def relocFieldsWrong : ChangeSpec := { name := "relocFields", fn := fun _ => fun
  | [d1, d2, d3] => { results := [.lit (.bool false)], args := [d1, d2, d3] }
  | _ => none }
def RelocFieldsWrongFalsely : Prop := relocFieldsRow.holds Try.pinned (OpenSpec.ofChange relocFieldsWrong)

/-- 'bulwarklaw16.RelocField': WHATEVER THE INPUT: true; the input reads as it did. -/
def relocFieldSpec : ChangeSpec := { name := "relocField", fn := fun _ => fun
  | [d1, d2, d3] => { results := [.lit (.bool true)], args := [d1, d2, d3] }
  | _ => none }
def relocFieldRow : OpenClaim := { program := "ythkbjoglhfclmaa", sum := "491e092a39fff32b36c3b2ecbefb89ff28e7f8b759ce651477308afe997862c9", func := "bulwark/bulwarklaw16.RelocField", spec := "relocField", unfollowed := true, recurses := true, apart := false }
def RelocFieldSaid : Prop := relocFieldRow.holds Try.pinned (OpenSpec.ofChange relocFieldSpec)

/-- ITS FALSE NEIGHBOUR: 'it returns false'. Refute it at one input. -/
def relocFieldWrong : ChangeSpec := { name := "relocField", fn := fun _ => fun
  | [d1, d2, d3] => { results := [.lit (.bool false)], args := [d1, d2, d3] }
  | _ => none }
def RelocFieldWrongFalsely : Prop := relocFieldRow.holds Try.pinned (OpenSpec.ofChange relocFieldWrong)

/- THE SECOND FORM. 'bulk': how many values and letters a reading holds, each counted each time it is reached (what is shared counts as often as it is met; a slice's spare places count too). A statement '..UptoSaid' is the law's where the arguments, and the package variables that the reading takes, are together of bulk at most 1048576: NARROWER than '..Said'. Prove '..Said' where nothing that the law and all that it calls make is longer than what came in: it says more and counts as full. Else prove '..UptoSaid'. A law counts once. -/
mutual
def uptoBulk {H : Type} : DataW H → Nat
  | .lit (.string bytes) => bytes.length + 1
  | .lit _ => 1
  | .nil => 1
  | .ptr d => uptoBulk d + 1
  | .slice elems spare => uptoBulkAll elems + uptoBulkAll spare + 1
  | .agg parts => uptoBulkAll parts + 1
  | .iface _ d => uptoBulk d + 1
  | .map entries => uptoBulkEntries entries + 1
  | .held _ => 1
def uptoBulkAll {H : Type} : List (DataW H) → Nat
  | [] => 0
  | d :: r => uptoBulk d + uptoBulkAll r
def uptoBulkEntries {H : Type} : List (Lit × DataW H) → Nat
  | [] => 0
  | x :: r => uptoBulkEntry x + uptoBulkEntries r
def uptoBulkEntry {H : Type} : Lit × DataW H → Nat
  | (.string bytes, d) => bytes.length + uptoBulk d + 1
  | (_, d) => uptoBulk d + 1
 end
def uptoSmall : (H : Type) → List (DataW H) → Bool := fun _ ds => decide (uptoBulkAll ds ≤ 1048576)
def OpenSpec.upto (s : _root_.Go.ChangeSpec) : _root_.Go.OpenSpec := { _root_.Go.OpenSpec.ofChange s with cond := some uptoSmall }

/-- 'bulwarklaw16.RelocWhole', WHERE WHAT IT READS IS OF BULK AT MOST 1048576: true; the input reads as it did. -/
def relocWholeUptoRow : OpenClaim := { program := "ythkbjoglhfclmaa", sum := "491e092a39fff32b36c3b2ecbefb89ff28e7f8b759ce651477308afe997862c9", func := "bulwark/bulwarklaw16.RelocWhole", spec := "relocWhole", apart := false, narrowed := true }
def RelocWholeUptoSaid : Prop := relocWholeUptoRow.holds Try.pinned (OpenSpec.upto relocWholeSpec)

/-- 'bulwarklaw16.RelocValues', WHERE WHAT IT READS IS OF BULK AT MOST 1048576: true; the input reads as it did. -/
def relocValuesUptoRow : OpenClaim := { program := "ythkbjoglhfclmaa", sum := "491e092a39fff32b36c3b2ecbefb89ff28e7f8b759ce651477308afe997862c9", func := "bulwark/bulwarklaw16.RelocValues", spec := "relocValues", apart := false, narrowed := true }
def RelocValuesUptoSaid : Prop := relocValuesUptoRow.holds Try.pinned (OpenSpec.upto relocValuesSpec)

/-- 'bulwarklaw06.AluDoes', WHERE WHAT IT READS IS OF BULK AT MOST 1048576: true; the input reads as it did. -/
def aluDoesUptoRow : OpenClaim := { program := "ythkbjoglhfclmaa", sum := "491e092a39fff32b36c3b2ecbefb89ff28e7f8b759ce651477308afe997862c9", func := "bulwark/bulwarklaw06.AluDoes", spec := "aluDoes", apart := false, narrowed := true }
def AluDoesUptoSaid : Prop := aluDoesUptoRow.holds Try.pinned (OpenSpec.upto aluDoesSpec)

/-- 'bulwarklaw06.AluDivides', WHERE WHAT IT READS IS OF BULK AT MOST 1048576: true; the input reads as it did. -/
def aluDividesUptoRow : OpenClaim := { program := "ythkbjoglhfclmaa", sum := "491e092a39fff32b36c3b2ecbefb89ff28e7f8b759ce651477308afe997862c9", func := "bulwark/bulwarklaw06.AluDivides", spec := "aluDivides", apart := false, narrowed := true }
def AluDividesUptoSaid : Prop := aluDividesUptoRow.holds Try.pinned (OpenSpec.upto aluDividesSpec)

/-- 'bulwarklaw06.AluOrders', WHERE WHAT IT READS IS OF BULK AT MOST 1048576: true; the input reads as it did. -/
def aluOrdersUptoRow : OpenClaim := { program := "ythkbjoglhfclmaa", sum := "491e092a39fff32b36c3b2ecbefb89ff28e7f8b759ce651477308afe997862c9", func := "bulwark/bulwarklaw06.AluOrders", spec := "aluOrders", apart := false, narrowed := true }
def AluOrdersUptoSaid : Prop := aluOrdersUptoRow.holds Try.pinned (OpenSpec.upto aluOrdersSpec)

/-- 'bulwarklaw06.AluBits', WHERE WHAT IT READS IS OF BULK AT MOST 1048576: true; the input reads as it did. -/
def aluBitsUptoRow : OpenClaim := { program := "ythkbjoglhfclmaa", sum := "491e092a39fff32b36c3b2ecbefb89ff28e7f8b759ce651477308afe997862c9", func := "bulwark/bulwarklaw06.AluBits", spec := "aluBits", apart := false, narrowed := true }
def AluBitsUptoSaid : Prop := aluBitsUptoRow.holds Try.pinned (OpenSpec.upto aluBitsSpec)

/-- 'bulwarklaw05.InstrPuts', WHERE WHAT IT READS IS OF BULK AT MOST 1048576: true; the input reads as it did. -/
def instrPutsUptoRow : OpenClaim := { program := "ythkbjoglhfclmaa", sum := "491e092a39fff32b36c3b2ecbefb89ff28e7f8b759ce651477308afe997862c9", func := "bulwark/bulwarklaw05.InstrPuts", spec := "instrPuts", unfollowed := true, recurses := true, apart := false, narrowed := true }
def InstrPutsUptoSaid : Prop := instrPutsUptoRow.holds Try.pinned (OpenSpec.upto instrPutsSpec)

/-- 'bulwarklaw05.InstrBack', WHERE WHAT IT READS IS OF BULK AT MOST 1048576: true; the input reads as it did. -/
def instrBackUptoRow : OpenClaim := { program := "ythkbjoglhfclmaa", sum := "491e092a39fff32b36c3b2ecbefb89ff28e7f8b759ce651477308afe997862c9", func := "bulwark/bulwarklaw05.InstrBack", spec := "instrBack", unfollowed := true, recurses := true, apart := false, narrowed := true }
def InstrBackUptoSaid : Prop := instrBackUptoRow.holds Try.pinned (OpenSpec.upto instrBackSpec)

/-- 'bulwarklaw05.InstrOne', WHERE WHAT IT READS IS OF BULK AT MOST 1048576: true; the input reads as it did. -/
def instrOneUptoRow : OpenClaim := { program := "ythkbjoglhfclmaa", sum := "491e092a39fff32b36c3b2ecbefb89ff28e7f8b759ce651477308afe997862c9", func := "bulwark/bulwarklaw05.InstrOne", spec := "instrOne", unfollowed := true, recurses := true, apart := false, narrowed := true }
def InstrOneUptoSaid : Prop := instrOneUptoRow.holds Try.pinned (OpenSpec.upto instrOneSpec)

/-- 'bulwarklaw05.InstrNames', WHERE WHAT IT READS IS OF BULK AT MOST 1048576: true; the input reads as it did. -/
def instrNamesUptoRow : OpenClaim := { program := "ythkbjoglhfclmaa", sum := "491e092a39fff32b36c3b2ecbefb89ff28e7f8b759ce651477308afe997862c9", func := "bulwark/bulwarklaw05.InstrNames", spec := "instrNames", unfollowed := true, recurses := true, apart := false, narrowed := true }
def InstrNamesUptoSaid : Prop := instrNamesUptoRow.holds Try.pinned (OpenSpec.upto instrNamesSpec)

/-- 'bulwarklaw16.RelocFields', WHERE WHAT IT READS IS OF BULK AT MOST 1048576: true; the input reads as it did. -/
def relocFieldsUptoRow : OpenClaim := { program := "ythkbjoglhfclmaa", sum := "491e092a39fff32b36c3b2ecbefb89ff28e7f8b759ce651477308afe997862c9", func := "bulwark/bulwarklaw16.RelocFields", spec := "relocFields", unfollowed := true, recurses := true, apart := false, narrowed := true }
def RelocFieldsUptoSaid : Prop := relocFieldsUptoRow.holds Try.pinned (OpenSpec.upto relocFieldsSpec)

/-- 'bulwarklaw16.RelocField', WHERE WHAT IT READS IS OF BULK AT MOST 1048576: true; the input reads as it did. -/
def relocFieldUptoRow : OpenClaim := { program := "ythkbjoglhfclmaa", sum := "491e092a39fff32b36c3b2ecbefb89ff28e7f8b759ce651477308afe997862c9", func := "bulwark/bulwarklaw16.RelocField", spec := "relocField", unfollowed := true, recurses := true, apart := false, narrowed := true }
def RelocFieldUptoSaid : Prop := relocFieldUptoRow.holds Try.pinned (OpenSpec.upto relocFieldSpec)

end Rows
end Go.Proofs.Ythkbjoglhfclmaa
