/-
  DERIVED. GIVEN WITH THE SEED: THE CARDS: each row of YtdjmahmbofhnpaaDoorRows.lean that lists a variable, with what it lists TIED to the program's text (the seventh form; the later family's looks); each row that meets fmt, with fmt's text TOLD by the authors' own Lean function (tested against real Go, not proved from fmt's source: count such statements apart). THE CARD IS WHAT COUNTS. Prove the row's statement (the work); the ties are given (YtdjmahmbofhnpaaDoorTie.lean); close each card by the builder's one call (the guide's Derived/Test/ToyasCard.lean, 'card_holds'). Laid BY PROGRAM, IN A SANDBOX (cutbox-door.mjs). By AI agents, Wed Nov 11 2026. No macro, syntax, notation, axiom, sorry.
-/
import Derived.Test.YtdjmahmbofhnpaaDoorRows
import GoSem.ClaimSeven
namespace Go.Proofs.YtdjmahmbofhnpaaDoor
namespace Rows

/-- THE TIED CARD OF 'bulwarklaw10.ArPuts'. -/
def arPutsCard : Claim7 := { stood := { row := arPutsRow, standIns := [], harness := (true, "a051b0d328b0ab9453d295d9d1af0ca068dbc7ea1da166ef5a230ff82181f6a7"), looks := true }, kinds := [], alts := [], laidByText := true, laidKinds := [.data, .data, .data, .data, .sentinel, .sentinel, .pinned], laidTests := true, laidLooks := .later }
def ArPutsCardSaid : Prop := Claim7.holds Tryd.pinned (.plain (OpenSpec.ofChange arPutsSpec)) arPutsCard

/-- THE TIED CARD OF 'bulwarklaw10.ArReads'. -/
def arReadsCard : Claim7 := { stood := { row := arReadsRow, standIns := [], harness := (true, "a051b0d328b0ab9453d295d9d1af0ca068dbc7ea1da166ef5a230ff82181f6a7"), looks := true }, kinds := [], alts := [], laidByText := true, laidKinds := [.data, .data, .data, .data, .sentinel, .sentinel, .pinned], laidTests := true, laidLooks := .later }
def ArReadsCardSaid : Prop := Claim7.holds Tryd.pinned (.plain (OpenSpec.ofChange arReadsSpec)) arReadsCard

/-- THE TIED CARD OF 'bulwarklaw10.ArBack'. -/
def arBackCard : Claim7 := { stood := { row := arBackRow, standIns := [], harness := (true, "a051b0d328b0ab9453d295d9d1af0ca068dbc7ea1da166ef5a230ff82181f6a7"), looks := true }, kinds := [], alts := [], laidByText := true, laidKinds := [.data, .data, .data, .data, .sentinel, .sentinel, .pinned], laidTests := true, laidLooks := .later }
def ArBackCardSaid : Prop := Claim7.holds Tryd.pinned (.plain (OpenSpec.ofChange arBackSpec)) arBackCard

/-- THE TIED CARD OF 'bulwarklaw10.ArOnce'. -/
def arOnceCard : Claim7 := { stood := { row := arOnceRow, standIns := [], harness := (true, "a051b0d328b0ab9453d295d9d1af0ca068dbc7ea1da166ef5a230ff82181f6a7"), looks := true }, kinds := [], alts := [], laidByText := true, laidKinds := [.data, .data, .data, .data, .sentinel, .sentinel, .pinned], laidTests := true, laidLooks := .later }
def ArOnceCardSaid : Prop := Claim7.holds Tryd.pinned (.plain (OpenSpec.ofChange arOnceSpec)) arOnceCard

/-- THE TIED CARD OF 'bulwarklaw10.ArFresh'. -/
def arFreshCard : Claim7 := { stood := { row := arFreshRow, standIns := [], harness := (true, "a051b0d328b0ab9453d295d9d1af0ca068dbc7ea1da166ef5a230ff82181f6a7"), looks := true }, kinds := [], alts := [], laidByText := true, laidKinds := [.data, .data, .data, .data, .sentinel, .sentinel, .pinned], laidTests := true, laidLooks := .later }
def ArFreshCardSaid : Prop := Claim7.holds Tryd.pinned (.plain (OpenSpec.ofChange arFreshSpec)) arFreshCard

/-- THE SECOND FORM's CARD OF 'bulwarklaw10.ArPuts'. -/
def arPutsUptoCard : Claim7 := { stood := { row := arPutsUptoRow, standIns := [], harness := (true, "a051b0d328b0ab9453d295d9d1af0ca068dbc7ea1da166ef5a230ff82181f6a7"), looks := true }, kinds := [], alts := [], laidByText := true, laidKinds := [.data, .data, .data, .data, .sentinel, .sentinel, .pinned], laidTests := true, laidLooks := .later }
def ArPutsUptoCardSaid : Prop := Claim7.holds Tryd.pinned (.plain (OpenSpec.upto arPutsSpec)) arPutsUptoCard

/-- THE SECOND FORM's CARD OF 'bulwarklaw10.ArReads'. -/
def arReadsUptoCard : Claim7 := { stood := { row := arReadsUptoRow, standIns := [], harness := (true, "a051b0d328b0ab9453d295d9d1af0ca068dbc7ea1da166ef5a230ff82181f6a7"), looks := true }, kinds := [], alts := [], laidByText := true, laidKinds := [.data, .data, .data, .data, .sentinel, .sentinel, .pinned], laidTests := true, laidLooks := .later }
def ArReadsUptoCardSaid : Prop := Claim7.holds Tryd.pinned (.plain (OpenSpec.upto arReadsSpec)) arReadsUptoCard

/-- THE SECOND FORM's CARD OF 'bulwarklaw10.ArBack'. -/
def arBackUptoCard : Claim7 := { stood := { row := arBackUptoRow, standIns := [], harness := (true, "a051b0d328b0ab9453d295d9d1af0ca068dbc7ea1da166ef5a230ff82181f6a7"), looks := true }, kinds := [], alts := [], laidByText := true, laidKinds := [.data, .data, .data, .data, .sentinel, .sentinel, .pinned], laidTests := true, laidLooks := .later }
def ArBackUptoCardSaid : Prop := Claim7.holds Tryd.pinned (.plain (OpenSpec.upto arBackSpec)) arBackUptoCard

/-- THE SECOND FORM's CARD OF 'bulwarklaw10.ArOnce'. -/
def arOnceUptoCard : Claim7 := { stood := { row := arOnceUptoRow, standIns := [], harness := (true, "a051b0d328b0ab9453d295d9d1af0ca068dbc7ea1da166ef5a230ff82181f6a7"), looks := true }, kinds := [], alts := [], laidByText := true, laidKinds := [.data, .data, .data, .data, .sentinel, .sentinel, .pinned], laidTests := true, laidLooks := .later }
def ArOnceUptoCardSaid : Prop := Claim7.holds Tryd.pinned (.plain (OpenSpec.upto arOnceSpec)) arOnceUptoCard

/-- THE SECOND FORM's CARD OF 'bulwarklaw10.ArFresh'. -/
def arFreshUptoCard : Claim7 := { stood := { row := arFreshUptoRow, standIns := [], harness := (true, "a051b0d328b0ab9453d295d9d1af0ca068dbc7ea1da166ef5a230ff82181f6a7"), looks := true }, kinds := [], alts := [], laidByText := true, laidKinds := [.data, .data, .data, .data, .sentinel, .sentinel, .pinned], laidTests := true, laidLooks := .later }
def ArFreshUptoCardSaid : Prop := Claim7.holds Tryd.pinned (.plain (OpenSpec.upto arFreshSpec)) arFreshUptoCard
end Rows
end Go.Proofs.YtdjmahmbofhnpaaDoor
