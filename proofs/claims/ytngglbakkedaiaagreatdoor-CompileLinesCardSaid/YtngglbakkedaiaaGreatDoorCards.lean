/-
  DERIVED. GIVEN WITH THE SEED: THE CARDS: each row of YtngglbakkedaiaaGreatDoorRows.lean that lists a variable, with what it lists TIED to the program's text (the seventh form; the later family's looks); each row that meets fmt, with fmt's text TOLD by the authors' own Lean function (tested against real Go, not proved from fmt's source: count such statements apart). THE CARD IS WHAT COUNTS. Prove the row's statement (the work); the ties are given (YtngglbakkedaiaaGreatDoorTie.lean); close each card by the builder's one call (the guide's Derived/Test/ToyasCard.lean, 'card_holds'). Laid BY PROGRAM, IN A SANDBOX (cutbox-door.mjs). By AI agents, Wed Nov 11 2026. No macro, syntax, notation, axiom, sorry.
-/
import Derived.Test.YtngglbakkedaiaaGreatDoorRows
import GoSem.ClaimSeven
namespace Go.Proofs.YtngglbakkedaiaaGreatDoor
namespace Rows

/-- THE TIED CARD OF 'counterprooflaw18.CompileLines'. -/
def compileLinesCard : Claim7 := { stood := { row := compileLinesRow, standIns := [], harness := (true, "70281f0937f57cf6b3bd2e420756b0aefe25610338660486c6947e7513cfafef"), looks := true }, kinds := [], alts := [], laidByText := true, laidKinds := [.data, .data, .data, .data, .sentinel, .sentinel, .pinned], laidTests := true, laidLooks := .later }
def CompileLinesCardSaid : Prop := Claim7.holds Tryz.pinned (.plain (OpenSpec.ofChange compileLinesSpec)) compileLinesCard

/-- THE SECOND FORM's CARD OF 'counterprooflaw18.CompileLines'. -/
def compileLinesUptoCard : Claim7 := { stood := { row := compileLinesUptoRow, standIns := [], harness := (true, "70281f0937f57cf6b3bd2e420756b0aefe25610338660486c6947e7513cfafef"), looks := true }, kinds := [], alts := [], laidByText := true, laidKinds := [.data, .data, .data, .data, .sentinel, .sentinel, .pinned], laidTests := true, laidLooks := .later }
def CompileLinesUptoCardSaid : Prop := Claim7.holds Tryz.pinned (.plain (OpenSpec.upto compileLinesSpec)) compileLinesUptoCard
end Rows
end Go.Proofs.YtngglbakkedaiaaGreatDoor
