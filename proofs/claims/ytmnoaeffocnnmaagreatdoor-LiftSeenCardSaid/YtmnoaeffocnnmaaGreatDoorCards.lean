/-
  DERIVED. GIVEN WITH THE SEED: THE CARDS: each row of YtmnoaeffocnnmaaGreatDoorRows.lean that lists a variable, with what it lists TIED to the program's text (the seventh form; the later family's looks); each row that meets fmt, with fmt's text TOLD by the authors' own Lean function (tested against real Go, not proved from fmt's source: count such statements apart). THE CARD IS WHAT COUNTS. Prove the row's statement (the work); the ties are given (YtmnoaeffocnnmaaGreatDoorTie.lean); close each card by the builder's one call (the guide's Derived/Test/ToyasCard.lean, 'card_holds'). Laid BY PROGRAM, IN A SANDBOX (cutbox-door.mjs). By AI agents, Wed Nov 11 2026. No macro, syntax, notation, axiom, sorry.
-/
import Derived.Test.YtmnoaeffocnnmaaGreatDoorRows
import GoSem.ClaimSeven
namespace Go.Proofs.YtmnoaeffocnnmaaGreatDoor
namespace Rows

/-- THE TIED CARD OF 'counterprooflaw12.LowerRuns'. -/
def lowerRunsCard : Claim7 := { stood := { row := lowerRunsRow, standIns := [], harness := (true, "414d40532dbdecf60be573803ae12b3ab36d417bc75db77b0af4d7f43e48d471"), looks := true }, kinds := [], alts := [], laidByText := true, laidKinds := [.data, .data, .data, .data, .sentinel, .sentinel, .pinned], laidTests := true, laidLooks := .later }
def LowerRunsCardSaid : Prop := Claim7.holds Tryz.pinned (.plain (OpenSpec.ofChange lowerRunsSpec)) lowerRunsCard

/-- THE TIED CARD OF 'counterprooflaw20.LiftSeen'. -/
def liftSeenCard : Claim7 := { stood := { row := liftSeenRow, standIns := [], harness := (true, "414d40532dbdecf60be573803ae12b3ab36d417bc75db77b0af4d7f43e48d471"), looks := true }, kinds := [], alts := [], laidByText := true, laidKinds := [.data, .data, .data, .data, .sentinel, .sentinel, .pinned], laidTests := true, laidLooks := .later }
def LiftSeenCardSaid : Prop := Claim7.holds Tryz.pinned (.plain (OpenSpec.ofChange liftSeenSpec)) liftSeenCard

/-- THE TIED CARD OF 'counterprooflaw20.LiftMoves'. -/
def liftMovesCard : Claim7 := { stood := { row := liftMovesRow, standIns := [], harness := (true, "414d40532dbdecf60be573803ae12b3ab36d417bc75db77b0af4d7f43e48d471"), looks := true }, kinds := [], alts := [], laidByText := true, laidKinds := [.data, .data, .data, .data, .sentinel, .sentinel, .pinned], laidTests := true, laidLooks := .later }
def LiftMovesCardSaid : Prop := Claim7.holds Tryz.pinned (.plain (OpenSpec.ofChange liftMovesSpec)) liftMovesCard

/-- THE SECOND FORM's CARD OF 'counterprooflaw12.LowerRuns'. -/
def lowerRunsUptoCard : Claim7 := { stood := { row := lowerRunsUptoRow, standIns := [], harness := (true, "414d40532dbdecf60be573803ae12b3ab36d417bc75db77b0af4d7f43e48d471"), looks := true }, kinds := [], alts := [], laidByText := true, laidKinds := [.data, .data, .data, .data, .sentinel, .sentinel, .pinned], laidTests := true, laidLooks := .later }
def LowerRunsUptoCardSaid : Prop := Claim7.holds Tryz.pinned (.plain (OpenSpec.upto lowerRunsSpec)) lowerRunsUptoCard

/-- THE SECOND FORM's CARD OF 'counterprooflaw20.LiftSeen'. -/
def liftSeenUptoCard : Claim7 := { stood := { row := liftSeenUptoRow, standIns := [], harness := (true, "414d40532dbdecf60be573803ae12b3ab36d417bc75db77b0af4d7f43e48d471"), looks := true }, kinds := [], alts := [], laidByText := true, laidKinds := [.data, .data, .data, .data, .sentinel, .sentinel, .pinned], laidTests := true, laidLooks := .later }
def LiftSeenUptoCardSaid : Prop := Claim7.holds Tryz.pinned (.plain (OpenSpec.upto liftSeenSpec)) liftSeenUptoCard

/-- THE SECOND FORM's CARD OF 'counterprooflaw20.LiftMoves'. -/
def liftMovesUptoCard : Claim7 := { stood := { row := liftMovesUptoRow, standIns := [], harness := (true, "414d40532dbdecf60be573803ae12b3ab36d417bc75db77b0af4d7f43e48d471"), looks := true }, kinds := [], alts := [], laidByText := true, laidKinds := [.data, .data, .data, .data, .sentinel, .sentinel, .pinned], laidTests := true, laidLooks := .later }
def LiftMovesUptoCardSaid : Prop := Claim7.holds Tryz.pinned (.plain (OpenSpec.upto liftMovesSpec)) liftMovesUptoCard
end Rows
end Go.Proofs.YtmnoaeffocnnmaaGreatDoor
