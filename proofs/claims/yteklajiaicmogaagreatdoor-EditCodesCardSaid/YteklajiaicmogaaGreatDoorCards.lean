/-
  DERIVED. GIVEN WITH THE SEED: THE CARDS: each row of YteklajiaicmogaaGreatDoorRows.lean that lists a variable, with what it lists TIED to the program's text (the seventh form; the later family's looks); each row that meets fmt, with fmt's text TOLD by the authors' own Lean function (tested against real Go, not proved from fmt's source: count such statements apart). THE CARD IS WHAT COUNTS. Prove the row's statement (the work); the ties are given (YteklajiaicmogaaGreatDoorTie.lean); close each card by the builder's one call (the guide's Derived/Test/ToyasCard.lean, 'card_holds'). Laid BY PROGRAM, IN A SANDBOX (cutbox-door.mjs). By AI agents, Wed Nov 11 2026. No macro, syntax, notation, axiom, sorry.
-/
import Derived.Test.YteklajiaicmogaaGreatDoorRows
import GoSem.ClaimSeven
namespace Go.Proofs.YteklajiaicmogaaGreatDoor
namespace Rows

/-- THE TIED CARD OF 'imageeditorlaw40.EditCodes'. -/
def editCodesCard : Claim7 := { stood := { row := editCodesRow, standIns := [], harness := (true, "8898e7fbd21dfbf7578466fe747e12683d5ffbbc0e5dd0b4a8c4fb2ca8732b7f"), looks := false }, kinds := [], alts := [], laidByText := true, laidKinds := [.data, .data, .listed, .pinned, .data, .data], laidTests := true, laidLooks := .later }
def EditCodesCardSaid : Prop := Claim7.holds Tryz.pinned (.plain (OpenSpec.ofChange editCodesSpec)) editCodesCard

/-- THE SECOND FORM's CARD OF 'imageeditorlaw40.EditCodes'. -/
def editCodesUptoCard : Claim7 := { stood := { row := editCodesUptoRow, standIns := [], harness := (true, "8898e7fbd21dfbf7578466fe747e12683d5ffbbc0e5dd0b4a8c4fb2ca8732b7f"), looks := false }, kinds := [], alts := [], laidByText := true, laidKinds := [.data, .data, .listed, .pinned, .data, .data], laidTests := true, laidLooks := .later }
def EditCodesUptoCardSaid : Prop := Claim7.holds Tryz.pinned (.plain (OpenSpec.upto editCodesSpec)) editCodesUptoCard
end Rows
end Go.Proofs.YteklajiaicmogaaGreatDoor
