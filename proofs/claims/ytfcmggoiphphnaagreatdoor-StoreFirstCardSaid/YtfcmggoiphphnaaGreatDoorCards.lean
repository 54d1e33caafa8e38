/-
  DERIVED. GIVEN WITH THE SEED: THE CARDS: each row of YtfcmggoiphphnaaGreatDoorRows.lean that lists a variable, with what it lists TIED to the program's text (the seventh form; the later family's looks); each row that meets fmt, with fmt's text TOLD by the authors' own Lean function (tested against real Go, not proved from fmt's source: count such statements apart). THE CARD IS WHAT COUNTS. Prove the row's statement (the work); the ties are given (YtfcmggoiphphnaaGreatDoorTie.lean); close each card by the builder's one call (the guide's Derived/Test/ToyasCard.lean, 'card_holds'). Laid BY PROGRAM, IN A SANDBOX (cutbox-door.mjs). By AI agents, Wed Nov 11 2026. No macro, syntax, notation, axiom, sorry.
-/
import Derived.Test.YtfcmggoiphphnaaGreatDoorRows
import GoSem.ClaimSeven
namespace Go.Proofs.YtfcmggoiphphnaaGreatDoor
namespace Rows

/-- THE TIED CARD OF 'imageeditorlaw45.StoreFirst'. -/
def storeFirstCard : Claim7 := { stood := { row := storeFirstRow, standIns := [], harness := (true, "2dcd600a10c93895078becb6bbcb52ebb5cb3cdd01f4471c9fdeaa9f776ef1c1"), looks := false }, kinds := [], alts := [], laidByText := true, laidKinds := [.data, .data, .listed, .pinned, .data, .data], laidTests := true, laidLooks := .later }
def StoreFirstCardSaid : Prop := Claim7.holds Tryz.pinned (.plain (OpenSpec.ofChange storeFirstSpec)) storeFirstCard

/-- THE SECOND FORM's CARD OF 'imageeditorlaw45.StoreFirst'. -/
def storeFirstUptoCard : Claim7 := { stood := { row := storeFirstUptoRow, standIns := [], harness := (true, "2dcd600a10c93895078becb6bbcb52ebb5cb3cdd01f4471c9fdeaa9f776ef1c1"), looks := false }, kinds := [], alts := [], laidByText := true, laidKinds := [.data, .data, .listed, .pinned, .data, .data], laidTests := true, laidLooks := .later }
def StoreFirstUptoCardSaid : Prop := Claim7.holds Tryz.pinned (.plain (OpenSpec.upto storeFirstSpec)) storeFirstUptoCard
end Rows
end Go.Proofs.YtfcmggoiphphnaaGreatDoor
