/-
  DERIVED. GIVEN WITH THE SEED: THE CARDS: each row of YtlikijmihbgloaaGreatDoorRows.lean that lists a variable, with what it lists TIED to the program's text (the seventh form; the later family's looks); each row that meets fmt, with fmt's text TOLD by the authors' own Lean function (tested against real Go, not proved from fmt's source: count such statements apart). THE CARD IS WHAT COUNTS. Prove the row's statement (the work); the ties are given (YtlikijmihbgloaaGreatDoorTie.lean); close each card by the builder's one call (the guide's Derived/Test/ToyasCard.lean, 'card_holds'). Laid BY PROGRAM, IN A SANDBOX (cutbox-door.mjs). By AI agents, Wed Nov 11 2026. No macro, syntax, notation, axiom, sorry.
-/
import Derived.Test.YtlikijmihbgloaaGreatDoorRows
import GoSem.ClaimSeven
namespace Go.Proofs.YtlikijmihbgloaaGreatDoor
namespace Rows

/-- THE TIED CARD OF 'imageeditorlaw51.ConvertNative'. -/
def convertNativeCard : Claim7 := { stood := { row := convertNativeRow, standIns := [], harness := (true, "a919c5a24032e7da0b2a2a49562cd20edae828840e675436d0f52f5467ca5317"), looks := false }, kinds := [], alts := [], laidByText := true, laidKinds := [.data, .data, .listed, .pinned, .data, .data, .data, .data, .data], laidTests := true, laidLooks := .later }
def ConvertNativeCardSaid : Prop := Claim7.holds Tryz.pinned (.plain (OpenSpec.ofChange convertNativeSpec)) convertNativeCard

/-- THE SECOND FORM's CARD OF 'imageeditorlaw51.ConvertNative'. -/
def convertNativeUptoCard : Claim7 := { stood := { row := convertNativeUptoRow, standIns := [], harness := (true, "a919c5a24032e7da0b2a2a49562cd20edae828840e675436d0f52f5467ca5317"), looks := false }, kinds := [], alts := [], laidByText := true, laidKinds := [.data, .data, .listed, .pinned, .data, .data, .data, .data, .data], laidTests := true, laidLooks := .later }
def ConvertNativeUptoCardSaid : Prop := Claim7.holds Tryz.pinned (.plain (OpenSpec.upto convertNativeSpec)) convertNativeUptoCard
end Rows
end Go.Proofs.YtlikijmihbgloaaGreatDoor
