/-
  DERIVED. GIVEN WITH THE SEED: THE CARDS: each row of YthgfcpgjabodoaaGreatDoorRows.lean that lists a variable, with what it lists TIED to the program's text (the seventh form; the later family's looks); each row that meets fmt, with fmt's text TOLD by the authors' own Lean function (tested against real Go, not proved from fmt's source: count such statements apart). THE CARD IS WHAT COUNTS. Prove the row's statement (the work); the ties are given (YthgfcpgjabodoaaGreatDoorTie.lean); close each card by the builder's one call (the guide's Derived/Test/ToyasCard.lean, 'card_holds'). Laid BY PROGRAM, IN A SANDBOX (cutbox-door.mjs). By AI agents, Wed Nov 11 2026. No macro, syntax, notation, axiom, sorry.
-/
import Derived.Test.YthgfcpgjabodoaaGreatDoorRows
import GoSem.ClaimSeven
namespace Go.Proofs.YthgfcpgjabodoaaGreatDoor
namespace Rows

/-- THE TIED CARD OF 'imageeditorlaw55.InterpLoops'. -/
def interpLoopsCard : Claim7 := { stood := { row := interpLoopsRow, standIns := [], harness := (true, "edcb9acba4375e953d829a72544141b7a0e16aa993da5535777329fb13530e16"), looks := true }, kinds := [], alts := [], laidByText := true, laidKinds := [.data, .data, .listed, .pinned, .data, .sentinel, .sentinel, .data, .data, .data, .data, .data], laidTests := true, laidLooks := .later }
def InterpLoopsCardSaid : Prop := Claim7.holds Tryz.pinned (.plain (OpenSpec.ofChange interpLoopsSpec)) interpLoopsCard

/-- THE TIED CARD OF 'imageeditorlaw55.InterpSums'. -/
def interpSumsCard : Claim7 := { stood := { row := interpSumsRow, standIns := [], harness := (true, "edcb9acba4375e953d829a72544141b7a0e16aa993da5535777329fb13530e16"), looks := true }, kinds := [], alts := [], laidByText := true, laidKinds := [.data, .data, .listed, .pinned, .data, .sentinel, .sentinel, .data, .data, .data, .data, .data], laidTests := true, laidLooks := .later }
def InterpSumsCardSaid : Prop := Claim7.holds Tryz.pinned (.plain (OpenSpec.ofChange interpSumsSpec)) interpSumsCard

/-- THE SECOND FORM's CARD OF 'imageeditorlaw55.InterpLoops'. -/
def interpLoopsUptoCard : Claim7 := { stood := { row := interpLoopsUptoRow, standIns := [], harness := (true, "edcb9acba4375e953d829a72544141b7a0e16aa993da5535777329fb13530e16"), looks := true }, kinds := [], alts := [], laidByText := true, laidKinds := [.data, .data, .listed, .pinned, .data, .sentinel, .sentinel, .data, .data, .data, .data, .data], laidTests := true, laidLooks := .later }
def InterpLoopsUptoCardSaid : Prop := Claim7.holds Tryz.pinned (.plain (OpenSpec.upto interpLoopsSpec)) interpLoopsUptoCard

/-- THE SECOND FORM's CARD OF 'imageeditorlaw55.InterpSums'. -/
def interpSumsUptoCard : Claim7 := { stood := { row := interpSumsUptoRow, standIns := [], harness := (true, "edcb9acba4375e953d829a72544141b7a0e16aa993da5535777329fb13530e16"), looks := true }, kinds := [], alts := [], laidByText := true, laidKinds := [.data, .data, .listed, .pinned, .data, .sentinel, .sentinel, .data, .data, .data, .data, .data], laidTests := true, laidLooks := .later }
def InterpSumsUptoCardSaid : Prop := Claim7.holds Tryz.pinned (.plain (OpenSpec.upto interpSumsSpec)) interpSumsUptoCard
end Rows
end Go.Proofs.YthgfcpgjabodoaaGreatDoor
