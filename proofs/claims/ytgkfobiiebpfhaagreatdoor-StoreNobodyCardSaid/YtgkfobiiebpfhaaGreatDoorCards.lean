/-
  DERIVED. GIVEN WITH THE SEED: THE CARDS: each row of YtgkfobiiebpfhaaGreatDoorRows.lean that lists a variable, with what it lists TIED to the program's text (the seventh form; the later family's looks); each row that meets fmt, with fmt's text TOLD by the authors' own Lean function (tested against real Go, not proved from fmt's source: count such statements apart). THE CARD IS WHAT COUNTS. Prove the row's statement (the work); the ties are given (YtgkfobiiebpfhaaGreatDoorTie.lean); close each card by the builder's one call (the guide's Derived/Test/ToyasCard.lean, 'card_holds'). Laid BY PROGRAM, IN A SANDBOX (cutbox-door.mjs). By AI agents, Wed Nov 11 2026. No macro, syntax, notation, axiom, sorry.
-/
import Derived.Test.YtgkfobiiebpfhaaGreatDoorRows
import GoSem.ClaimSeven
namespace Go.Proofs.YtgkfobiiebpfhaaGreatDoor
namespace Rows

/-- THE TIED CARD OF 'imageeditorlaw45.StoreNobody'. -/
def storeNobodyCard : Claim7 := { stood := { row := storeNobodyRow, standIns := [], harness := (true, "14bf109d4d3af9016ee1596abedc8a3642ef48a47e2126c039a1f8d3ae086b72"), looks := false }, kinds := [], alts := [], laidByText := true, laidKinds := [.data, .data, .listed, .pinned, .data, .data], laidTests := true, laidLooks := .later }
def StoreNobodyCardSaid : Prop := Claim7.holds Tryz.pinned (.plain (OpenSpec.ofChange storeNobodySpec)) storeNobodyCard

/-- THE SECOND FORM's CARD OF 'imageeditorlaw45.StoreNobody'. -/
def storeNobodyUptoCard : Claim7 := { stood := { row := storeNobodyUptoRow, standIns := [], harness := (true, "14bf109d4d3af9016ee1596abedc8a3642ef48a47e2126c039a1f8d3ae086b72"), looks := false }, kinds := [], alts := [], laidByText := true, laidKinds := [.data, .data, .listed, .pinned, .data, .data], laidTests := true, laidLooks := .later }
def StoreNobodyUptoCardSaid : Prop := Claim7.holds Tryz.pinned (.plain (OpenSpec.upto storeNobodySpec)) storeNobodyUptoCard
end Rows
end Go.Proofs.YtgkfobiiebpfhaaGreatDoor
