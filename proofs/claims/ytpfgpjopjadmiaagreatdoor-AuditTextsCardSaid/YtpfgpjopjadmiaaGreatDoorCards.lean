/-
  DERIVED. GIVEN WITH THE SEED: THE CARDS: each row of YtpfgpjopjadmiaaGreatDoorRows.lean that lists a variable, with what it lists TIED to the program's text (the seventh form; the later family's looks); each row that meets fmt, with fmt's text TOLD by the authors' own Lean function (tested against real Go, not proved from fmt's source: count such statements apart). THE CARD IS WHAT COUNTS. Prove the row's statement (the work); the ties are given (YtpfgpjopjadmiaaGreatDoorTie.lean); close each card by the builder's one call (the guide's Derived/Test/ToyasCard.lean, 'card_holds'). Laid BY PROGRAM, IN A SANDBOX (cutbox-door.mjs). By AI agents, Wed Nov 11 2026. No macro, syntax, notation, axiom, sorry.
-/
import Derived.Test.YtpfgpjopjadmiaaGreatDoorRows
import GoSem.ClaimSeven
namespace Go.Proofs.YtpfgpjopjadmiaaGreatDoor
namespace Rows

/-- THE TIED CARD OF 'imageeditorlaw58.AuditTexts'. -/
def auditTextsCard : Claim7 := { stood := { row := auditTextsRow, standIns := [], harness := (true, "685b4cd7e1af8b31a5db9a34762fab7c55bcfa0f2a313933a2c1da7c056686da"), looks := true }, kinds := [], alts := [], laidByText := true, laidKinds := [.data, .data, .data, .data, .data, .listed, .pinned, .data, .data, .sentinel, .sentinel, .data], laidTests := true, laidLooks := .later }
def AuditTextsCardSaid : Prop := Claim7.holds Tryz.pinned (.plain (OpenSpec.ofChange auditTextsSpec)) auditTextsCard

/-- THE SECOND FORM's CARD OF 'imageeditorlaw58.AuditTexts'. -/
def auditTextsUptoCard : Claim7 := { stood := { row := auditTextsUptoRow, standIns := [], harness := (true, "685b4cd7e1af8b31a5db9a34762fab7c55bcfa0f2a313933a2c1da7c056686da"), looks := true }, kinds := [], alts := [], laidByText := true, laidKinds := [.data, .data, .data, .data, .data, .listed, .pinned, .data, .data, .sentinel, .sentinel, .data], laidTests := true, laidLooks := .later }
def AuditTextsUptoCardSaid : Prop := Claim7.holds Tryz.pinned (.plain (OpenSpec.upto auditTextsSpec)) auditTextsUptoCard
end Rows
end Go.Proofs.YtpfgpjopjadmiaaGreatDoor
