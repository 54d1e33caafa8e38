/-
  DERIVED. GIVEN WITH THE SEED: THE CARDS: each row of YtljakaaebljiiaaGreatDoorRows.lean that lists a variable, with what it lists TIED to the program's text (the seventh form; the later family's looks); each row that meets fmt, with fmt's text TOLD by the authors' own Lean function (tested against real Go, not proved from fmt's source: count such statements apart). THE CARD IS WHAT COUNTS. Prove the row's statement (the work); the ties are given (YtljakaaebljiiaaGreatDoorTie.lean); close each card by the builder's one call (the guide's Derived/Test/ToyasCard.lean, 'card_holds'). Laid BY PROGRAM, IN A SANDBOX (cutbox-door.mjs). By AI agents, Wed Nov 11 2026. No macro, syntax, notation, axiom, sorry.
-/
import Derived.Test.YtljakaaebljiiaaGreatDoorRows
import GoSem.ClaimSeven
namespace Go.Proofs.YtljakaaebljiiaaGreatDoor
namespace Rows

/-- THE TIED CARD OF 'imageeditorlaw51.ConvertDetects'. -/
def convertDetectsCard : Claim7 := { stood := { row := convertDetectsRow, standIns := [], harness := (true, "2a1282f7419a245aa36eee7ff0c0d3345b3f83d2721c919e37e8a0b1f0c66dcd"), looks := false }, kinds := [], alts := [], laidByText := true, laidKinds := [.data, .data, .listed, .pinned, .data, .data, .data, .data, .data], laidTests := true, laidLooks := .later }
def ConvertDetectsCardSaid : Prop := Claim7.holds Tryz.pinned (.plain (OpenSpec.ofChange convertDetectsSpec)) convertDetectsCard

/-- THE TIED CARD OF 'imageeditorlaw51.ConvertRounds'. -/
def convertRoundsCard : Claim7 := { stood := { row := convertRoundsRow, standIns := [], harness := (true, "2a1282f7419a245aa36eee7ff0c0d3345b3f83d2721c919e37e8a0b1f0c66dcd"), looks := false }, kinds := [], alts := [], laidByText := true, laidKinds := [.data, .data, .listed, .pinned, .data, .data, .data, .data, .data], laidTests := true, laidLooks := .later }
def ConvertRoundsCardSaid : Prop := Claim7.holds Tryz.pinned (.plain (OpenSpec.ofChange convertRoundsSpec)) convertRoundsCard

/-- THE TIED CARD OF 'imageeditorlaw51.ConvertTwice'. -/
def convertTwiceCard : Claim7 := { stood := { row := convertTwiceRow, standIns := [], harness := (true, "2a1282f7419a245aa36eee7ff0c0d3345b3f83d2721c919e37e8a0b1f0c66dcd"), looks := false }, kinds := [], alts := [], laidByText := true, laidKinds := [.data, .data, .listed, .pinned, .data, .data, .data, .data, .data], laidTests := true, laidLooks := .later }
def ConvertTwiceCardSaid : Prop := Claim7.holds Tryz.pinned (.plain (OpenSpec.ofChange convertTwiceSpec)) convertTwiceCard

/-- THE SECOND FORM's CARD OF 'imageeditorlaw51.ConvertDetects'. -/
def convertDetectsUptoCard : Claim7 := { stood := { row := convertDetectsUptoRow, standIns := [], harness := (true, "2a1282f7419a245aa36eee7ff0c0d3345b3f83d2721c919e37e8a0b1f0c66dcd"), looks := false }, kinds := [], alts := [], laidByText := true, laidKinds := [.data, .data, .listed, .pinned, .data, .data, .data, .data, .data], laidTests := true, laidLooks := .later }
def ConvertDetectsUptoCardSaid : Prop := Claim7.holds Tryz.pinned (.plain (OpenSpec.upto convertDetectsSpec)) convertDetectsUptoCard

/-- THE SECOND FORM's CARD OF 'imageeditorlaw51.ConvertRounds'. -/
def convertRoundsUptoCard : Claim7 := { stood := { row := convertRoundsUptoRow, standIns := [], harness := (true, "2a1282f7419a245aa36eee7ff0c0d3345b3f83d2721c919e37e8a0b1f0c66dcd"), looks := false }, kinds := [], alts := [], laidByText := true, laidKinds := [.data, .data, .listed, .pinned, .data, .data, .data, .data, .data], laidTests := true, laidLooks := .later }
def ConvertRoundsUptoCardSaid : Prop := Claim7.holds Tryz.pinned (.plain (OpenSpec.upto convertRoundsSpec)) convertRoundsUptoCard

/-- THE SECOND FORM's CARD OF 'imageeditorlaw51.ConvertTwice'. -/
def convertTwiceUptoCard : Claim7 := { stood := { row := convertTwiceUptoRow, standIns := [], harness := (true, "2a1282f7419a245aa36eee7ff0c0d3345b3f83d2721c919e37e8a0b1f0c66dcd"), looks := false }, kinds := [], alts := [], laidByText := true, laidKinds := [.data, .data, .listed, .pinned, .data, .data, .data, .data, .data], laidTests := true, laidLooks := .later }
def ConvertTwiceUptoCardSaid : Prop := Claim7.holds Tryz.pinned (.plain (OpenSpec.upto convertTwiceSpec)) convertTwiceUptoCard
end Rows
end Go.Proofs.YtljakaaebljiiaaGreatDoor
