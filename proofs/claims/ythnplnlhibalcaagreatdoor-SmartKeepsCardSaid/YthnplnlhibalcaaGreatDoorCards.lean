/-
  DERIVED. GIVEN WITH THE SEED: THE CARDS: each row of YthnplnlhibalcaaGreatDoorRows.lean that lists a variable, with what it lists TIED to the program's text (the seventh form; the later family's looks); each row that meets fmt, with fmt's text TOLD by the authors' own Lean function (tested against real Go, not proved from fmt's source: count such statements apart). THE CARD IS WHAT COUNTS. Prove the row's statement (the work); the ties are given (YthnplnlhibalcaaGreatDoorTie.lean); close each card by the builder's one call (the guide's Derived/Test/ToyasCard.lean, 'card_holds'). Laid BY PROGRAM, IN A SANDBOX (cutbox-door.mjs). By AI agents, Wed Nov 11 2026. No macro, syntax, notation, axiom, sorry.
-/
import Derived.Test.YthnplnlhibalcaaGreatDoorRows
import GoSem.ClaimSeven
namespace Go.Proofs.YthnplnlhibalcaaGreatDoor
namespace Rows

/-- THE TIED CARD OF 'imageeditorlaw52.SmartAdds'. -/
def smartAddsCard : Claim7 := { stood := { row := smartAddsRow, standIns := [], harness := (true, "98a13425b2a23abc597800481093d18ab88186e749a883d3f6aff8a3bd17d5b9"), looks := false }, kinds := [], alts := [], laidByText := true, laidKinds := [.data, .data, .listed, .pinned, .data, .data], laidTests := true, laidLooks := .later }
def SmartAddsCardSaid : Prop := Claim7.holds Tryz.pinned (.plain (OpenSpec.ofChange smartAddsSpec)) smartAddsCard

/-- THE TIED CARD OF 'imageeditorlaw52.SmartWants'. -/
def smartWantsCard : Claim7 := { stood := { row := smartWantsRow, standIns := [], harness := (true, "98a13425b2a23abc597800481093d18ab88186e749a883d3f6aff8a3bd17d5b9"), looks := false }, kinds := [], alts := [], laidByText := true, laidKinds := [.data, .data, .listed, .pinned, .data, .data], laidTests := true, laidLooks := .later }
def SmartWantsCardSaid : Prop := Claim7.holds Tryz.pinned (.plain (OpenSpec.ofChange smartWantsSpec)) smartWantsCard

/-- THE TIED CARD OF 'imageeditorlaw52.SmartKeeps'. -/
def smartKeepsCard : Claim7 := { stood := { row := smartKeepsRow, standIns := [], harness := (true, "98a13425b2a23abc597800481093d18ab88186e749a883d3f6aff8a3bd17d5b9"), looks := false }, kinds := [], alts := [], laidByText := true, laidKinds := [.data, .data, .listed, .pinned, .data, .data], laidTests := true, laidLooks := .later }
def SmartKeepsCardSaid : Prop := Claim7.holds Tryz.pinned (.plain (OpenSpec.ofChange smartKeepsSpec)) smartKeepsCard

/-- THE TIED CARD OF 'imageeditorlaw52.SmartRules'. -/
def smartRulesCard : Claim7 := { stood := { row := smartRulesRow, standIns := [], harness := (true, "98a13425b2a23abc597800481093d18ab88186e749a883d3f6aff8a3bd17d5b9"), looks := false }, kinds := [], alts := [], laidByText := true, laidKinds := [.data, .data, .listed, .pinned, .data, .data], laidTests := true, laidLooks := .later }
def SmartRulesCardSaid : Prop := Claim7.holds Tryz.pinned (.plain (OpenSpec.ofChange smartRulesSpec)) smartRulesCard

/-- THE SECOND FORM's CARD OF 'imageeditorlaw52.SmartAdds'. -/
def smartAddsUptoCard : Claim7 := { stood := { row := smartAddsUptoRow, standIns := [], harness := (true, "98a13425b2a23abc597800481093d18ab88186e749a883d3f6aff8a3bd17d5b9"), looks := false }, kinds := [], alts := [], laidByText := true, laidKinds := [.data, .data, .listed, .pinned, .data, .data], laidTests := true, laidLooks := .later }
def SmartAddsUptoCardSaid : Prop := Claim7.holds Tryz.pinned (.plain (OpenSpec.upto smartAddsSpec)) smartAddsUptoCard

/-- THE SECOND FORM's CARD OF 'imageeditorlaw52.SmartWants'. -/
def smartWantsUptoCard : Claim7 := { stood := { row := smartWantsUptoRow, standIns := [], harness := (true, "98a13425b2a23abc597800481093d18ab88186e749a883d3f6aff8a3bd17d5b9"), looks := false }, kinds := [], alts := [], laidByText := true, laidKinds := [.data, .data, .listed, .pinned, .data, .data], laidTests := true, laidLooks := .later }
def SmartWantsUptoCardSaid : Prop := Claim7.holds Tryz.pinned (.plain (OpenSpec.upto smartWantsSpec)) smartWantsUptoCard

/-- THE SECOND FORM's CARD OF 'imageeditorlaw52.SmartKeeps'. -/
def smartKeepsUptoCard : Claim7 := { stood := { row := smartKeepsUptoRow, standIns := [], harness := (true, "98a13425b2a23abc597800481093d18ab88186e749a883d3f6aff8a3bd17d5b9"), looks := false }, kinds := [], alts := [], laidByText := true, laidKinds := [.data, .data, .listed, .pinned, .data, .data], laidTests := true, laidLooks := .later }
def SmartKeepsUptoCardSaid : Prop := Claim7.holds Tryz.pinned (.plain (OpenSpec.upto smartKeepsSpec)) smartKeepsUptoCard

/-- THE SECOND FORM's CARD OF 'imageeditorlaw52.SmartRules'. -/
def smartRulesUptoCard : Claim7 := { stood := { row := smartRulesUptoRow, standIns := [], harness := (true, "98a13425b2a23abc597800481093d18ab88186e749a883d3f6aff8a3bd17d5b9"), looks := false }, kinds := [], alts := [], laidByText := true, laidKinds := [.data, .data, .listed, .pinned, .data, .data], laidTests := true, laidLooks := .later }
def SmartRulesUptoCardSaid : Prop := Claim7.holds Tryz.pinned (.plain (OpenSpec.upto smartRulesSpec)) smartRulesUptoCard
end Rows
end Go.Proofs.YthnplnlhibalcaaGreatDoor
