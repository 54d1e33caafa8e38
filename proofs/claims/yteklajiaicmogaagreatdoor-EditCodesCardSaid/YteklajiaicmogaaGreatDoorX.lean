/-
  The law of the encoding of edits: for every edit.
-/
import Derived.Test.YteklajiaicmogaaGreatDoorK5
import Derived.Test.YteklajiaicmogaaGreatDoorWZ
set_option linter.unusedVariables false
set_option linter.unusedSimpArgs false
namespace Go.Proofs.YteklajiaicmogaaGreatDoor
open Go Go.AM
theorem aOe (S : AH) : XCall Tryz.prog 8 [] S fun v H' => v = .bool true ∧ Kept S.nx S H' :=
  ⟨.bool true, S, ⟨rfl, Kept.refl _ _⟩, rfl, ACalls.flat rfl fun π φ args' w hv hR => by
    cases args' with
    | nil => exact aUa w
    | cons _ _ => exact absurd hv.1 (by simp)⟩
theorem aEc {S : AH} {xs : List Value} {c : List CT} (h : CellsA (fun _ => False) S jQ xs c) : XCall Tryz.prog 3 [.agg ⟨xs⟩] S fun v H' => v = .bool true ∧ Kept S.nx S H' := by
  obtain ⟨x, e, rfl, rfl, px⟩ := h.fn (n := 84) rfl
  exact yW aOe (fun _ h => h.elim) px
end Go.Proofs.YteklajiaicmogaaGreatDoor
