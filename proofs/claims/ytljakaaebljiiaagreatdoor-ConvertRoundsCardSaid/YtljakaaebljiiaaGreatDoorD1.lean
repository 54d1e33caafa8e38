/-
  Walks, laid by program.
-/
import Derived.Test.YtljakaaebljiiaaGreatDoorD0
set_option linter.unusedVariables false
set_option linter.unusedSimpArgs false
set_option maxRecDepth 100000
namespace Go.Proofs.YtljakaaebljiiaaGreatDoor
open Go Go.AM

theorem awake_run (w : World) : saidTrue (acallT E tb 60 6 [] (Go.AM.start w)) = true := by kernel_rfl
theorem awake_ok (S : AH) : XCall Tryz.prog 6 [] S fun v H' => v = .bool true ∧ Kept S.nx S H' :=
  ⟨.bool true, S, ⟨rfl, Kept.refl _ _⟩, rfl, ACalls.flat rfl fun π φ args' w hv hR => by
    cases args' with
    | nil => exact Flat.closedT E tb_ok mixed rfl 60 (fun w => of_saidTrue (awake_run w)) w
    | cons _ _ => exact absurd hv.1 (by simp)⟩
end Go.Proofs.YtljakaaebljiiaaGreatDoor
