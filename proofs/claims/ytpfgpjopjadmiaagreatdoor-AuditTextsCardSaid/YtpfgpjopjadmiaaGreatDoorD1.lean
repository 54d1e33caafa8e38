/-
  Walks, laid by program.
-/
import Derived.Test.YtpfgpjopjadmiaaGreatDoorB0
set_option linter.unusedVariables false
set_option linter.unusedSimpArgs false
set_option maxRecDepth 100000
namespace Go.Proofs.YtpfgpjopjadmiaaGreatDoor
open Go Go.AM

def saidTrue : Option (Value × AH) → Bool
  | some (.bool true, _) => true
  | _ => false
theorem of_saidTrue {o : Option (Value × AH)} (h : saidTrue o = true) : ∃ H', o = some (.bool true, H') := by
  unfold saidTrue at h
  split at h
  · exact ⟨_, rfl⟩
  · cases h
theorem awake_run (w : World) : saidTrue (acallG E 60 6 [] (Go.AM.start w)) = true := by kernel_rfl
theorem awake_ok (S : AH) : XCall Tryz.prog 6 [] S fun v H' => v = .bool true ∧ Kept S.nx S H' :=
  ⟨.bool true, S, ⟨rfl, Kept.refl _ _⟩, rfl, ACalls.flat rfl fun π φ args' w hv hR => by
    cases args' with
    | nil => exact Flat.closedG E mixed 60 (fun w => of_saidTrue (awake_run w)) w
    | cons _ _ => exact absurd hv.1 (by simp)⟩
end Go.Proofs.YtpfgpjopjadmiaaGreatDoor
