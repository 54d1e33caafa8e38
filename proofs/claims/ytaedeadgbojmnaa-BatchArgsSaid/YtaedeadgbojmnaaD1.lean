/-
  Walks, laid by program.
-/
import Derived.Test.YtaedeadgbojmnaaB0
set_option linter.unusedVariables false
set_option linter.unusedSimpArgs false
set_option maxRecDepth 100000
namespace Go.Proofs.Ytaedeadgbojmnaa
open Go Go.AM

theorem edit_fn {A : Nat → Prop} {H : AH} {ys : List Value} {cs : List CT} (h : CellsA A H k48 ys cs) : ∃ y, ys = cellsOf 84 y := by
  obtain ⟨y, _, h1, _⟩ := h.fn (n := 84) rfl
  exact ⟨y, h1⟩
def saidTrue : Option (Value × AH) → Bool
  | some (.bool true, _) => true
  | _ => false
theorem of_saidTrue {o : Option (Value × AH)} (h : saidTrue o = true) : ∃ H', o = some (.bool true, H') := by
  unfold saidTrue at h
  split at h
  · exact ⟨_, rfl⟩
  · cases h
theorem example_acall (w : World) : ∃ H', acall E 400 10 [] (Go.AM.start w) = some (.bool true, H') := of_saidTrue (by kernel_rfl)
theorem example_ok (S : AH) : XCall Try.prog 10 [] S fun v H' => v = .bool true ∧ Kept S.nx S H' :=
  ⟨.bool true, S, ⟨rfl, Kept.refl _ _⟩, rfl, ACalls.flat rfl fun π φ args' w hv hR => by
    cases args' with
    | nil => exact Flat.closed E mixed 400 example_acall w
    | cons _ _ => exact absurd hv.1 (by simp)⟩
end Go.Proofs.Ytaedeadgbojmnaa
