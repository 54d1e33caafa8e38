/-
  The closed facts of the row of SmartKeeps, one by one.
-/
import Derived.Test.YthnplnlhibalcaaGreatDoorRows
import Derived.JoinedOf
namespace Go.Proofs.YthnplnlhibalcaaGreatDoor
open Go
set_option maxRecDepth 100000
set_option maxHeartbeats 40000000 in
theorem smartKeeps_facts : joinedFacts Tryz.pinned.checked.prog 5 Tryz.f5 Rows.smartKeepsSpec Rows.smartKeepsRow = true := by
  unfold joinedFacts
  simp only [Bool.and_eq_true]
  repeat' apply And.intro
  all_goals (as_aux_lemma => kernel_rfl)
end Go.Proofs.YthnplnlhibalcaaGreatDoor
