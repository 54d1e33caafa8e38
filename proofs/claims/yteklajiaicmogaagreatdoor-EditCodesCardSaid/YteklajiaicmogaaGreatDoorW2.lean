/-
  Walks, laid by program.
-/
import Derived.Test.YteklajiaicmogaaGreatDoorW0
set_option linter.unusedVariables false
set_option linter.unusedSimpArgs false
set_option maxRecDepth 100000
namespace Go.Proofs.YteklajiaicmogaaGreatDoor
open Go Go.AM
theorem aw_p2 (w : World) : aDy E (qZ E 400) 400 7 [1, 4, 6, 7, 8, 118, 126, 132, 186, 254, 260, 296, 363] (aQp w) = some (aPh w) := by kernel_rfl
end Go.Proofs.YteklajiaicmogaaGreatDoor
