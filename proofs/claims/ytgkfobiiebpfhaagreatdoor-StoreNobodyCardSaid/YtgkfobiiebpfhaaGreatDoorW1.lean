/-
  Walks, laid by program.
-/
import Derived.Test.YtgkfobiiebpfhaaGreatDoorW0
set_option linter.unusedVariables false
set_option linter.unusedSimpArgs false
set_option maxRecDepth 100000
namespace Go.Proofs.YtgkfobiiebpfhaaGreatDoor
open Go Go.AM
theorem aw_p1 (w : World) : pieceS E (acallT E tb 60) 60 21 [23, 104, 106, 132, 217, 219, 222, 580, 582] (aw_s0 w) = some (aw_s1 w) := by kernel_rfl
end Go.Proofs.YtgkfobiiebpfhaaGreatDoor
