/-
  Walks, laid by program.
-/
import Derived.Test.YtgkfobiiebpfhaaGreatDoorW0
set_option linter.unusedVariables false
set_option linter.unusedSimpArgs false
set_option maxRecDepth 100000
namespace Go.Proofs.YtgkfobiiebpfhaaGreatDoor
open Go Go.AM
theorem aw_p4 (w : World) : pieceS E (acallT E tb 60) 60 2 [104, 106, 580, 582, 645, 650, 653, 656, 682, 684, 798, 803, 805, 808, 880, 885, 891, 1332, 1334, 1337, 1476, 1481, 1483, 1486, 1489] (aw_s3 w) = some (aw_s4 w) := by kernel_rfl
end Go.Proofs.YtgkfobiiebpfhaaGreatDoor
