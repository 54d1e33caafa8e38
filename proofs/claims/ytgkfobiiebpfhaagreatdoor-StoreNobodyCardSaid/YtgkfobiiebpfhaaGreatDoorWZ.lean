/-
  Walks, laid by program.
-/
import Derived.Test.YtgkfobiiebpfhaaGreatDoorW0
import Derived.Test.YtgkfobiiebpfhaaGreatDoorW1
import Derived.Test.YtgkfobiiebpfhaaGreatDoorW2
import Derived.Test.YtgkfobiiebpfhaaGreatDoorW3
import Derived.Test.YtgkfobiiebpfhaaGreatDoorW4
set_option linter.unusedVariables false
set_option linter.unusedSimpArgs false
set_option maxRecDepth 100000
namespace Go.Proofs.YtgkfobiiebpfhaaGreatDoor
open Go Go.AM
theorem aw_last (w : World) : lastS E (acallT E tb 60) 60 8 (fnOf E 16).results (aw_s4 w) = some (.bool true) := by kernel_rfl
theorem aw_ok4 (w : World) : (aw_s4 w).Ok Tryz.prog (endK E (fnOf E 16).results (.bool true)) := lastS_ok E aw_call mixed (aw_last w)
theorem aw_ok3 (w : World) : (aw_s3 w).Ok Tryz.prog (endK E (fnOf E 16).results (.bool true)) := pieceS_ok E aw_call mixed (aw_p4 w) (aw_ok4 w)
theorem aw_ok2 (w : World) : (aw_s2 w).Ok Tryz.prog (endK E (fnOf E 16).results (.bool true)) := pieceS_ok E aw_call mixed (aw_p3 w) (aw_ok3 w)
theorem aw_ok1 (w : World) : (aw_s1 w).Ok Tryz.prog (endK E (fnOf E 16).results (.bool true)) := pieceS_ok E aw_call mixed (aw_p2 w) (aw_ok2 w)
theorem aw_ok0 (w : World) : (aw_s0 w).Ok Tryz.prog (endK E (fnOf E 16).results (.bool true)) := pieceS_ok E aw_call mixed (aw_p1 w) (aw_ok1 w)
theorem aw_flat (w : World) : Flat Tryz.prog 16 [] w (.bool true) := begin_call has16 (aw_ok0 w)
end Go.Proofs.YtgkfobiiebpfhaaGreatDoor
