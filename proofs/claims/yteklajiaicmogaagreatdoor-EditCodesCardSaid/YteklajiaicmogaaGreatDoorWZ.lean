/-
  Walks, laid by program.
-/
import Derived.Test.YteklajiaicmogaaGreatDoorW0
import Derived.Test.YteklajiaicmogaaGreatDoorW1
import Derived.Test.YteklajiaicmogaaGreatDoorW2
import Derived.Test.YteklajiaicmogaaGreatDoorK5
set_option linter.unusedVariables false
set_option linter.unusedSimpArgs false
set_option maxRecDepth 100000
namespace Go.Proofs.YteklajiaicmogaaGreatDoor
open Go Go.AM
theorem aTz (w : World) : aPi E (qZ E 400) 400 10 (aBd E 8).results (aPh w) = some (.bool true) := by kernel_rfl
theorem aXz (w : World) : (aPh w).Ok Tryz.prog (aBl E (aBd E 8).results (.bool true)) := aPj E aEj mixed (aTz w)
theorem aXe (w : World) : (aQp w).Ok Tryz.prog (aBl E (aBd E 8).results (.bool true)) := aCm E aEj mixed (aw_p2 w) (aXz w)
theorem aXi (w : World) : (aVo w).Ok Tryz.prog (aBl E (aBd E 8).results (.bool true)) := aCm E aEj mixed (aw_p1 w) (aXe w)
theorem aUa (w : World) : Flat Tryz.prog 8 [] w (.bool true) := aJl aUu (aXi w)
end Go.Proofs.YteklajiaicmogaaGreatDoor
