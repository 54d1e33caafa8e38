/-
  A run of a script.
-/
import Derived.Test.YthgfcpgjabodoaaGreatDoorW2
import Derived.Test.YthgfcpgjabodoaaGreatDoorP6
set_option linter.unusedVariables false
set_option linter.unusedSimpArgs false
set_option maxRecDepth 100000
namespace Go.Proofs.YthgfcpgjabodoaaGreatDoor
open Go Go.AM
def v6 : Value := .tuple ⟨[.agg ⟨[vI 4, vI 3, vI 0, .slice none 0 0, vI 1, vI 0, vI 0, .slice none 0 0, .slice none 0 0, .slice none 0 0]⟩, vT [], vI 16, vI 12]⟩
theorem r6 (w : World) : kR (qS [p6] 2000 6 [gN 4 3, vT [102, 110, 32, 102, 40, 41, 32, 123, 32, 114, 101, 116, 117, 114, 110, 32, 102, 40, 41, 59, 32, 125, 32, 102, 40, 41, 59]] (AM.start w)) = some (v6, []) := by kernel_rfl
end Go.Proofs.YthgfcpgjabodoaaGreatDoor
