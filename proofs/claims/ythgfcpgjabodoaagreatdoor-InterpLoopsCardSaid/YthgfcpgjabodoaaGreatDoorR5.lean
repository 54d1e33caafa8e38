/-
  A run of a script.
-/
import Derived.Test.YthgfcpgjabodoaaGreatDoorW2
import Derived.Test.YthgfcpgjabodoaaGreatDoorP5
set_option linter.unusedVariables false
set_option linter.unusedSimpArgs false
set_option maxRecDepth 100000
namespace Go.Proofs.YthgfcpgjabodoaaGreatDoor
open Go Go.AM
def v5 : Value := .tuple ⟨[.agg ⟨[vI 4, vI 3, vI 0, .slice none 0 0, vI 1, vI 0, vI 0, .slice none 0 0, .slice none 0 0, .slice none 0 0]⟩, vT [49, 50, 48, 10], vI 0, vI 0]⟩
theorem r5 (w : World) : kR (qS [p5] 2000 6 [gN 4 3, vT [102, 110, 32, 102, 40, 110, 41, 32, 123, 32, 105, 102, 32, 110, 32, 61, 61, 32, 48, 32, 123, 32, 114, 101, 116, 117, 114, 110, 32, 49, 59, 32, 125, 32, 114, 101, 116, 117, 114, 110, 32, 110, 32, 42, 32, 102, 40, 110, 32, 45, 32, 49, 41, 59, 32, 125, 32, 112, 114, 105, 110, 116, 40, 102, 40, 53, 41, 41, 59]] (AM.start w)) = some (v5, [Tab ⟨w, 0, .nil⟩]) := by kernel_rfl
end Go.Proofs.YthgfcpgjabodoaaGreatDoor
