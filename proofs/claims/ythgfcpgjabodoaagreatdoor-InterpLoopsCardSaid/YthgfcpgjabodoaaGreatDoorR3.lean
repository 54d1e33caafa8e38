/-
  A run of a script.
-/
import Derived.Test.YthgfcpgjabodoaaGreatDoorW2
set_option linter.unusedVariables false
set_option linter.unusedSimpArgs false
set_option maxRecDepth 100000
namespace Go.Proofs.YthgfcpgjabodoaaGreatDoor
open Go Go.AM
def v3 : Value := .tuple ⟨[.agg ⟨[vI 4, vI 3, vI 0, .slice none 0 0, vI 1, vI 0, vI 0, .slice none 0 0, .slice none 0 0, .slice none 0 0]⟩, vT [49, 10], vI 10, vI 9]⟩
theorem r3 (w : World) : kR (qS [] 2000 6 [gN 4 3, vT [112, 114, 105, 110, 116, 40, 49, 41, 59, 32, 114, 101, 109, 111, 118, 101, 40, 57, 41, 59]] (AM.start w)) = some (v3, []) := by kernel_rfl
end Go.Proofs.YthgfcpgjabodoaaGreatDoor
