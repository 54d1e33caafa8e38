/-
  A run of a script.
-/
import Derived.Test.YthgfcpgjabodoaaGreatDoorW2
set_option linter.unusedVariables false
set_option linter.unusedSimpArgs false
set_option maxRecDepth 100000
namespace Go.Proofs.YthgfcpgjabodoaaGreatDoor
open Go Go.AM
def v1 : Value := .tuple ⟨[.agg ⟨[vI 4, vI 3, vI 0, .slice none 0 0, vI 1, vI 0, vI 0, .slice none 0 0, .slice none 0 0, .slice none 0 0]⟩, vT [51, 32, 97, 10, 45, 52, 32, 49, 10], vI 0, vI 0]⟩
theorem r1 (w : World) : kR (qS [] 2000 6 [gN 4 3, vT [112, 114, 105, 110, 116, 40, 49, 32, 43, 32, 50, 44, 32, 34, 97, 34, 41, 59, 32, 112, 114, 105, 110, 116, 40, 45, 55, 32, 47, 32, 50, 44, 32, 45, 55, 32, 37, 32, 50, 41, 59]] (AM.start w)) = some (v1, []) := by kernel_rfl
end Go.Proofs.YthgfcpgjabodoaaGreatDoor
