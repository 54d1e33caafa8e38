/-
  A run of a script.
-/
import Derived.Test.YthgfcpgjabodoaaGreatDoorW2
set_option linter.unusedVariables false
set_option linter.unusedSimpArgs false
set_option linter.unusedSectionVars false
set_option maxRecDepth 100000
namespace Go.Proofs.YthgfcpgjabodoaaGreatDoor
open Go Go.AM
def v7 : Value := .tuple ⟨[.agg ⟨[vI 4, vI 3, vI 0, .slice none 0 0, vI 1, vI 0, vI 0, .slice none 0 0, .slice none 0 0, .slice none 0 0]⟩, vT [], vI 2, vI 19]⟩
theorem r7 (w : World) : kR (qS [] 2000 6 [gN 4 3, vT [49, 32, 43, 32, 116, 114, 117, 101, 59]] (AM.start w)) = some (v7, []) := by kernel_rfl
end Go.Proofs.YthgfcpgjabodoaaGreatDoor
namespace Go.Proofs.YthgfcpgjabodoaaGreatDoor
open Go Go.AM
def v8 : Value := .tuple ⟨[.agg ⟨[vI 4, vI 3, vI 0, .slice none 0 0, vI 1, vI 0, vI 0, .slice none 0 0, .slice none 0 0, .slice none 0 0]⟩, vT [], vI 3, vI 2]⟩
theorem r8 (w : World) : kR (qS [] 2000 6 [gN 4 3, vT [91, 49, 93, 91, 49, 93, 59]] (AM.start w)) = some (v8, []) := by kernel_rfl
end Go.Proofs.YthgfcpgjabodoaaGreatDoor
namespace Go.Proofs.YthgfcpgjabodoaaGreatDoor
open Go Go.AM
def v9 : Value := .tuple ⟨[.agg ⟨[vI 4, vI 3, vI 0, .slice none 0 0, vI 1, vI 0, vI 0, .slice none 0 0, .slice none 0 0, .slice none 0 0]⟩, vT [], vI 0, vI 9]⟩
theorem r9 (w : World) : kR (qS [] 2000 6 [gN 4 3, vT [103, 40, 41, 59]] (AM.start w)) = some (v9, []) := by kernel_rfl
end Go.Proofs.YthgfcpgjabodoaaGreatDoor
