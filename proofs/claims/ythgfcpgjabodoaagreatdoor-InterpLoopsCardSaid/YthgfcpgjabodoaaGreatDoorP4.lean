/-
  What parse.Program makes of a text.
-/
import Derived.Test.YthgfcpgjabodoaaGreatDoorW2
set_option linter.unusedVariables false
set_option linter.unusedSimpArgs false
set_option maxRecDepth 100000
namespace Go.Proofs.YthgfcpgjabodoaaGreatDoor
open Go Go.AM
noncomputable def p4 : Pst := { g := 22, s := [119, 104, 105, 108, 101, 32, 116, 114, 117, 101, 32, 123, 32, 125], v := .tuple ⟨[vS 205 0 1 1, vI 0, vI 0]⟩, n := 104, js := [100, 102], os := [.cells [vI 9, vT [], vI 0, .slice none 0 0, .slice none 0 0, vI 6, vI 25, vT [], vI 0, .slice none 0 0, .slice none 0 0, vI 11] 6 true,
 .cells [vI 23, vT [], vI 0, .slice none 0 0, vS 201 0 2 2, vI 0] 6 false] }
theorem p4_ok : tZ p4 := ⟨by kernel_rfl, by decide, lD 200, kZ 200, fun w0 => by kernel_rfl⟩
end Go.Proofs.YthgfcpgjabodoaaGreatDoor
