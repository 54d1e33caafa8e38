/-
  What parse.Program makes of a text.
-/
import Derived.Test.YthgfcpgjabodoaaGreatDoorW2
set_option linter.unusedVariables false
set_option linter.unusedSimpArgs false
set_option maxRecDepth 100000
namespace Go.Proofs.YthgfcpgjabodoaaGreatDoor
open Go Go.AM
noncomputable def p10 : Pst := { g := 22, s := [103, 114, 111, 117, 112, 40, 34, 103, 34, 41, 59, 32, 112, 114, 105, 110, 116, 40, 99, 111, 117, 110, 116, 40, 41, 41, 59], v := .tuple ⟨[vS 669 0 2 2, vI 0, vI 0]⟩, n := 336, js := [156, 182, 298, 324, 334], os := [.cells [vI 2, vT [103], vI 0, .slice none 0 0, .slice none 0 0, vI 6] 6 false,
 .cells [vI 7, vT [103, 114, 111, 117, 112], vI 0, .slice none 0 0, vS 313 0 1 1, vI 0] 6 true,
 .cells [vI 7, vT [99, 111, 117, 110, 116], vI 0, .slice none 0 0, .slice none 0 0, vI 18] 6 false,
 .cells [vI 7, vT [112, 114, 105, 110, 116], vI 0, .slice none 0 0, vS 597 0 1 1, vI 12] 6 true,
 .cells [vI 28, vT [], vI 0, .slice none 0 0, vS 365 0 1 1, vI 0, vI 28, vT [], vI 0, .slice none 0 0, vS 649 0 1 1, vI 12] 6 false] }
theorem aRw : tZ p10 := ⟨by kernel_rfl, by decide, lD 200, kZ 200, fun w0 => by kernel_rfl⟩
end Go.Proofs.YthgfcpgjabodoaaGreatDoor
