/-
  What parse.Program makes of a text.
-/
import Derived.Test.YthgfcpgjabodoaaGreatDoorW2
set_option linter.unusedVariables false
set_option linter.unusedSimpArgs false
set_option maxRecDepth 100000
namespace Go.Proofs.YthgfcpgjabodoaaGreatDoor
open Go Go.AM
noncomputable def p6 : Pst := { g := 22, s := [102, 110, 32, 102, 40, 41, 32, 123, 32, 114, 101, 116, 117, 114, 110, 32, 102, 40, 41, 59, 32, 125, 32, 102, 40, 41, 59], v := .tuple ⟨[vS 657 0 2 2, vI 0, vI 0]⟩, n := 330, js := [221, 230, 237, 318, 328], os := [.cells [vI 7, vT [102], vI 0, .slice none 0 0, .slice none 0 0, vI 16] 6 true,
 .cells [vI 27, vT [], vI 0, .slice none 0 0, vS 443 0 1 1, vI 9] 6 false,
 .cells [vI 25, vT [], vI 0, .slice none 0 0, vS 461 0 1 1, vI 7] 6 true,
 .cells [vI 7, vT [102], vI 0, .slice none 0 0, .slice none 0 0, vI 23] 6 true,
 .cells [vI 26, vT [102], vI 0, .slice none 0 0, vS 475 0 1 1, vI 0, vI 28, vT [], vI 0, .slice none 0 0, vS 637 0 1 1, vI 23] 6 false] }
theorem p6_ok : tZ p6 := ⟨by kernel_rfl, by decide, lD 200, kZ 200, fun w0 => by kernel_rfl⟩
end Go.Proofs.YthgfcpgjabodoaaGreatDoor
