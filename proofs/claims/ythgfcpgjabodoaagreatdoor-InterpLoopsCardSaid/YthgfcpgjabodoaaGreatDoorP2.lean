/-
  What parse.Program makes of a text.
-/
import Derived.Test.YthgfcpgjabodoaaGreatDoorW2
set_option linter.unusedVariables false
set_option linter.unusedSimpArgs false
set_option maxRecDepth 100000
namespace Go.Proofs.YthgfcpgjabodoaaGreatDoor
open Go Go.AM
noncomputable def p2 : Pst := { g := 22, s := [108, 101, 116, 32, 105, 32, 61, 32, 97, 100, 100, 40, 34, 102, 105, 108, 108, 34, 44, 32, 34, 114, 101, 100, 34, 41, 59, 32, 99, 111, 108, 111, 114, 40, 105, 44, 32, 54, 53, 53, 51, 53, 44, 32, 48, 44, 32, 48, 44, 32, 54, 53, 53, 51, 53, 41, 59, 32, 112, 114, 105, 110, 116, 40, 105, 41, 59], v := .tuple ⟨[vS 1565 0 3 3, vI 0, vI 0]⟩, n := 784, js := [289, 315, 613, 639, 746, 772, 782], os := [.cells [vI 2, vT [102, 105, 108, 108], vI 0, .slice none 0 0, .slice none 0 0, vI 12, vI 2, vT [114, 101, 100], vI 0, .slice none 0 0, .slice none 0 0, vI 20] 6 false,
 .cells [vI 7, vT [97, 100, 100], vI 0, .slice none 0 0, vS 579 0 2 2, vI 8] 6 true,
 .cells [vI 3, vT [105], vI 0, .slice none 0 0, .slice none 0 0, vI 34, vI 1, vT [], vI 65535, .slice none 0 0, .slice none 0 0, vI 37, vI 1, vT [], vI 0, .slice none 0 0, .slice none 0 0, vI 44, vI 1, vT [], vI 0, .slice none 0 0, .slice none 0 0, vI 47, vI 1, vT [], vI 65535, .slice none 0 0, .slice none 0 0, vI 50] 6 false,
 .cells [vI 7, vT [99, 111, 108, 111, 114], vI 0, .slice none 0 0, vS 1227 0 5 5, vI 28] 6 true,
 .cells [vI 3, vT [105], vI 0, .slice none 0 0, .slice none 0 0, vI 64] 6 false,
 .cells [vI 7, vT [112, 114, 105, 110, 116], vI 0, .slice none 0 0, vS 1493 0 1 1, vI 58] 6 true,
 .cells [vI 20, vT [105], vI 0, .slice none 0 0, vS 631 0 1 1, vI 0, vI 28, vT [], vI 0, .slice none 0 0, vS 1279 0 1 1, vI 28, vI 28, vT [], vI 0, .slice none 0 0, vS 1545 0 1 1, vI 58] 6 false] }
theorem p2_ok : tZ p2 := ⟨by kernel_rfl, by decide, lD 200, kZ 200, fun w0 => by kernel_rfl⟩
end Go.Proofs.YthgfcpgjabodoaaGreatDoor
