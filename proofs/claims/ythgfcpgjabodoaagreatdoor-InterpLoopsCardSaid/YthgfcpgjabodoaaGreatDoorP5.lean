/-
  What parse.Program makes of a text.
-/
import Derived.Test.YthgfcpgjabodoaaGreatDoorW2
set_option linter.unusedVariables false
set_option linter.unusedSimpArgs false
set_option maxRecDepth 100000
namespace Go.Proofs.YthgfcpgjabodoaaGreatDoor
open Go Go.AM
noncomputable def p5 : Pst := { g := 22, s := [102, 110, 32, 102, 40, 110, 41, 32, 123, 32, 105, 102, 32, 110, 32, 61, 61, 32, 48, 32, 123, 32, 114, 101, 116, 117, 114, 110, 32, 49, 59, 32, 125, 32, 114, 101, 116, 117, 114, 110, 32, 110, 32, 42, 32, 102, 40, 110, 32, 45, 32, 49, 41, 59, 32, 125, 32, 112, 114, 105, 110, 116, 40, 102, 40, 53, 41, 41, 59], v := .tuple ⟨[vS 1649 0 2 2, vI 0, vI 0]⟩, n := 826, js := [220, 321, 415, 424, 432, 583, 596, 608, 623, 632, 639, 761, 788, 814, 824], os := [.cells [vT [110]] 1 false,
 .cells [vI 3, vT [110], vI 0, .slice none 0 0, .slice none 0 0, vI 13, vI 1, vT [], vI 0, .slice none 0 0, .slice none 0 0, vI 18] 6 true,
 .cells [vI 1, vT [], vI 1, .slice none 0 0, .slice none 0 0, vI 29] 6 true,
 .cells [vI 27, vT [], vI 0, .slice none 0 0, vS 831 0 1 1, vI 22] 6 false,
 .cells [vI 6, vT [61, 61], vI 0, .slice none 0 0, vS 643 0 2 2, vI 15, vI 25, vT [], vI 0, .slice none 0 0, vS 849 0 1 1, vI 20] 6 false,
 .cells [vI 3, vT [110], vI 0, .slice none 0 0, .slice none 0 0, vI 47, vI 1, vT [], vI 1, .slice none 0 0, .slice none 0 0, vI 51] 6 true,
 .cells [vI 6, vT [45], vI 0, .slice none 0 0, vS 1167 0 2 2, vI 49] 6 false,
 .cells [vI 3, vT [110], vI 0, .slice none 0 0, .slice none 0 0, vI 41, vI 7, vT [102], vI 0, .slice none 0 0, vS 1193 0 1 1, vI 45] 6 true,
 .cells [vI 6, vT [42], vI 0, .slice none 0 0, vS 1217 0 2 2, vI 43] 6 true,
 .cells [vI 22, vT [], vI 0, .slice none 0 0, vS 865 0 2 2, vI 10, vI 27, vT [], vI 0, .slice none 0 0, vS 1247 0 1 1, vI 34] 6 false,
 .cells [vI 25, vT [], vI 0, .slice none 0 0, vS 1265 0 2 2, vI 8] 6 true,
 .cells [vI 1, vT [], vI 5, .slice none 0 0, .slice none 0 0, vI 65] 6 false,
 .cells [vI 7, vT [102], vI 0, .slice none 0 0, vS 1523 0 1 1, vI 63] 6 false,
 .cells [vI 7, vT [112, 114, 105, 110, 116], vI 0, .slice none 0 0, vS 1577 0 1 1, vI 57] 6 true,
 .cells [vI 26, vT [102], vI 0, vS 441 0 1 1, vS 1279 0 1 1, vI 0, vI 28, vT [], vI 0, .slice none 0 0, vS 1629 0 1 1, vI 57] 6 false] }
theorem p5_ok : tZ p5 := ⟨by kernel_rfl, by decide, lD 200, kZ 200, fun w0 => by kernel_rfl⟩
end Go.Proofs.YthgfcpgjabodoaaGreatDoor
