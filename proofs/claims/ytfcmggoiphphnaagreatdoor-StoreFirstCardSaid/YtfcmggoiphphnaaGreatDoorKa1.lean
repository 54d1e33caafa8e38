/-
  awake.
-/
import Derived.Test.YtfcmggoiphphnaaGreatDoorKa
set_option linter.unusedVariables false
set_option linter.unusedSimpArgs false
set_option maxRecDepth 100000
namespace Go.Proofs.YtfcmggoiphphnaaGreatDoor
open Go Go.AM
theorem aw_p1(w:World):pieceS E (mA E tb 60) 60 21 [23,104,106,132,217,219,222,580,582] (bCk w)=some (aRq w):=by kernel_rfl
end Go.Proofs.YtfcmggoiphphnaaGreatDoor
