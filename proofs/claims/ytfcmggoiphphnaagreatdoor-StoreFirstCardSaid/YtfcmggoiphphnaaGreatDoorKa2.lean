/-
  awake.
-/
import Derived.Test.YtfcmggoiphphnaaGreatDoorKa
set_option linter.unusedVariables false
set_option linter.unusedSimpArgs false
set_option maxRecDepth 100000
namespace Go.Proofs.YtfcmggoiphphnaaGreatDoor
open Go Go.AM
theorem aw_p2(w:World):pieceS E (mA E tb 60) 60 18 [104,106,580,582,645,650,653,656,682,684,798,803,805,808,880,885,891,1332,1334,1337] (aRq w)=some (aRy w):=by kernel_rfl
end Go.Proofs.YtfcmggoiphphnaaGreatDoor
