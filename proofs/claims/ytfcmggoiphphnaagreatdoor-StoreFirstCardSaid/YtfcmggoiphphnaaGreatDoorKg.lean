/-
  awake.
-/
import Derived.Test.YtfcmggoiphphnaaGreatDoorKa1
import Derived.Test.YtfcmggoiphphnaaGreatDoorKa2
import Derived.Test.YtfcmggoiphphnaaGreatDoorAb14
set_option linter.unusedVariables false
set_option linter.unusedSimpArgs false
set_option maxRecDepth 100000
namespace Go.Proofs.YtfcmggoiphphnaaGreatDoor
open Go Go.AM Tryz
theorem bCh(w:World):lastS E (mA E tb 60) 60 10 (fnOf E 5).results (aRy w)=some (.bool true):=by kernel_rfl
theorem bEw(w:World):(aRy w).Ok prog (endK E (fnOf E 5).results (.bool true)):=lastS_ok E aCt aB (bCh w)
theorem bFe(w:World):(aRq w).Ok prog (endK E (fnOf E 5).results (.bool true)):=pieceS_ok E aCt aB (aw_p2 w) (bEw w)
theorem bFd(w:World):(bCk w).Ok prog (endK E (fnOf E 5).results (.bool true)):=pieceS_ok E aCt aB (aw_p1 w) (bFe w)
theorem bCj(w:World):Flat prog 5 [] w (.bool true):=begin_call has5 (bFd w)
theorem aXk(S:AH):XCall prog 5 [] S fun v H'=>v=.bool true/\Kept S.nx S H':=
 ⟨.bool true,S,⟨rfl,Kept.refl _ _⟩,rfl,ACalls.flat rfl fun π φ args' w hv hR=>by
  cases args' with
  |nil=>exact bCj w
  |cons _ _=>exact absurd hv.1 (by simp)⟩
theorem cAw:CtrOk prog TB 5 (⟨[],[.sc (.bool)],fun _=>Pr True,fun _ r=>match r with|[.bool true]=>Pr True|_=>Pr False,0,none⟩):=aXu aXk
end Go.Proofs.YtfcmggoiphphnaaGreatDoor
