/-
  awake.
-/
import Derived.Test.YtlikijmihbgloaaGreatDoorKe
set_option linter.unusedVariables false
set_option linter.unusedSimpArgs false
set_option maxRecDepth 100000
namespace Go.Proofs.YtlikijmihbgloaaGreatDoor
open Go Go.AM Tryz
theorem aOj(w:World):wM (qT E tb 60 5 [] (Go.AM.start w))=true:=by kernel_rfl
theorem aXb(S:AH):XCall prog 5 [] S fun v H'=>v=.bool true/\Kept S.nx S H':=
 ⟨.bool true,S,⟨rfl,Kept.refl _ _⟩,rfl,ACalls.flat rfl fun π φ args' w hv hR=>by
  cases args' with
  |nil=>exact Flat.closedT E tb_ok mixed rfl 60 (fun w=>aEt (aOj w)) w
  |cons _ _=>exact absurd hv.1 (by simp)⟩
end Go.Proofs.YtlikijmihbgloaaGreatDoor
