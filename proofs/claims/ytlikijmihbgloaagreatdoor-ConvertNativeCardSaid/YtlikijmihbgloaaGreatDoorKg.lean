/-
  convert.Detect, awake.
-/
import Derived.Test.YtlikijmihbgloaaGreatDoorKf
import Derived.Test.YtlikijmihbgloaaGreatDoorAb15
set_option linter.unusedVariables false
set_option linter.unusedSimpArgs false
set_option maxRecDepth 100000
namespace Go.Proofs.YtlikijmihbgloaaGreatDoor
open Go Go.AM Tryz
theorem bEi(q:List UInt8):(Lit.int .i64 (oA q)).wf=true:=by
 unfold oA;split
 ·rfl
 ·split
  ·rfl
  ·split
   ·rfl
   ·split<;>rfl
theorem bEa(c:List CT):oA (enV c)=4:=by
 show oA (73::69::68::49::frV (kU c))=4;rfl
theorem cDet4:CtrOk prog TB 7 (⟨[.sc (.str)],[.sc (.int .i64)],fun _=>Pr True,fun a r=>rT 0 a fun Ta0=>rI 0 r fun r0=>Pr (∀c,Ta0.data.toList=enV c->r0=4),0,none⟩):=aQt (f:=fun q=>oA q.data.toList) (post:=fun q r=>∀c,q.data.toList=enV c->r=4) (fun q=>aBb q) (fun q=>bEi _) fun q c e=>by show oA q.data.toList=4;rw[e];exact bEa c
theorem cAw:CtrOk prog TB 5 (⟨[],[.sc (.bool)],fun _=>Pr True,fun _ r=>match r with|[.bool true]=>Pr True|_=>Pr False,0,none⟩):=aUn aXb
end Go.Proofs.YtlikijmihbgloaaGreatDoor
