/-
  The ground of the walks: the machine over this program, facts on its types and functions. Laid by program.
-/
import Derived.Test.YtlikijmihbgloaaGreatDoorProg
import Derived.Test.YtlikijmihbgloaaGreatDoorAb8
set_option linter.unusedVariables false
set_option linter.unusedSimpArgs false
set_option maxRecDepth 100000
namespace Go.Proofs.YtlikijmihbgloaaGreatDoor
open Go Go.AM Tryz
theorem aSo{α:Type}{l:List α}{f c:Nat}{x:α}(hc:0<c)(h:l[f]?=some x):x∈(l.drop (f / c*c)).take c:=by
 have hm:f%c<c:=Nat.mod_lt _ hc;have e:f / c*c+f%c=f:=Nat.div_add_mod' f c;have:((l.drop (f / c*c)).take c)[f%c]?=some x:=by
  rw[List.getElem?_take,if_pos hm,List.getElem?_drop,e];exact h
 exact List.mem_of_getElem? this
def pY(F:Func):Bool:=!(F.name== "runtime.NumGoroutine")
theorem aRp:((prog.funcs.toList.drop 0).take 150).all pY=true:=by kernel_rfl
theorem aSe:((prog.funcs.toList.drop 150).take 150).all pY=true:=by kernel_rfl
theorem aVt:((prog.funcs.toList.drop 300).take 150).all pY=true:=by kernel_rfl
theorem aPt:((prog.funcs.toList.drop 450).take 150).all pY=true:=by kernel_rfl
theorem aWk:((prog.funcs.toList.drop 600).take 150).all pY=true:=by kernel_rfl
theorem aNb:prog.funcs.size=627:=by kernel_rfl
theorem names(f:Nat)(F:Func)(h:prog.funcs[f]?=some F):(F.name== "runtime.NumGoroutine")=false:=by
 have hl:prog.funcs.toList[f]?=some F:=by rw[Array.getElem?_toList];exact h
 have hf:f<627:=by rw[<-aNb];exact(Array.getElem?_eq_some_iff.1 h).1
 have hm:=aSo (c:=150) (by decide) hl;have key:pY F=true:=by
  have h8:f / 150<5:=by omega
  generalize f / 150=q at hm h8
  match q,h8,hm with
  |0,_,hm=>exact List.all_eq_true.1 aRp F hm
  |1,_,hm=>exact List.all_eq_true.1 aSe F hm
  |2,_,hm=>exact List.all_eq_true.1 aVt F hm
  |3,_,hm=>exact List.all_eq_true.1 aPt F hm
  |4,_,hm=>exact List.all_eq_true.1 aWk F hm
  |k+5,h8,_=>omega
 unfold pY at key;simpa using key
def eqTs:List Nat:=[49,54,78,88,121,123,124,126,241,330]
theorem bDw:(eqTs.all fun t=>!(prog.stoodInHeld t)&&!(prog.eqGuardType prog.depth t))=true:=by kernel_rfl
def eqT(t:Nat):Bool:=eqTs.contains t
theorem eqT_ok(t:Nat)(h:eqT t=true):prog.stoodInHeld t=false/\prog.eqGuardType prog.depth t=false:=by
 have:=bDw;rw[List.all_eq_true] at this;have:=this t (by simpa [eqT] using h);simpa using this
noncomputable def E:Env prog:=Env.own prog names eqT eqT_ok
theorem mixed:prog.follows .mixedOrders=true:=by kernel_rfl
end Go.Proofs.YtlikijmihbgloaaGreatDoor
