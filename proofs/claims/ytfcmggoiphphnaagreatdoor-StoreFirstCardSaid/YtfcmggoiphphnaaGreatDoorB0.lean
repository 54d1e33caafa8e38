/-
  The ground of the walks: the machine over this program, facts on its types and functions. Laid by program.
-/
import Derived.Test.YtfcmggoiphphnaaGreatDoorProg
import Derived.Test.YtfcmggoiphphnaaGreatDoorAb7
set_option linter.unusedVariables false
set_option linter.unusedSimpArgs false
set_option maxRecDepth 100000
namespace Go.Proofs.YtfcmggoiphphnaaGreatDoor
open Go Go.AM Tryz
theorem aXw{α:Type}{l:List α}{f c:Nat}{x:α}(hc:0<c)(h:l[f]?=some x):x∈(l.drop (f / c*c)).take c:=by
 have hm:f%c<c:=Nat.mod_lt _ hc;have e:f / c*c+f%c=f:=Nat.div_add_mod' f c;have:((l.drop (f / c*c)).take c)[f%c]?=some x:=by
  rw[List.getElem?_take,if_pos hm,List.getElem?_drop,e];exact h
 exact List.mem_of_getElem? this
def pJ(F:Func):Bool:=!(F.name== "runtime.NumGoroutine")
theorem aUw:((prog.funcs.toList.drop 0).take 150).all pJ=true:=by kernel_rfl
theorem aVu:((prog.funcs.toList.drop 150).take 150).all pJ=true:=by kernel_rfl
theorem aRm:((prog.funcs.toList.drop 300).take 150).all pJ=true:=by kernel_rfl
theorem aXj:((prog.funcs.toList.drop 450).take 150).all pJ=true:=by kernel_rfl
theorem aWx:((prog.funcs.toList.drop 600).take 150).all pJ=true:=by kernel_rfl
theorem aOn:prog.funcs.size=610:=by kernel_rfl
theorem names(f:Nat)(F:Func)(h:prog.funcs[f]?=some F):(F.name== "runtime.NumGoroutine")=false:=by
 have hl:prog.funcs.toList[f]?=some F:=by rw[Array.getElem?_toList];exact h
 have hf:f<610:=by rw[<-aOn];exact(Array.getElem?_eq_some_iff.1 h).1
 have hm:=aXw (c:=150) (by decide) hl;have key:pJ F=true:=by
  have h8:f / 150<5:=by omega
  generalize f / 150=q at hm h8
  match q,h8,hm with
  |0,_,hm=>exact List.all_eq_true.1 aUw F hm
  |1,_,hm=>exact List.all_eq_true.1 aVu F hm
  |2,_,hm=>exact List.all_eq_true.1 aRm F hm
  |3,_,hm=>exact List.all_eq_true.1 aXj F hm
  |4,_,hm=>exact List.all_eq_true.1 aWx F hm
  |k+5,h8,_=>omega
 unfold pJ at key;simpa using key
def eqTs:List Nat:=[38,57,62,75,106,177,179,181,252,294,494]
theorem bEs:(eqTs.all fun t=>!(prog.stoodInHeld t)&&!(prog.eqGuardType prog.depth t))=true:=by kernel_rfl
def eqT(t:Nat):Bool:=eqTs.contains t
theorem eqT_ok(t:Nat)(h:eqT t=true):prog.stoodInHeld t=false/\prog.eqGuardType prog.depth t=false:=by
 have:=bEs;rw[List.all_eq_true] at this;have:=this t (by simpa [eqT] using h);simpa using this
noncomputable def E:Env prog:=Env.own prog names eqT eqT_ok
theorem aB:prog.follows .mixedOrders=true:=by kernel_rfl
end Go.Proofs.YtfcmggoiphphnaaGreatDoor
