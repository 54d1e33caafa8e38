/-
  The types of the program are laid out: in ranges.
-/
import Derived.Test.YtfcmggoiphphnaaGreatDoorProg
import Derived.KernelRfl
import GoSem.ClaimDataLaid
import GoSem.ClaimJoined
set_option maxRecDepth 1000000
namespace Go.Proofs.YtfcmggoiphphnaaGreatDoor
open Go
def jM(P:Program)(t:Nat):Bool:=match P.underlying t with|some (.map _ e)=>decide (e<P.types.size)|_=>true
theorem lo0:((List.range' 0 100).all (rowFine Tryz.prog))=true:=by kernel_rfl
theorem lo1:((List.range' 100 100).all (rowFine Tryz.prog))=true:=by kernel_rfl
theorem lo2:((List.range' 200 100).all (rowFine Tryz.prog))=true:=by kernel_rfl
theorem lo3:((List.range' 300 100).all (rowFine Tryz.prog))=true:=by kernel_rfl
theorem lo4:((List.range' 400 100).all (rowFine Tryz.prog))=true:=by kernel_rfl
theorem lo5:((List.range' 500 100).all (rowFine Tryz.prog))=true:=by kernel_rfl
theorem lo6:((List.range' 600 35).all (rowFine Tryz.prog))=true:=by kernel_rfl
theorem mr0:((List.range' 0 100).all (jM Tryz.prog))=true:=by kernel_rfl
theorem mr1:((List.range' 100 100).all (jM Tryz.prog))=true:=by kernel_rfl
theorem mr2:((List.range' 200 100).all (jM Tryz.prog))=true:=by kernel_rfl
theorem mr3:((List.range' 300 100).all (jM Tryz.prog))=true:=by kernel_rfl
theorem mr4:((List.range' 400 100).all (jM Tryz.prog))=true:=by kernel_rfl
theorem mr5:((List.range' 500 100).all (jM Tryz.prog))=true:=by kernel_rfl
theorem mr6:((List.range' 600 35).all (jM Tryz.prog))=true:=by kernel_rfl
theorem aAu:Tryz.prog.types.size=635:=by kernel_rfl
theorem aEz{f:Nat->Bool}{n c:Nat}(hc:0<c)(h:∀q,q*c<n->((List.range' (q*c) (min c (n - q*c))).all f)=true):(List.range n).all f=true:=by
 rw[List.all_eq_true];intro t ht;have ht:=List.mem_range.1 ht;have e:t / c*c+t%c=t:=Nat.div_add_mod' t c;have hm:=Nat.mod_lt t hc;exact List.all_eq_true.1 (h (t / c) (by omega)) t (List.mem_range'_1.2 ⟨by omega,by omega⟩)
theorem aXq:(List.range 635).all (rowFine Tryz.prog)=true:=aEz (c:=100) (by decide) fun q hq=>by
 have hq:q<7:=by omega
 match q,hq with
 |0,_=>exact lo0
 |1,_=>exact lo1
 |2,_=>exact lo2
 |3,_=>exact lo3
 |4,_=>exact lo4
 |5,_=>exact lo5
 |6,_=>exact lo6
 |q+7,h=>omega
theorem aPy:(List.range 635).all (jM Tryz.prog)=true:=aEz (c:=100) (by decide) fun q hq=>by
 have hq:q<7:=by omega
 match q,hq with
 |0,_=>exact mr0
 |1,_=>exact mr1
 |2,_=>exact mr2
 |3,_=>exact mr3
 |4,_=>exact mr4
 |5,_=>exact mr5
 |6,_=>exact mr6
 |q+7,h=>omega
theorem aXs:Tryz.prog.globals.all (fun g=>decide (g.type<635))=true:=by kernel_rfl
def tR(f:Func):Bool:=f.params.all fun t=>decide (t<635)
theorem pf0:((Tryz.prog.funcs.toList.drop 0).take 100).all tR=true:=by kernel_rfl
theorem pf1:((Tryz.prog.funcs.toList.drop 100).take 100).all tR=true:=by kernel_rfl
theorem pf2:((Tryz.prog.funcs.toList.drop 200).take 100).all tR=true:=by kernel_rfl
theorem pf3:((Tryz.prog.funcs.toList.drop 300).take 100).all tR=true:=by kernel_rfl
theorem pf4:((Tryz.prog.funcs.toList.drop 400).take 100).all tR=true:=by kernel_rfl
theorem pf5:((Tryz.prog.funcs.toList.drop 500).take 100).all tR=true:=by kernel_rfl
theorem pf6:((Tryz.prog.funcs.toList.drop 600).take 100).all tR=true:=by kernel_rfl
theorem bAh:Tryz.prog.funcs.size=610:=by kernel_rfl
theorem aQb{α:Type}{l:List α}{f c:Nat}{x:α}(hc:0<c)(h:l[f]?=some x):x∈(l.drop (f / c*c)).take c:=by
 have hm:f%c<c:=Nat.mod_lt _ hc;have e:f / c*c+f%c=f:=Nat.div_add_mod' f c;have:((l.drop (f / c*c)).take c)[f%c]?=some x:=by
  rw[List.getElem?_take,if_pos hm,List.getElem?_drop,e];exact h
 exact List.mem_of_getElem? this
theorem aYg:Tryz.prog.funcs.all tR=true:=by
 rw[<-Array.all_toList,List.all_eq_true];intro x hx;obtain⟨f,hf⟩:=List.getElem?_of_mem hx;have qm:f<610:=by
  have h1:f<Tryz.prog.funcs.toList.length:=(List.getElem?_eq_some_iff.1 hf).1;rw[Array.length_toList,bAh] at h1;exact h1
 have hp:=aQb (c:=100) (by decide) hf;have hq:f / 100<7:=by omega
 generalize f / 100=q at hp hq
 match q,hq,hp with
 |0,_,hp=>exact List.all_eq_true.1 pf0 x hp
 |1,_,hp=>exact List.all_eq_true.1 pf1 x hp
 |2,_,hp=>exact List.all_eq_true.1 pf2 x hp
 |3,_,hp=>exact List.all_eq_true.1 pf3 x hp
 |4,_,hp=>exact List.all_eq_true.1 pf4 x hp
 |5,_,hp=>exact List.all_eq_true.1 pf5 x hp
 |6,_,hp=>exact List.all_eq_true.1 pf6 x hp
 |q+7,h,_=>omega
theorem laidOut:laidOutB Tryz.prog=true:=by
 rw[laidOutB,aAu,aXq,aXs,show Tryz.prog.funcs.all (fun f=>f.params.all fun t=>decide (t<635))=true from aYg];rfl
theorem bBp:mapsRowed Tryz.prog=true:=by
 rw[mapsRowed,aAu];exact aPy
end Go.Proofs.YtfcmggoiphphnaaGreatDoor
