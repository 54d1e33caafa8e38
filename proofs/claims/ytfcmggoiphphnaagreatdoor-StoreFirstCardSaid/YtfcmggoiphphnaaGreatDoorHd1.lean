/-
  The functions of the program without a body, by tables. Laid by program.
-/
import Derived.Test.YtfcmggoiphphnaaGreatDoorProg
import Derived.Test.YtfcmggoiphphnaaGreatDoorAb7
import GoSem.ClaimGoes
set_option linter.unusedVariables false
set_option linter.unusedSimpArgs false
set_option maxRecDepth 1000000
noncomputable section
namespace Go.Proofs.YtfcmggoiphphnaaGreatDoor
open Go Go.AM Tryz
theorem xD:prog.funcs.size=610:=by kernel_rfl
noncomputable def aRs:List Func:=[Tryz.f0,Tryz.f1]
theorem br_k0:((prog.funcs.toList.drop 0).take 100).filter rZ=aRs:=by kernel_rfl
noncomputable def aTb:List Func:=[]
theorem br_k1:((prog.funcs.toList.drop 100).take 100).filter rZ=aTb:=by kernel_rfl
noncomputable def aWd:List Func:=[f212,f260]
theorem br_k2:((prog.funcs.toList.drop 200).take 100).filter rZ=aWd:=by kernel_rfl
noncomputable def aQe:List Func:=[f380]
theorem br_k3:((prog.funcs.toList.drop 300).take 100).filter rZ=aQe:=by kernel_rfl
noncomputable def aTq:List Func:=[f415,f463]
theorem br_k4:((prog.funcs.toList.drop 400).take 100).filter rZ=aTq:=by kernel_rfl
noncomputable def aXg:List Func:=[f500,f580,f581,f582,f583,f584,f585,f586,f587,f588,f589,f590,f591,f592,f593,f594,f595,f596,f597,f598,f599]
theorem br_k5:((prog.funcs.toList.drop 500).take 100).filter rZ=aXg:=by kernel_rfl
noncomputable def aRi:List Func:=[f600,f601,f602,f603,f604,f605,f606,f607,f608]
theorem br_k6:((prog.funcs.toList.drop 600).take 100).filter rZ=aRi:=by kernel_rfl
noncomputable def brL:List Func:=[aRs,aTb,aWd,aQe,aTq,aXg,aRi].flatten
theorem aXx:[aRs,aTb,aWd,aQe,aTq,aXg,aRi].flatten=brL:=rfl
theorem brAll:prog.funcs.toList.filter rZ=brL:=
 Eq.trans (iN (fun l=>l.filter rZ) rfl (fun a b=>List.filter_append ..) prog.funcs.toList 100 [aRs,aTb,aWd,aQe,aTq,aXg,aRi] 0 (fun i L h=>match i,h with
  |0,h=>(Option.some.inj h:aRs=L)▸br_k0
  |1,h=>(Option.some.inj h:aTb=L)▸br_k1
  |2,h=>(Option.some.inj h:aWd=L)▸br_k2
  |3,h=>(Option.some.inj h:aQe=L)▸br_k3
  |4,h=>(Option.some.inj h:aTq=L)▸br_k4
  |5,h=>(Option.some.inj h:aXg=L)▸br_k5
  |6,h=>(Option.some.inj h:aRi=L)▸br_k6
  |k+7,h=>by simp at h) (by rw[Array.length_toList,xD];exact QL rfl)) aXx
noncomputable def smallP:Program:={prog with funcs:= #[Tryz.f0,Tryz.f1,f212,f260,f380,f415,f463,f500,f580,f581,f582,f583,f584,f585,f586,f587,f588,f589,f590,f591,f592,f593,f594,f595,f596,f597,f598,f599,f600,f601,f602,f603,f604,f605,f606,f607,f608]}
theorem qU:prog.funcs.toList.filter rZ=smallP.funcs.toList:=brAll.trans (by kernel_rfl)
theorem aLf:prog.doorBytes=smallP.doorBytes:=aHq qU
noncomputable def aTd:List Func:=[]
theorem vn_k0:((prog.funcs.toList.drop 0).take 100).filter (fun F:Func=>F.name== "gosem.cut.vars")=aTd:=by kernel_rfl
noncomputable def aUp:List Func:=[]
theorem vn_k1:((prog.funcs.toList.drop 100).take 100).filter (fun F:Func=>F.name== "gosem.cut.vars")=aUp:=by kernel_rfl
noncomputable def aXr:List Func:=[]
theorem vn_k2:((prog.funcs.toList.drop 200).take 100).filter (fun F:Func=>F.name== "gosem.cut.vars")=aXr:=by kernel_rfl
noncomputable def aWl:List Func:=[]
theorem vn_k3:((prog.funcs.toList.drop 300).take 100).filter (fun F:Func=>F.name== "gosem.cut.vars")=aWl:=by kernel_rfl
noncomputable def aXo:List Func:=[]
theorem vn_k4:((prog.funcs.toList.drop 400).take 100).filter (fun F:Func=>F.name== "gosem.cut.vars")=aXo:=by kernel_rfl
noncomputable def aUg:List Func:=[]
theorem vn_k5:((prog.funcs.toList.drop 500).take 100).filter (fun F:Func=>F.name== "gosem.cut.vars")=aUg:=by kernel_rfl
noncomputable def aTn:List Func:=[f609]
theorem vn_k6:((prog.funcs.toList.drop 600).take 100).filter (fun F:Func=>F.name== "gosem.cut.vars")=aTn:=by kernel_rfl
noncomputable def vnL:List Func:=[aTd,aUp,aXr,aWl,aXo,aUg,aTn].flatten
theorem aZh:[aTd,aUp,aXr,aWl,aXo,aUg,aTn].flatten=vnL:=rfl
theorem vnAll:prog.funcs.toList.filter (fun F:Func=>F.name== "gosem.cut.vars")=vnL:=
 Eq.trans (iN (fun l=>l.filter (fun F:Func=>F.name== "gosem.cut.vars")) rfl (fun a b=>List.filter_append ..) prog.funcs.toList 100 [aTd,aUp,aXr,aWl,aXo,aUg,aTn] 0 (fun i L h=>match i,h with
  |0,h=>(Option.some.inj h:aTd=L)▸vn_k0
  |1,h=>(Option.some.inj h:aUp=L)▸vn_k1
  |2,h=>(Option.some.inj h:aXr=L)▸vn_k2
  |3,h=>(Option.some.inj h:aWl=L)▸vn_k3
  |4,h=>(Option.some.inj h:aXo=L)▸vn_k4
  |5,h=>(Option.some.inj h:aUg=L)▸vn_k5
  |6,h=>(Option.some.inj h:aTn=L)▸vn_k6
  |k+7,h=>by simp at h) (by rw[Array.length_toList,xD];exact QL rfl)) aZh
theorem wN:prog.funcNamed "gosem.cut.vars"=some 609:=kB func609 (by kernel_rfl) (vnAll.trans (by rfl))
noncomputable def aSm:List Func:=[Tryz.f3]
theorem ln_k0:((prog.funcs.toList.drop 0).take 100).filter (fun F:Func=>F.name== "imageeditor/imageeditorlaw45.StoreFirst")=aSm:=by kernel_rfl
noncomputable def aXl:List Func:=[]
theorem ln_k1:((prog.funcs.toList.drop 100).take 100).filter (fun F:Func=>F.name== "imageeditor/imageeditorlaw45.StoreFirst")=aXl:=by kernel_rfl
noncomputable def aUc:List Func:=[]
theorem ln_k2:((prog.funcs.toList.drop 200).take 100).filter (fun F:Func=>F.name== "imageeditor/imageeditorlaw45.StoreFirst")=aUc:=by kernel_rfl
noncomputable def aRj:List Func:=[]
theorem ln_k3:((prog.funcs.toList.drop 300).take 100).filter (fun F:Func=>F.name== "imageeditor/imageeditorlaw45.StoreFirst")=aRj:=by kernel_rfl
noncomputable def aXi:List Func:=[]
theorem ln_k4:((prog.funcs.toList.drop 400).take 100).filter (fun F:Func=>F.name== "imageeditor/imageeditorlaw45.StoreFirst")=aXi:=by kernel_rfl
noncomputable def aSs:List Func:=[]
theorem ln_k5:((prog.funcs.toList.drop 500).take 100).filter (fun F:Func=>F.name== "imageeditor/imageeditorlaw45.StoreFirst")=aSs:=by kernel_rfl
noncomputable def aSf:List Func:=[]
theorem ln_k6:((prog.funcs.toList.drop 600).take 100).filter (fun F:Func=>F.name== "imageeditor/imageeditorlaw45.StoreFirst")=aSf:=by kernel_rfl
noncomputable def lnL:List Func:=[aSm,aXl,aUc,aRj,aXi,aSs,aSf].flatten
theorem aYi:[aSm,aXl,aUc,aRj,aXi,aSs,aSf].flatten=lnL:=rfl
theorem lnAll:prog.funcs.toList.filter (fun F:Func=>F.name== "imageeditor/imageeditorlaw45.StoreFirst")=lnL:=
 Eq.trans (iN (fun l=>l.filter (fun F:Func=>F.name== "imageeditor/imageeditorlaw45.StoreFirst")) rfl (fun a b=>List.filter_append ..) prog.funcs.toList 100 [aSm,aXl,aUc,aRj,aXi,aSs,aSf] 0 (fun i L h=>match i,h with
  |0,h=>(Option.some.inj h:aSm=L)▸ln_k0
  |1,h=>(Option.some.inj h:aXl=L)▸ln_k1
  |2,h=>(Option.some.inj h:aUc=L)▸ln_k2
  |3,h=>(Option.some.inj h:aRj=L)▸ln_k3
  |4,h=>(Option.some.inj h:aXi=L)▸ln_k4
  |5,h=>(Option.some.inj h:aSs=L)▸ln_k5
  |6,h=>(Option.some.inj h:aSf=L)▸ln_k6
  |k+7,h=>by simp at h) (by rw[Array.length_toList,xD];exact QL rfl)) aYi
theorem aPl:prog.funcNamed "imageeditor/imageeditorlaw45.StoreFirst"=some 3:=kB func3 (by kernel_rfl) (lnAll.trans (by rfl))
noncomputable def aQi:List Func:=[]
theorem go_k0:((prog.funcs.toList.drop 0).take 100).filter Func.goes=aQi:=by kernel_rfl
noncomputable def aWi:List Func:=[]
theorem go_k1:((prog.funcs.toList.drop 100).take 100).filter Func.goes=aWi:=by kernel_rfl
noncomputable def aSx:List Func:=[]
theorem go_k2:((prog.funcs.toList.drop 200).take 100).filter Func.goes=aSx:=by kernel_rfl
noncomputable def aSw:List Func:=[]
theorem go_k3:((prog.funcs.toList.drop 300).take 100).filter Func.goes=aSw:=by kernel_rfl
noncomputable def aQf:List Func:=[]
theorem go_k4:((prog.funcs.toList.drop 400).take 100).filter Func.goes=aQf:=by kernel_rfl
noncomputable def aTg:List Func:=[]
theorem go_k5:((prog.funcs.toList.drop 500).take 100).filter Func.goes=aTg:=by kernel_rfl
noncomputable def aWp:List Func:=[]
theorem go_k6:((prog.funcs.toList.drop 600).take 100).filter Func.goes=aWp:=by kernel_rfl
noncomputable def goL:List Func:=[aQi,aWi,aSx,aSw,aQf,aTg,aWp].flatten
theorem aZi:[aQi,aWi,aSx,aSw,aQf,aTg,aWp].flatten=goL:=rfl
theorem goAll:prog.funcs.toList.filter Func.goes=goL:=
 Eq.trans (iN (fun l=>l.filter Func.goes) rfl (fun a b=>List.filter_append ..) prog.funcs.toList 100 [aQi,aWi,aSx,aSw,aQf,aTg,aWp] 0 (fun i L h=>match i,h with
  |0,h=>(Option.some.inj h:aQi=L)▸go_k0
  |1,h=>(Option.some.inj h:aWi=L)▸go_k1
  |2,h=>(Option.some.inj h:aSx=L)▸go_k2
  |3,h=>(Option.some.inj h:aSw=L)▸go_k3
  |4,h=>(Option.some.inj h:aQf=L)▸go_k4
  |5,h=>(Option.some.inj h:aTg=L)▸go_k5
  |6,h=>(Option.some.inj h:aWp=L)▸go_k6
  |k+7,h=>by simp at h) (by rw[Array.length_toList,xD];exact QL rfl)) aZi
theorem bAx:prog.funcs.toList.filter Func.goes=[]:=goAll.trans rfl
end Go.Proofs.YtfcmggoiphphnaaGreatDoor
