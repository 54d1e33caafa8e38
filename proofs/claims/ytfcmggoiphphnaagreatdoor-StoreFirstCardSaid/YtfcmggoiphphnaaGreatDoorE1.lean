/-
  The frame of the laws: the witness in whose world the listed variables lie, what comes in.
-/
import Derived.Test.YtfcmggoiphphnaaGreatDoorT0
import Derived.Lib.LaidTab
import Derived.Test.YtfcmggoiphphnaaGreatDoorHd1
import Derived.Test.YtfcmggoiphphnaaGreatDoorLo
import Derived.Test.YtfcmggoiphphnaaGreatDoorAb13
import Derived.Test.YtfcmggoiphphnaaGreatDoorAb6
import Derived.Test.YtfcmggoiphphnaaGreatDoorCards
import Derived.WalkKit
import Derived.ProofKit
import Derived.OpenShut
import Derived.ChangeOld
import Derived.Below
import Derived.SizedLaws
import Derived.LaidMore
import Derived.Lay
import Derived.SevenTiedAt
import Derived.Stop.Joined
set_option linter.unusedVariables false
set_option linter.unusedSimpArgs false
set_option maxRecDepth 100000
namespace Go.Proofs.YtfcmggoiphphnaaGreatDoor
open Go Go.AM Go.ChangeShapes Go.WideShapes Go.ChangeAt Go.RowKit
theorem own:ownKnob Tryz.prog.godebug=none:=by kernel_rfl
def laid6:List (String×DataW Unit):=Rows.storeFirstRow.laid
theorem aNg(os:Os)(args:Array Value):((World.laidAll Tryz.prog os laid6).forCall (fun _ _=>0) ⟨#[],args,[]⟩).Shaped Tryz.checked.prog:=World.shaped_of_ZipB (by kernel_rfl) (by kernel_rfl)
theorem tW:(laid6.all fun x=>x.2.handleName?.isNone)=true:=by kernel_rfl
theorem aWc(os:Os)(args:Array Value):laidMetH Tryz.prog laid6 ((World.laidAll Tryz.prog os laid6).forCall (fun _ _=>0) ⟨#[],args,[]⟩).memory:=by
 rw[MakeChecks.laidMetH_plain _ _ _ tW];exact laidMet_laidAll _ (by kernel_rfl) (by kernel_rfl)
theorem bFr{v:Value}{n:Nat}(h:v.cells.toList.length=n)(hn:n≠1):∃cs,v=.agg ⟨cs⟩/\v.cells.toList=cs:=by
 cases v with
 |agg cs=>exact⟨cs.toList,rfl,rfl⟩
 |_=>exact absurd h (by simp[Value.cells];omega)
theorem x_top{g:FuncId}{args:List Value}{w:World}{r:Value}{N:Nat}(h:XCall Tryz.prog g (extL args) (Go.AM.start w) fun v H'=>v=r/\Kept N (Go.AM.start w) H')(hr:vK r=true):Calls Tryz.prog g ⟨args⟩ w fun e w'=>e=.returned r/\Below w.heap.size w w':=
 Flat.calls (h.calls.mono fun v H' hv=>hv.1) hr
theorem aEq(l:List Value):(extL l).length=l.length:=by
 induction l with
 |nil=>rfl
 |cons x l ih=>simp[extL,ih]
/-- a struct that came in -/
theorem aNo{T:Type}{enc:TypeId×Value->T}{W:World}{v:Value}{d:DataW T}{p:List MemPlace}{t:TypeId}{ks:List Kd}(hk:yM Tryz.prog 12 t=some ks)(h1:ks.length≠1)(h:DataW.Trod enc Tryz.prog W 0 (fun _=>true) true t v d p)(hw:∀w∈d.weights Tryz.prog t,w<=reachBytes):
 ∃xs c,ext v=.agg ⟨xs⟩/\CellsA (fun _=>False) (Go.AM.start W) ks xs c:=by
 obtain⟨fuel,h⟩:=h;obtain⟨c,hc⟩:=pS 12 _ _ _ _ _ hk h hw;have hl:=hc.len.1;rw[aEq] at hl;obtain⟨cs,rfl,e2⟩:=bFr hl h1;rw[e2] at hc;exact⟨extL cs,c,by simp only[ext],hc⟩
/-- a row that came in -/
theorem in_row{T:Type}{enc:TypeId×Value->T}{W:World}{v:Value}{d:DataW T}{p:List MemPlace}{t e:TypeId}{b base:Nat}{ks:List Kd}(hu:Tryz.prog.underlying t=some (.slice e))(hk:yM Tryz.prog 12 t=some [.row b ks])(hv:Value.okWide Tryz.prog W .any base t v)(h:DataW.Trod enc Tryz.prog W 0 (fun _=>true) true t v d p)(hw:∀w∈d.weights Tryz.prog t,w<=reachBytes):
 ∃l,CellA (fun _=>False) (Go.AM.start W) (.row b ks) (ext v) (.row l):=by
 obtain⟨fuel,h⟩:=h;obtain⟨c,hc⟩:=pS 12 _ _ _ _ _ hk h hw;obtain⟨a,len,cap,rfl⟩:=okWide_slice hu hv;cases c with
 |nil=>exact hc.elim
 |cons c cs=>
  obtain⟨l,rfl,_⟩:=hc.1.row;exact⟨l,hc.1⟩
theorem kdsU:yM Tryz.prog 12 30=some [.int .u16]:=by kernel_rfl
/-- a number that came in -/
theorem bFi{T:Type}{enc:TypeId×Value->T}{W:World}{n:Int}{d:DataW T}{p:List MemPlace}(h:DataW.Trod enc Tryz.prog W 0 (fun _=>true) true 30 (.int .u16 n) d p)(hw:∀w∈d.weights Tryz.prog 30,w<=reachBytes):(Lit.int .u16 n).wf=true:=by
 obtain⟨fuel,h⟩:=h;obtain⟨c,hc⟩:=pS 12 _ _ _ _ _ kdsU h hw;cases c with
 |nil=>exact hc.elim
 |cons c cs=>
  obtain⟨m,e,_,w⟩:=hc.1.int;simp only[ext] at e;cases e;exact w
theorem kds29:yM Tryz.prog 12 29=some kD:=by kernel_rfl
theorem aFk{T:Type}{P:Program}{t u:TypeId}{ts:List TypeId}{d e:DataW T}{ds:List (DataW T)}(h:(DataW.weightsEach P (t::u::ts) (d::e::ds)).all (·<=reachBytes)=true):(∀w∈d.weights P t,w<=reachBytes)/\∀w∈e.weights P u,w<=reachBytes:=by
 simp only[DataW.weightsEach,List.all_append,QB,List.all_eq_true,decide_eq_true_eq] at h;exact⟨h.1,h.2.1⟩
/-- no body of the program starts a goroutine -/
theorem aTe:Tryz.prog.funcs.any Func.goes=false:=by
 have h:=bAx;rw[List.filter_eq_nil_iff] at h;rw[<-Array.any_toList,List.any_eq_false];exact fun x hx=>h x hx
theorem aPu(f:FuncId):Tryz.prog.goes f=false:=by
 unfold Program.goes;rw[aTe,Bool.and_false,Bool.or_false,List.any_eq_false];intro g _;cases h:Tryz.prog.funcs[g]? with
 |none=>simp
 |some F=>
  have h1:=aTe;rw[Array.any_eq_false] at h1;obtain⟨hg,rfl⟩:=Array.getElem?_eq_some_iff.1 h;simpa using h1 g hg
theorem aFg{c:OpenClaim}(h:c.start=.entering):false=c.goesBy Tryz.prog:=by
 unfold OpenClaim.goesBy Program.goesAt Program.goesFrom;rw[h];cases Tryz.prog.funcNamed c.func with
 |none=>rfl
 |some f=>simp[aPu]
theorem aDh{P:Program}{w:World}{x:String×DataW Unit}{l:List (String×DataW Unit)}(h:laidMet P (x::l) w):laidMet P l w:=by
 obtain⟨ps,⟨g,t,cs,fuel,p,q,h1,h2,h3,h4,h5,rfl⟩,hn,hf⟩:=h;exact⟨q,h5,(List.nodup_append.1 hn).2.1,fun b off hb=>hf b off (List.mem_append_right _ hb)⟩
def sinZ:List Int:=[0,1608,3216,4821,6424,8022,9616,11204,12785,14359,15924,17479,19024,20557,22078,23586,25080,26558,28020,29466,30893,32303,33692,35062,36410,37736,39040,40320,41576,42806,44011,45190,46341,47464,48559,49624,50660,51665,52639,53581,54491,55368,56212,57022,57798,58538,59244,59914,60547,61145,61705,62228,62714,63162,63572,63944,64277,64571,64827,65043,65220,65358,65457,65516,65536]
def ascZ:List Int:=[0,0,0,0,0,0,0,0,0,1,1,1,1,1,0,0,0,0,0,0,0,0,0,0,0,0,0,0,0,0,0,0,1,0,0,0,0,0,0,0,0,0,0,0,0,0,0,0,0,0,0,0,0,0,0,0,0,0,0,0,0,0,0,0,0,0,0,0,0,0,0,0,0,0,0,0,0,0,0,0,0,0,0,0,0,0,0,0,0,0,0,0,0,0,0,0,0,0,0,0,0,0,0,0,0,0,0,0,0,0,0,0,0,0,0,0,0,0,0,0,0,0,0,0,0,0,0,0,0,0,0,0,0,0,0,0,0,0,0,0,0,0,0,0,0,0,0,0,0,0,0,0,0,0,0,0,0,0,0,0,0,0,0,0,0,0,0,0,0,0,0,0,0,0,0,0,0,0,0,0,0,0,0,0,0,0,0,0,0,0,0,0,0,0,0,0,0,0,0,0,0,0,0,0,0,0,0,0,0,0,0,0,0,0,0,0,0,0,0,0,0,0,0,0,0,0,0,0,0,0,0,0,0,0,0,0,0,0,0,0,0,0,0,0,0,0,0,0,0,0,0,0,0,0,0,0]
/-- the tables that the law reads lie in the world -/
theorem bCi{W:World}(h:laidMetH Tryz.prog laid6 W):zZ W TB:=by
 rw[MakeChecks.laidMetH_plain _ _ _ tW] at h;have e:laid6=("imageeditor/num.sines",Lib.tabData .i64 sinZ)::("strings.asciiSpace",Lib.tabData .u8 ascZ)::laid6.drop 2:=by kernel_rfl
 rw[e] at h;have h1:=Lib.tabIs_of_head (g:=7) (t:=596) (e:=3) (n:=65) (by kernel_rfl) (by kernel_rfl) (by kernel_rfl) (by kernel_rfl) (by kernel_rfl) (by kernel_rfl) h;have h2:=Lib.tabIs_of_head (g:=0) (t:=426) (e:=5) (n:=256) (by kernel_rfl) (by kernel_rfl) (by kernel_rfl) (by kernel_rfl) (by kernel_rfl) (by kernel_rfl) (aDh h);have r1:(List.range 65).all (fun j=>decide (IntKind.i64.min<=sinZ.getD j 0/\sinZ.getD j 0<=IntKind.i64.max))=true:=by kernel_rfl
 have r2:(List.range 256).all (fun j=>decide (ascZ.getD j 0=spc j))=true:=by kernel_rfl
 have c1:∀j,j<65->W.cell? ⟨7,j,none⟩=some (.int .i64 (sinZ.getD j 0)):=fun j hj=>Lib.TabIs.cell h1 (by kernel_rfl) j hj;have c2:∀j,j<256->W.cell? ⟨0,j,none⟩=some (.int .u8 (spc j)):=fun j hj=>by
  rw[Lib.TabIs.cell h2 (g:=0) (by kernel_rfl) j hj,of_decide_eq_true (List.all_eq_true.1 r2 j (List.mem_range.2 hj))]
 refine⟨trivial,fun g m k F e=>?_⟩;simp only[aVd,TB,aHc] at e;cases e1:Nat.beq 7 g with
 |true=>
  rw[e1,QT] at e;cases e;have:=QN e1;subst this;exact⟨fun j hj=>⟨_,c1 j hj,of_decide_eq_true (List.all_eq_true.1 r1 j (List.mem_range.2 hj))⟩,fun f hf=>by cases hf⟩
 |false=>
  rw[e1,QF] at e;cases e2:Nat.beq 0 g with
  |true=>
   rw[e2,QT] at e;cases e;have:=QN e2;subst this;refine⟨fun j hj=>⟨_,c2 j hj,?_⟩,fun f hf=>by cases hf;exact c2⟩;rcases aRt j with q|q<;>rw[q]<;>decide
  |false=>rw[e2,QF] at e;cases e
end Go.Proofs.YtfcmggoiphphnaaGreatDoor
