/-
  The law, in one world.
-/
import Derived.Test.YtlikijmihbgloaaGreatDoorWz
import Derived.Test.YtlikijmihbgloaaGreatDoorAb15
set_option linter.unusedVariables false
set_option linter.unusedSimpArgs false
set_option maxRecDepth 100000
noncomputable section
namespace Go.Proofs.YtlikijmihbgloaaGreatDoor
open Go Go.AM Tryz
def TBw(w0:World):TBs:=⟨TB.l,fun w=>w=w0/\TB.ok w⟩
def chi(w0:World):List CT->Int:=Classical.choose (CtrOk.det (ks:=kD) (k:=.i64) (Q:=fun c r=>r=0->DOk c) rfl (c9 aUh) w0)
def kW9(w0:World):Ctr:=⟨[.ag [i6,i6,i6,.row 440 [i6,i6,i6,.str,.bool,.bool,.bool,i6,i6,i6,i6,.row 8 [i6],i6,i6,i6,i6,i6,i6,i6,i6,i6,.row 32 [i6,i6,i6,i6],i6,i6,i6,i6,i6,.row 8 [i6],i6,.row 40 [i6,i6,i6,i6,i6],.row 56 [i6,i6,i6,i6,i6,i6,i6],i6,i6,i6,i6,.str,i6,i6,i6,i6,i6,i6,.row 16 [i6,i6]],i6,i6,i6,.row 8 [i6],.row 32 [.str,.str],.row 80 [i6,.str,i6,i6,i6,i6,.row 32 [i6,i6,i6,i6]]]],[.sc i6],fun _=>Pr True,fun a r=>match a,r with|[.agg cs],[.int _ r]=>Pr (r=chi w0 (cs.map cSV)/\(r=0->DOk (cs.map cSV)))|_,_=>Pr False,0,none⟩
theorem cW9(w0:World):CtrOk prog (TBw w0) 9 (kW9 w0):=Classical.choose_spec (CtrOk.det (ks:=kD) (k:=.i64) (Q:=fun c r=>r=0->DOk c) rfl (c9 aUh) w0)
def Cw0(w0:World):CTb:=(9,kW9 w0)::C14
theorem bEk(w0:World):AllC E (TBw w0) (Cw0 w0):=.cons (cW9 w0) h9 (ok14.tb fun _ h=>h.2)
def k10(w0:World):Ctr:=⟨[.ag [i6,i6,i6,.row 440 [i6,i6,i6,.str,.bool,.bool,.bool,i6,i6,i6,i6,.row 8 [i6],i6,i6,i6,i6,i6,i6,i6,i6,i6,.row 32 [i6,i6,i6,i6],i6,i6,i6,i6,i6,.row 8 [i6],i6,.row 40 [i6,i6,i6,i6,i6],.row 56 [i6,i6,i6,i6,i6,i6,i6],i6,i6,i6,i6,.str,i6,i6,i6,i6,i6,i6,.row 16 [i6,i6]],i6,i6,i6,.row 8 [i6],.row 32 [.str,.str],.row 80 [i6,.str,i6,i6,i6,i6,.row 32 [i6,i6,i6,i6]]]],[.sc (.str),.sc i6],fun _=>Pr True,fun a r=>match a,r with|[.agg cs],[.str s,.int _ e]=>Pr ((e=0->(DOk (cs.map cSV)/\chi w0 (cs.map cSV)=0)/\s.data.toList=enV (cs.map cSV)/\((s.data.toList.length:Nat):Int)<=1048576)/\(¬e=0->s=⟨#[]⟩))|_,_=>Pr False,0,none⟩
set_option maxHeartbeats 1000000 in
theorem c10(w0:World):CtrOk prog (TBw w0) 10 (k10 w0):=by
 refine aC (AN:=[]) (DR:=dr0) mixed tOk (bEk w0) (aA func10 rfl rfl rfl) ?_
 repeat' ((conv=>whnf);first|exact True.intro|(refine Sp.mk ?_ ?_<;>intro h)|(refine Ob.mk ?_ ?_;(·first|((conv=>whnf);exact Pr.mk ((show(_:Int)=0->DOk _ by assumption) ‹_›))|omega|((conv=>whnf);refine Pr.mk ?_;first|exact True.intro|omega|(repeat' (first|refine And.intro ?_ ?_|omega|(intro e;assumption)|(intro e;exact⟨⟨(show(_:Int)=0->DOk _ by assumption) ‹_›,(show _=chi _ _ by assumption).symm.trans ‹_›⟩,en_of ‹_› ‹_› ((show(_:Int)=0->_=frV _/\_ by assumption) ‹_›).1 ‹_›,by omega⟩))))))|(refine Wr.ex ?_ ?_ ?_;(·omega);(·omega))|(refine Kb.mk ?_ ?_;(·kernel_rfl))|(intro h;first|(replace h:=HyX.h h;(skip);(try simp only[bZ,rngI,and_true,true_and,Int.reduceToNat,Int.reducePow,Int.reduceAdd] at h);(try (have q:=And.left h;clear q;obtain⟨_,_⟩:=h)))|(replace h:=Pr.h (HyP.h h);(first|(obtain⟨_,_,_,_,_,_⟩:=h)|(obtain⟨_,_,_⟩:=h)|(obtain⟨_,_⟩:=h)))|skip))
theorem h10:∃fn,E.fn 10=some fn:=⟨_,aA func10 rfl rfl rfl⟩
def k18(w0:World):Ctr:=⟨[.sc (.str)],[.ag [i6,i6,i6,.row 440 [i6,i6,i6,.str,.bool,.bool,.bool,i6,i6,i6,i6,.row 8 [i6],i6,i6,i6,i6,i6,i6,i6,i6,i6,.row 32 [i6,i6,i6,i6],i6,i6,i6,i6,i6,.row 8 [i6],i6,.row 40 [i6,i6,i6,i6,i6],.row 56 [i6,i6,i6,i6,i6,i6,i6],i6,i6,i6,i6,.str,i6,i6,i6,i6,i6,i6,.row 16 [i6,i6]],i6,i6,i6,.row 8 [i6],.row 32 [.str,.str],.row 80 [i6,.str,i6,i6,i6,i6,.row 32 [i6,i6,i6,i6]]],.sc i6],fun a=>rS 0 a fun sa0=>Pr (sa0<=1099511627776),fun a r=>match a,r with|[.str s],[.agg cs,.int _ e]=>Pr (DcP (chi w0) s.data.toList (cs.map cSV) e)|_,_=>Pr False,0,none⟩
set_option maxHeartbeats 1000000 in
theorem c18(w0:World):CtrOk prog (TBw w0) 18 (k18 w0):=by
 refine aC (AN:=[]) (DR:=dr0) mixed tOk (bEk w0) (aA func18 rfl rfl rfl) ?_
 repeat' ((conv=>whnf);first|exact True.intro|(first|(refine Sp.yes ?_ ?_;(·exact rfl))|(refine Sp.no ?_ ?_;(·decide)))|(refine Sp.mk ?_ ?_<;>intro h)|(refine Ob.mk ?_ ?_;(·first|omega|((conv=>whnf);refine Pr.mk ?_;first|exact True.intro|omega|(repeat' (first|refine And.intro ?_ ?_|omega|(exact rfl)|(exact DcP.big ‹_›)|(exact DcP.nop ‹_› ‹_›)|(exact DcP.op ‹_› ‹_› ‹_› (by omega))|(exact DcP.ex ‹_› ‹_› ‹_› (by omega))|(exact DcP.ck ‹_› ‹_› ‹_› ‹_› ‹_› (by omega))|(exact DcP.rd ‹_› ‹_› ‹_› ‹_› (by omega))|(exact DcP.lf ‹_› ‹_› ‹_› ‹_› (by omega) (by omega))|(exact DcP.ok ‹_› ‹_› ‹_› (by omega)))))))|(refine Wr.ex ?_ ?_ ?_;(·omega);(·omega))|(refine Kb.mk ?_ ?_;(·kernel_rfl))|(intro h;first|(replace h:=HyX.h h;(skip);(try simp only[bZ,rngI,and_true,true_and,Int.reduceToNat,Int.reducePow,Int.reduceAdd] at h);(try (have q:=And.left h;clear q;obtain⟨_,_⟩:=h)))|((replace h:=(show _/\_/\_/\_/\VC _ _ _ _ _ _ _ _ from Pr.h (HyP.h h));obtain⟨rfl,rfl,_,_,_⟩:=h))|(replace h:=Pr.h (HyP.h h);((obtain⟨_,_⟩:=h)))|(replace h:=Pr.h (HyP.h h))|skip)|(refine And.intro ?_ ?_))
theorem h18:∃fn,E.fn 18=some fn:=⟨_,aA func18 rfl rfl rfl⟩
def Cw1(w0:World):CTb:=(10,k10 w0)::(18,k18 w0)::Cw0 w0
theorem bCk(w0:World):AllC E (TBw w0) (Cw1 w0):=.cons (c10 w0) h10 (.cons (c18 w0) h18 (bEk w0))
def w4(w0:World):IW:=dQ E TT (Cw1 w0) (TBw w0) [] dr0 Tryz.f4
theorem c4(w0:World):fC E (TBw w0) 4 (w4 w0):=cK mixed tOk (bCk w0) (fun c hb=>aA func4 hb rfl rfl)
def k4(w0:World):Ctr:=⟨[],[],fun _=>True,fun _ _=>True,0,some (.inl (w4 w0))⟩
theorem h4:∃fn,E.fn 4=some fn:=⟨_,aA func4 rfl rfl rfl⟩
def w6(w0:World):IW:=dQ E TT (Cw1 w0) (TBw w0) [] dr0 Tryz.f6
theorem c6(w0:World):fC E (TBw w0) 6 (w6 w0):=cK mixed tOk (bCk w0) (fun c hb=>aA func6 hb rfl rfl)
def k6(w0:World):Ctr:=⟨[],[],fun _=>True,fun _ _=>True,0,some (.inl (w6 w0))⟩
theorem h6:∃fn,E.fn 6=some fn:=⟨_,aA func6 rfl rfl rfl⟩
def Cw2(w0:World):CTb:=(4,k4 w0)::(6,k6 w0)::Cw1 w0
theorem okw2(w0:World):AllC E (TBw w0) (Cw2 w0):=.inl (c4 w0) h4 (.inl (c6 w0) h6 (bCk w0))
def k3(w0:World):Ctr:=⟨[.ag [i6,i6,i6,.row 440 [i6,i6,i6,.str,.bool,.bool,.bool,i6,i6,i6,i6,.row 8 [i6],i6,i6,i6,i6,i6,i6,i6,i6,i6,.row 32 [i6,i6,i6,i6],i6,i6,i6,i6,i6,.row 8 [i6],i6,.row 40 [i6,i6,i6,i6,i6],.row 56 [i6,i6,i6,i6,i6,i6,i6],i6,i6,i6,i6,.str,i6,i6,i6,i6,i6,i6,.row 16 [i6,i6]],i6,i6,i6,.row 8 [i6],.row 32 [.str,.str],.row 80 [i6,.str,i6,i6,i6,i6,.row 32 [i6,i6,i6,i6]]]],[.sc (.bool)],fun a=>match a with|[.agg cs]=>Pr (DOk (cs.map cSV)->vM (cs.map cSV))|_=>Pr False,fun _ r=>match r with|[.bool true]=>Pr True|_=>Pr False,0,none⟩
set_option maxHeartbeats 1000000 in
theorem c3(w0:World):CtrOk prog (TBw w0) 3 (k3 w0):=by
 refine aC (AN:=[]) (DR:=dr0) mixed tOk (okw2 w0) (aA func3 rfl rfl rfl) ?_
 repeat' ((conv=>whnf);first|exact True.intro|(first|(refine Sp.yes ?_ ?_;(·exact rfl))|(refine Sp.no ?_ ?_;(·decide))|(refine Sp.no ?_ ?_;(·assumption))|(refine Sp.yes ?_ ?_;(·exact bEb ‹_› ‹_› ‹_›))|(refine Sp.yes ?_ ?_;(·exact(aQo ‹_› ‹_› ‹_› ‹_›).1)))|(refine Sp.mk ?_ ?_<;>intro h)|(refine Ob.mk ?_ ?_;(·first|(first|((conv=>whnf);exact Pr.mk (aQo ‹_› ‹_› ‹_› ‹_›).2)|(exfalso;exact tx_ne ‹_› ‹_› (by first|assumption|exact(show ¬_=(0:Int)->_=ByteArray.mk _ by assumption) ‹_›))|(exfalso;exact tx_nl ‹_› ‹_› (by first|assumption|exact(show ¬_=(0:Int)->_=ByteArray.mk _ by assumption) ‹_›)))|((conv=>whnf);refine Pr.mk ?_;first|exact True.intro|omega)))|(refine Kb.mk ?_ ?_;(·kernel_rfl))|(intro h;first|(replace h:=HyX.h h;(skip);(try simp only[bZ,rngI,and_true,true_and,Int.reduceToNat,Int.reducePow,Int.reduceAdd] at h);(try (have q:=And.left h;clear q;obtain⟨_,_⟩:=h)))|(replace h:=Pr.h (HyP.h h);(first|(obtain⟨_,_,_,_,_,_⟩:=h)|(obtain⟨_,_⟩:=h)))|(replace h:=Pr.h (HyP.h h))|skip)|(refine And.intro ?_ ?_))
theorem h3:∃fn,E.fn 3=some fn:=⟨_,aA func3 rfl rfl rfl⟩
end Go.Proofs.YtlikijmihbgloaaGreatDoor
