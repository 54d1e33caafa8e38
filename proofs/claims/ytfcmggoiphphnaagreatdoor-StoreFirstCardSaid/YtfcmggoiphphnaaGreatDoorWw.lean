/-
  The law, in one world.
-/
import Derived.Test.YtfcmggoiphphnaaGreatDoorWz
import Derived.Test.YtfcmggoiphphnaaGreatDoorAb14
set_option linter.unusedVariables false
set_option linter.unusedSimpArgs false
set_option maxRecDepth 100000
namespace Go.Proofs.YtfcmggoiphphnaaGreatDoor
open Go Go.AM Tryz
noncomputable section
def TBw(w0:World):TBs:=⟨TB.l,fun w=>w=w0/\TB.ok w,true⟩
def chi(w0:World):List CT->Int:=Classical.choose (CtrOk.det (ks:=kD) (k:=.i64) (Q:=fun c r=>r=0->DOk c) rfl rfl (c40 bBn) w0 true)
def kW40(w0:World):Ctr:=⟨[.ag kDo],[.sc i6],fun _=>Pr True,fun a r=>match a,r with|[.agg cs],[.int _ r]=>Pr (r=chi w0 (cs.map cSV)/\(r=0->DOk (cs.map cSV)))|_,_=>Pr False,0,none⟩
theorem cW40(w0:World):CtrOk prog (TBw w0) 40 (kW40 w0):=Classical.choose_spec (CtrOk.det (ks:=kD) (k:=.i64) (Q:=fun c r=>r=0->DOk c) rfl rfl (c40 bBn) w0 true)
def Cw0(w0:World):CTb:=(40,kW40 w0)::C14
theorem pO(w0:World):AllC E (TBw w0) (Cw0 w0):=.cons (cW40 w0) h40 (ok14.tb (fun _ h=>h.2) fun _=>rfl)
def k98(w0:World):Ctr:=⟨[.sc (.row 8 [i6])],[.sc (.row 8 [i6])],fun _=>Pr True,fun a r=>rR 0 r fun Rr0=>rR 0 a fun Ra0=>Pr (Rr0=Ra0),0,none⟩
set_option maxHeartbeats 1000000 in
theorem c98(w0:World):CtrOk prog (TBw w0) 98 (k98 w0):=by
 refine aC (AN:=[]) (DR:=dr0) aB tOk (pO w0) (aA func98 rfl rfl rfl) ?_
 repeat' ((conv=>whnf);first|exact True.intro|(refine Ob.mk ?_ ?_;(·first|((dsimp only at*;omega))|((conv=>whnf);refine Pr.mk ?_;(repeat' (first|(exact Eq.symm ‹_›)|(exact pH ‹_› ‹_›))))))|(intro h;first|(replace h:=HyX.h h;(skip);(try simp only[bK,rngI,and_true,true_and,Int.reduceToNat,Int.reducePow,Int.reduceAdd] at h);(try (have q:=And.left h;clear q;obtain⟨_,_⟩:=h)))|(replace h:=Pr.h (HyP.h h))|skip)|(refine And.intro ?_ ?_))
theorem h98:∃fn,E.fn 98=some fn:=⟨_,aA func98 rfl rfl rfl⟩
def k101(w0:World):Ctr:=⟨[.sc (.row 32 [i6,i6,i6,i6])],[.sc (.row 32 [i6,i6,i6,i6])],fun _=>Pr True,fun a r=>rR 0 r fun Rr0=>rR 0 a fun Ra0=>Pr (Rr0=Ra0),0,none⟩
set_option maxHeartbeats 1000000 in
theorem c101(w0:World):CtrOk prog (TBw w0) 101 (k101 w0):=by
 refine aC (AN:=[]) (DR:=dr0) aB tOk (pO w0) (aA func101 rfl rfl rfl) ?_
 repeat' ((conv=>whnf);first|exact True.intro|(refine Ob.mk ?_ ?_;(·first|((dsimp only at*;omega))|((conv=>whnf);refine Pr.mk ?_;(repeat' (first|(exact Eq.symm ‹_›)|(exact pH ‹_› ‹_›))))))|(intro h;first|(replace h:=HyX.h h;(skip);(try simp only[bK,rngI,and_true,true_and,Int.reduceToNat,Int.reducePow,Int.reduceAdd] at h);(try (have q:=And.left h;clear q;obtain⟨_,_⟩:=h)))|(replace h:=Pr.h (HyP.h h))|skip)|(refine And.intro ?_ ?_))
theorem h101:∃fn,E.fn 101=some fn:=⟨_,aA func101 rfl rfl rfl⟩
def k145(w0:World):Ctr:=⟨[.sc (.row 40 [i6,i6,i6,i6,i6])],[.sc (.row 40 [i6,i6,i6,i6,i6])],fun _=>Pr True,fun a r=>rR 0 r fun Rr0=>rR 0 a fun Ra0=>Pr (Rr0=Ra0),0,none⟩
set_option maxHeartbeats 1000000 in
theorem c145(w0:World):CtrOk prog (TBw w0) 145 (k145 w0):=by
 refine aC (AN:=[]) (DR:=dr0) aB tOk (pO w0) (aA func145 rfl rfl rfl) ?_
 repeat' ((conv=>whnf);first|exact True.intro|(refine Ob.mk ?_ ?_;(·first|((dsimp only at*;omega))|((conv=>whnf);refine Pr.mk ?_;(repeat' (first|(exact Eq.symm ‹_›)|(exact pH ‹_› ‹_›))))))|(intro h;first|(replace h:=HyX.h h;(skip);(try simp only[bK,rngI,and_true,true_and,Int.reduceToNat,Int.reducePow,Int.reduceAdd] at h);(try (have q:=And.left h;clear q;obtain⟨_,_⟩:=h)))|(replace h:=Pr.h (HyP.h h))|skip)|(refine And.intro ?_ ?_))
theorem h145:∃fn,E.fn 145=some fn:=⟨_,aA func145 rfl rfl rfl⟩
def k146(w0:World):Ctr:=⟨[.sc (.row 56 [i6,i6,i6,i6,i6,i6,i6])],[.sc (.row 56 [i6,i6,i6,i6,i6,i6,i6])],fun _=>Pr True,fun a r=>rR 0 r fun Rr0=>rR 0 a fun Ra0=>Pr (Rr0=Ra0),0,none⟩
set_option maxHeartbeats 1000000 in
theorem c146(w0:World):CtrOk prog (TBw w0) 146 (k146 w0):=by
 refine aC (AN:=[]) (DR:=dr0) aB tOk (pO w0) (aA func146 rfl rfl rfl) ?_
 repeat' ((conv=>whnf);first|exact True.intro|(refine Ob.mk ?_ ?_;(·first|((dsimp only at*;omega))|((conv=>whnf);refine Pr.mk ?_;(repeat' (first|(exact Eq.symm ‹_›)|(exact pH ‹_› ‹_›))))))|(intro h;first|(replace h:=HyX.h h;(skip);(try simp only[bK,rngI,and_true,true_and,Int.reduceToNat,Int.reducePow,Int.reduceAdd] at h);(try (have q:=And.left h;clear q;obtain⟨_,_⟩:=h)))|(replace h:=Pr.h (HyP.h h))|skip)|(refine And.intro ?_ ?_))
theorem h146:∃fn,E.fn 146=some fn:=⟨_,aA func146 rfl rfl rfl⟩
def k147(w0:World):Ctr:=⟨[.sc (.row 16 [i6,i6])],[.sc (.row 16 [i6,i6])],fun _=>Pr True,fun a r=>rR 0 r fun Rr0=>rR 0 a fun Ra0=>Pr (Rr0=Ra0),0,none⟩
set_option maxHeartbeats 1000000 in
theorem c147(w0:World):CtrOk prog (TBw w0) 147 (k147 w0):=by
 refine aC (AN:=[]) (DR:=dr0) aB tOk (pO w0) (aA func147 rfl rfl rfl) ?_
 repeat' ((conv=>whnf);first|exact True.intro|(refine Ob.mk ?_ ?_;(·first|((dsimp only at*;omega))|((conv=>whnf);refine Pr.mk ?_;(repeat' (first|(exact Eq.symm ‹_›)|(exact pH ‹_› ‹_›))))))|(intro h;first|(replace h:=HyX.h h;(skip);(try simp only[bK,rngI,and_true,true_and,Int.reduceToNat,Int.reducePow,Int.reduceAdd] at h);(try (have q:=And.left h;clear q;obtain⟨_,_⟩:=h)))|(replace h:=Pr.h (HyP.h h))|skip)|(refine And.intro ?_ ?_))
theorem h147:∃fn,E.fn 147=some fn:=⟨_,aA func147 rfl rfl rfl⟩
def k99(w0:World):Ctr:=⟨[.sc (.row 32 [.str,.str])],[.sc (.row 32 [.str,.str])],fun _=>Pr True,fun a r=>rR 0 r fun Rr0=>rR 0 a fun Ra0=>Pr (Rr0=Ra0),0,none⟩
set_option maxHeartbeats 1000000 in
theorem c99(w0:World):CtrOk prog (TBw w0) 99 (k99 w0):=by
 refine aC (AN:=[]) (DR:=dr0) aB tOk (pO w0) (aA func99 rfl rfl rfl) ?_
 repeat' ((conv=>whnf);first|exact True.intro|(refine Ob.mk ?_ ?_;(·first|((dsimp only at*;omega))|((conv=>whnf);refine Pr.mk ?_;(repeat' (first|(exact Eq.symm ‹_›)|(exact pH ‹_› ‹_›))))))|(intro h;first|(replace h:=HyX.h h;(skip);(try simp only[bK,rngI,and_true,true_and,Int.reduceToNat,Int.reducePow,Int.reduceAdd] at h);(try (have q:=And.left h;clear q;obtain⟨_,_⟩:=h)))|(replace h:=Pr.h (HyP.h h))|skip)|(refine And.intro ?_ ?_))
theorem h99:∃fn,E.fn 99=some fn:=⟨_,aA func99 rfl rfl rfl⟩
def w100(w0:World):IW:=bI E TT (Cw0 w0) (TBw w0) [] dr0 f100
theorem c100(w0:World):bW E (TBw w0) 100 (w100 w0):=aS aB tOk (pO w0) (fun c hb=>aA func100 hb rfl rfl)
def k100(w0:World):Ctr:=⟨[],[],fun _=>True,fun _ _=>True,0,some (.inl (w100 w0))⟩
theorem h100:∃fn,E.fn 100=some fn:=⟨_,aA func100 rfl rfl rfl⟩
def w96(w0:World):IW:=bI E TT (Cw0 w0) (TBw w0) [] dr0 f96
theorem c96(w0:World):bW E (TBw w0) 96 (w96 w0):=aS aB tOk (pO w0) (fun c hb=>aA func96 hb rfl rfl)
def k96(w0:World):Ctr:=⟨[],[],fun _=>True,fun _ _=>True,0,some (.inl (w96 w0))⟩
theorem h96:∃fn,E.fn 96=some fn:=⟨_,aA func96 rfl rfl rfl⟩
def k26(w0:World):Ctr:=⟨[.pt 1 [.str,.str,.bool,i6,i6,i6],.sc (.str)],[.ag [.str,.str]],fun _=>Pr True,fun a r=>match a,r with|[.ep _ _ _ _ [.str A,.str B,.bool s,_,_,_],.str j],[.agg [.str X,.str Y]]=>Pr (X=cond s A j/\Y=cond s j B)|_,_=>Pr False,0,none⟩
set_option maxHeartbeats 1000000 in
theorem c26(w0:World):CtrOk prog (TBw w0) 26 (k26 w0):=by
 refine aC (AN:=[]) (DR:=dr0) aB tOk (pO w0) (aA func26 rfl rfl rfl) ?_
 repeat' ((conv=>whnf);first|exact True.intro|(refine Sp.mk ?_ ?_<;>intro h)|(refine Ob.mk ?_ ?_;(·((conv=>whnf);refine Pr.mk ?_;(try replace h:=Bool.eq_false_iff.2 h);rw[h];(exact⟨rfl,rfl⟩))))|(intro h;first|(replace h:=Pr.h (HyP.h h);((obtain⟨_,_,_,_,_,_⟩:=h)))|skip))
theorem h26:∃fn,E.fn 26=some fn:=⟨_,aA func26 rfl rfl rfl⟩
def k27(w0:World):Ctr:=⟨[.pt 1 [.str,.str,.bool,i6,i6,i6]],[.sc (.str)],fun _=>Pr True,fun a r=>match a,r with|[.ep _ _ _ _ [.str A,.str B,.bool s,_,_,_]],[.str j]=>Pr (j=cond s B A)|_,_=>Pr False,0,none⟩
set_option maxHeartbeats 1000000 in
theorem c27(w0:World):CtrOk prog (TBw w0) 27 (k27 w0):=by
 refine aC (AN:=[]) (DR:=dr0) aB tOk (pO w0) (aA func27 rfl rfl rfl) ?_
 repeat' ((conv=>whnf);first|exact True.intro|(refine Sp.mk ?_ ?_<;>intro h)|(refine Ob.mk ?_ ?_;(·((conv=>whnf);refine Pr.mk ?_;(try replace h:=Bool.eq_false_iff.2 h);rw[h];(exact rfl))))|(refine Kb.mk ?_ ?_;(·kernel_rfl))|(intro h;first|(replace h:=Pr.h (HyP.h h);((obtain⟨_,_,_,_,_,_⟩:=h)))|skip))
theorem h27:∃fn,E.fn 27=some fn:=⟨_,aA func27 rfl rfl rfl⟩
def w28(w0:World):IW:=bI E TT (Cw0 w0) (TBw w0) [] dr0 f28
theorem c28(w0:World):bW E (TBw w0) 28 (w28 w0):=aS aB tOk (pO w0) (fun c hb=>aA func28 hb rfl rfl)
def k28(w0:World):Ctr:=⟨[],[],fun _=>True,fun _ _=>True,0,some (.inl (w28 w0))⟩
theorem h28:∃fn,E.fn 28=some fn:=⟨_,aA func28 rfl rfl rfl⟩
def w53(w0:World):IW:=bI E TT (Cw0 w0) (TBw w0) [] dr0 f53
theorem c53(w0:World):bW E (TBw w0) 53 (w53 w0):=aS aB tOk (pO w0) (fun c hb=>aA func53 hb rfl rfl)
def k53(w0:World):Ctr:=⟨[],[],fun _=>True,fun _ _=>True,0,some (.inl (w53 w0))⟩
theorem h53:∃fn,E.fn 53=some fn:=⟨_,aA func53 rfl rfl rfl⟩
def w76(w0:World):IW:=bI E TT (Cw0 w0) (TBw w0) [] dr0 f76
theorem c76(w0:World):bW E (TBw w0) 76 (w76 w0):=aS aB tOk (pO w0) (fun c hb=>aA func76 hb rfl rfl)
def k76(w0:World):Ctr:=⟨[],[],fun _=>True,fun _ _=>True,0,some (.inl (w76 w0))⟩
theorem h76:∃fn,E.fn 76=some fn:=⟨_,aA func76 rfl rfl rfl⟩
def w30(w0:World):IW:=bI E TT (Cw0 w0) (TBw w0) [(4,⟨[0,1,12],[(13,none)],[],[],[],[],[],fun f0 h0 fr hp=>gI 13 fr fun t13=>gI 12 fr fun t12=>Pr (0<=t13/\t13<=t12),.sub (.sl 12) (.sl 13),3⟩)] dr0 f30
theorem c30(w0:World):bW E (TBw w0) 30 (w30 w0):=aS aB tOk (pO w0) (fun c hb=>aA func30 hb rfl rfl)
def k30(w0:World):Ctr:=⟨[],[],fun _=>True,fun _ _=>True,0,some (.inl (w30 w0))⟩
theorem h30:∃fn,E.fn 30=some fn:=⟨_,aA func30 rfl rfl rfl⟩
def Cw1(w0:World):CTb:=(98,k98 w0)::(101,k101 w0)::(145,k145 w0)::(146,k146 w0)::(147,k147 w0)::(99,k99 w0)::(100,k100 w0)::(96,k96 w0)::(26,k26 w0)::(27,k27 w0)::(28,k28 w0)::(53,k53 w0)::(76,k76 w0)::(30,k30 w0)::Cw0 w0
theorem aFt(w0:World):AllC E (TBw w0) (Cw1 w0):=.cons (c98 w0) h98 (.cons (c101 w0) h101 (.cons (c145 w0) h145 (.cons (c146 w0) h146 (.cons (c147 w0) h147 (.cons (c99 w0) h99 (.inl (c100 w0) h100 (.inl (c96 w0) h96 (.cons (c26 w0) h26 (.cons (c27 w0) h27 (.inl (c28 w0) h28 (.inl (c53 w0) h53 (.inl (c76 w0) h76 (.inl (c30 w0) h30 (pO w0))))))))))))))
def k97(w0:World):Ctr:=⟨[.ag kNo,.ag kNo],[.ag kNo,.sc i6],fun a=>match a with|[.agg x,.agg y]=>Pr (x.map cSV=y.map cSV)|_=>Pr False,fun a r=>match a,r with|[.agg x,_],[.agg z,.int _ e]=>Pr (z.map cSV=x.map cSV/\e=0)|_,_=>Pr False,0,none⟩
set_option maxHeartbeats 1000000 in
theorem c97(w0:World):CtrOk prog (TBw w0) 97 (k97 w0):=by
 refine aC (AN:=[]) (DR:=⟨[(13,([2],false)),(15,([2],false))],[],[],[],[]⟩) aB tOk (aFt w0) (aA func97 rfl rfl rfl) ?_
 repeat' ((conv=>whnf);first|exact True.intro|((refine Sp.yes ?_ ?_;(·exact rfl)))|(refine Ob.mk ?_ ?_;(·((conv=>whnf);refine Pr.mk ?_;first|exact True.intro|(repeat' (first|refine And.intro ?_ ?_|omega|(exact rfl))))))|(refine Kb.mk ?_ ?_;(·kernel_rfl))|(intro h;first|((have q:=tJ (ks:=kN) (Pr.h (HyP.h h));simp only[aN,kSV,kN,Nat.zero_add,Nat.reduceAdd] at q;rw[q];clear h))|(replace h:=HyX.h h;(skip);(try simp only[bK,rngI,and_true,true_and,Int.reduceToNat,Int.reducePow,Int.reduceAdd] at h);(try (have q:=And.left h;clear q;obtain⟨_,_⟩:=h)))|((replace h:=Pr.h (HyP.h h);subst h))|skip)|(exfalso;omega))
theorem h97:∃fn,E.fn 97=some fn:=⟨_,aA func97 rfl rfl rfl⟩
def w95(w0:World):IW:=bI E TT (Cw1 w0) (TBw w0) [(2,⟨[0,1,7],[(8,none)],[],[],[],[],[],fun f0 h0 fr hp=>gCl 1 0 fr hp fun id=>gR 0 fr hp fun R=>gI 8 fr fun t=>gI 7 fr fun n=>Pr (0<=t/\t<=n/\(0<t->¬cI (elC R 0) 0=id)),.sub (.sl 7) (.sl 8),0⟩)] dr0 f95
theorem c95(w0:World):bW E (TBw w0) 95 (w95 w0):=aS aB tOk (aFt w0) (fun c hb=>aA func95 hb rfl rfl)
def k95(w0:World):Ctr:=⟨[],[],fun _=>True,fun _ _=>True,0,some (.inl (w95 w0))⟩
theorem h95:∃fn,E.fn 95=some fn:=⟨_,aA func95 rfl rfl rfl⟩
def w7(w0:World):IW:=bI E TT (Cw1 w0) (TBw w0) [] ⟨[(4,([4],false))],[],[],[],[3,4]⟩ Tryz.f7
theorem c7(w0:World):bW E (TBw w0) 7 (w7 w0):=aS aB tOk (aFt w0) (fun c hb=>aA func7 hb rfl rfl)
def k7(w0:World):Ctr:=⟨[],[],fun _=>True,fun _ _=>True,0,some (.inl (w7 w0))⟩
theorem h7:∃fn,E.fn 7=some fn:=⟨_,aA func7 rfl rfl rfl⟩
def w8(w0:World):IW:=bI E TT (Cw1 w0) (TBw w0) [] dr0 Tryz.f8
theorem c8(w0:World):bW E (TBw w0) 8 (w8 w0):=aS aB tOk (aFt w0) (fun c hb=>aA func8 hb rfl rfl)
def k8(w0:World):Ctr:=⟨[],[],fun _=>True,fun _ _=>True,0,some (.inl (w8 w0))⟩
theorem h8:∃fn,E.fn 8=some fn:=⟨_,aA func8 rfl rfl rfl⟩
def w45(w0:World):IW:=bI E TT (Cw1 w0) (TBw w0) [] dr0 f45
theorem c45(w0:World):bW E (TBw w0) 45 (w45 w0):=aS aB tOk (aFt w0) (fun c hb=>aA func45 hb rfl rfl)
def k45(w0:World):Ctr:=⟨[],[],fun _=>True,fun _ _=>True,0,some (.inl (w45 w0))⟩
theorem h45:∃fn,E.fn 45=some fn:=⟨_,aA func45 rfl rfl rfl⟩
def w22(w0:World):IW:=bI E TT (Cw1 w0) (TBw w0) [] dr0 f22
theorem c22(w0:World):bW E (TBw w0) 22 (w22 w0):=aS aB tOk (aFt w0) (fun c hb=>aA func22 hb rfl rfl)
def k22(w0:World):Ctr:=⟨[],[],fun _=>True,fun _ _=>True,0,some (.inl (w22 w0))⟩
theorem h22:∃fn,E.fn 22=some fn:=⟨_,aA func22 rfl rfl rfl⟩
def w31(w0:World):IW:=bI E TT (Cw1 w0) (TBw w0) [(5,⟨[12,13],[(3,some (8,[i6])),(14,none)],[],[],[],[],[],fun f0 h0 fr hp=>gI 14 fr fun t14=>gI 13 fr fun t13=>Pr (0<=t14/\t14<=t13),.sub (.sl 13) (.sl 14),3⟩)] dr0 f31
theorem c31(w0:World):bW E (TBw w0) 31 (w31 w0):=aS aB tOk (aFt w0) (fun c hb=>aA func31 hb rfl rfl)
def k31(w0:World):Ctr:=⟨[],[],fun _=>True,fun _ _=>True,0,some (.inl (w31 w0))⟩
theorem h31:∃fn,E.fn 31=some fn:=⟨_,aA func31 rfl rfl rfl⟩
def Cw2(w0:World):CTb:=(97,k97 w0)::(95,k95 w0)::(7,k7 w0)::(8,k8 w0)::(45,k45 w0)::(22,k22 w0)::(31,k31 w0)::Cw1 w0
theorem aZu(w0:World):AllC E (TBw w0) (Cw2 w0):=.cons (c97 w0) h97 (.inl (c95 w0) h95 (.inl (c7 w0) h7 (.inl (c8 w0) h8 (.inl (c45 w0) h45 (.inl (c22 w0) h22 (.inl (c31 w0) h31 (aFt w0)))))))
def k61(w0:World):Ctr:=⟨[.ag kDo],[.ag kDo],fun _=>Pr True,fun a r=>match a,r with|[.agg x],[.agg z]=>Pr (gF (x.map cSV)->z.map cSV=x.map cSV)|_,_=>Pr False,0,none⟩
set_option maxHeartbeats 1000000 in
theorem c61(w0:World):CtrOk prog (TBw w0) 61 (k61 w0):=by
 refine aC (AN:=[(4,⟨[1,2,3,15,16],[(17,none)],[3],[],[],[],[],fun f0 h0 fr hp=>gBx 3 fr hp fun cs=>gBx 3 f0 h0 fun cs0=>gI 17 fr fun t17=>gI 16 fr fun t16=>gBR 3 3 fr hp fun R=>gR 15 fr hp fun R0=>Pr ((0<=t17/\t17<=t16/\NJ R R0 t17/\((R0.length:Nat):Int)=((R.length:Nat):Int))/\(True)/\exC [3] 0 cs cs0),.sub (.sl 16) (.sl 17),0⟩),(12,⟨[2,3,48,49],[(50,none)],[3],[],[],[],[],fun f0 h0 fr hp=>gBx 3 fr hp fun cs=>gBx 3 f0 h0 fun cs0=>gBR 3 3 fr hp fun K3=>gBR 3 3 f0 h0 fun Q3=>gI 50 fr fun t17=>gI 49 fr fun t16=>gBR 3 9 fr hp fun R=>gR 48 fr hp fun R0=>Pr ((0<=t17/\t17<=t16/\LJ R R0/\((R0.length:Nat):Int)=((R.length:Nat):Int))/\(K3=Q3/\True)/\exC [3,9] 0 cs cs0),.sub (.sl 49) (.sl 50),0⟩)]) (DR:=⟨[(6,([7000003],true)),(14,([7000003],true))],[],[],[],[]⟩) aB tOk (aZu w0) (aA func61 rfl rfl rfl) ?_
 repeat' ((conv=>whnf);first|exact True.intro|(refine Sp.mk ?_ ?_<;>intro h)|(refine Ob.mk ?_ ?_;(·first|(first|(dsimp only at*;omega)|((conv=>whnf);exact Pr.mk rfl)|((conv=>whnf);refine Pr.mk ⟨?_,by(repeat (refine And.intro rfl ?_));exact True.intro,by(repeat (refine And.intro rfl ?_));exact True.intro⟩;(repeat' (first|refine And.intro ?_ ?_|omega|(simp only[List.length_nil];omega)|(exact NJ.init ‹_› rfl)|(exact LJ.init (Eq.symm ‹_›))|(exact LJ.init (pH ‹_› ‹_›))|(exact NJ.step ‹_› (by omega) (by omega) ‹_› ‹_› rfl rfl ‹_›)|(exact LJ.step ‹_› (by omega) (by omega) ‹_› rfl rfl ‹_›)))))|omega|((conv=>whnf);refine Pr.mk ?_;first|exact True.intro|(repeat' ((intro e;have q1:=NJ.all ‹_› (by omega) (by omega) e (by exact rfl);have q2:=LJ.all ‹_› e (by exact rfl);subst q1;first|(subst q2;exact rfl)|(rw[<-q2]<;>exact rfl)))))))|(refine Wr.ex ?_ ?_ ?_;(·omega);(·omega))|(refine Kb.mk ?_ ?_;(·kernel_rfl))|(refine Ag.mk ?_ ?_;(·first|exact rfl|(repeat' (first|exact rfl|exact True.intro|refine And.intro ?_ ?_))))|(intro h;first|(replace h:=HyX.h h;(skip);(try simp only[bK,rngI,and_true,true_and,Int.reduceToNat,Int.reducePow,Int.reduceAdd] at h);(try (have q:=And.left h;clear q;obtain⟨_,_⟩:=h)))|((replace h:=(show(_/\_)/\_/\exC _ _ _ _ from Pr.h (HyP.h h));obtain⟨oq,wc,tm⟩:=h;(repeat (obtain⟨_,oq⟩:=oq));(repeat (obtain⟨rfl,wc⟩:=wc));(try clear wc);(repeat (obtain⟨rfl,tm⟩:=tm));(try clear tm)))|((replace h:=Pr.h (HyP.h h);subst h))|(replace h:=Pr.h (HyP.h h);((obtain⟨_,_,_,_,_,_⟩:=h)))|skip)|(refine And.intro ?_ ?_)|(exfalso;omega))
theorem h61:∃fn,E.fn 61=some fn:=⟨_,aA func61 rfl rfl rfl⟩
def k60(w0:World):Ctr:=⟨[.pt 0 [.row 184 [i6,i6,.str,i6,i6,i6,.row 440 kNo,i6,i6,i6,.row 8 [i6],.row 32 [.str,.str],.row 80 [i6,.str,i6,i6,i6,i6,.row 32 [i6,i6,i6,i6]],i6],i6,i6,i6],.sc i6],[.sc i6],fun _=>Pr True,fun a r=>rI 0 r fun r0=>rcL 0 0 a fun lc0_0=>rcR 0 0 a fun Rc0_0=>rI 1 a fun a1=>Pr (-1<=r0/\r0<lc0_0/\(0<lc0_0/\cI (elC Rc0_0 0) 0=a1->r0=0)),0,none⟩
set_option maxHeartbeats 1000000 in
theorem c60(w0:World):CtrOk prog (TBw w0) 60 (k60 w0):=by
 refine aC (AN:=[]) (DR:=dr0) aB tOk (aZu w0) (aA func60 rfl rfl rfl) ?_
 repeat' ((conv=>whnf);first|exact True.intro|(refine Sp.mk ?_ ?_<;>intro h)|(refine Ob.mk ?_ ?_;(·first|omega|((conv=>whnf);refine Pr.mk ?_;first|omega|(repeat' (first|refine And.intro ?_ ?_|omega|(exact bAy ‹_› ‹_› ‹_› (by omega)))))))|(refine Wr.ex ?_ ?_ ?_;(·omega);(·omega))|(refine Ag.mk ?_ ?_;(·first|exact rfl|(repeat' (first|exact rfl|exact True.intro|refine And.intro ?_ ?_))))|(intro h;first|(replace h:=Pr.h (HyP.h h);(first|(obtain⟨_,_,_,_,_,_⟩:=h)|(obtain⟨_,_,_⟩:=h)))|skip))
theorem h60:∃fn,E.fn 60=some fn:=⟨_,aA func60 rfl rfl rfl⟩
def w21(w0:World):IW:=bI E TT (Cw2 w0) (TBw w0) [] dr0 f21
theorem c21(w0:World):bW E (TBw w0) 21 (w21 w0):=aS aB tOk (aZu w0) (fun c hb=>aA func21 hb rfl rfl)
def k21(w0:World):Ctr:=⟨[],[],fun _=>True,fun _ _=>True,0,some (.inl (w21 w0))⟩
theorem h21:∃fn,E.fn 21=some fn:=⟨_,aA func21 rfl rfl rfl⟩
def Cw3(w0:World):CTb:=(61,k61 w0)::(60,k60 w0)::(21,k21 w0)::Cw2 w0
theorem aZj(w0:World):AllC E (TBw w0) (Cw3 w0):=.cons (c61 w0) h61 (.cons (c60 w0) h60 (.inl (c21 w0) h21 (aZu w0)))
def w72(w0:World):IW:=bI E TT (Cw3 w0) (TBw w0) [] ⟨[(2,([7000000],false))],[],[],[],[2]⟩ f72
theorem c72(w0:World):bW E (TBw w0) 72 (w72 w0):=aS aB tOk (aZj w0) (fun c hb=>aA func72 hb rfl rfl)
def k72(w0:World):Ctr:=⟨[],[],fun _=>True,fun _ _=>True,0,some (.inl (w72 w0))⟩
theorem h72:∃fn,E.fn 72=some fn:=⟨_,aA func72 rfl rfl rfl⟩
def w39(w0:World):IW:=bI E TT (Cw3 w0) (TBw w0) [] ⟨[(3,([2],true))],[],[],[],[3]⟩ f39
theorem c39(w0:World):bW E (TBw w0) 39 (w39 w0):=aS aB tOk (aZj w0) (fun c hb=>aA func39 hb rfl rfl)
def k39(w0:World):Ctr:=⟨[],[],fun _=>True,fun _ _=>True,0,some (.inl (w39 w0))⟩
theorem h39:∃fn,E.fn 39=some fn:=⟨_,aA func39 rfl rfl rfl⟩
def w32(w0:World):IW:=bI E TT (Cw3 w0) (TBw w0) [] ⟨[],[],[],[],[3]⟩ f32
theorem c32(w0:World):bW E (TBw w0) 32 (w32 w0):=aS aB tOk (aZj w0) (fun c hb=>aA func32 hb rfl rfl)
def k32(w0:World):Ctr:=⟨[],[],fun _=>True,fun _ _=>True,0,some (.inl (w32 w0))⟩
theorem h32:∃fn,E.fn 32=some fn:=⟨_,aA func32 rfl rfl rfl⟩
def Cw4(w0:World):CTb:=(72,k72 w0)::(39,k39 w0)::(32,k32 w0)::Cw3 w0
theorem aXa(w0:World):AllC E (TBw w0) (Cw4 w0):=.inl (c72 w0) h72 (.inl (c39 w0) h39 (.inl (c32 w0) h32 (aZj w0)))
def w41(w0:World):IW:=bI E TT (Cw4 w0) (TBw w0) [] ⟨[(1,([6],true)),(2,([7000000],true))],[],[2],[],[]⟩ f41
theorem c41(w0:World):bW E (TBw w0) 41 (w41 w0):=aS aB tOk (aXa w0) (fun c hb=>aA func41 hb rfl rfl)
def k41(w0:World):Ctr:=⟨[],[],fun _=>True,fun _ _=>True,0,some (.inl (w41 w0))⟩
theorem h41:∃fn,E.fn 41=some fn:=⟨_,aA func41 rfl rfl rfl⟩
def k43(w0:World):Ctr:=⟨[.sc i6],[.sc (.str),.sc i6],fun a=>rI 0 a fun a0=>Pr (-9223372036854775808<=a0),fun a r=>rI 1 r fun r1=>rT 0 r fun Tr0=>rI 0 a fun a0=>rS 0 r fun sr0=>Pr ((r1=0->Tr0.data.toList=hdB a0)/\(1<=a0/\a0<=1073741824->r1=0)/\sr0<=1048700),0,none⟩
set_option maxHeartbeats 1000000 in
theorem c43(w0:World):CtrOk prog (TBw w0) 43 (k43 w0):=by
 refine aC (AN:=[]) (DR:=dr0) aB tOk (aXa w0) (aA func43 rfl rfl rfl) ?_
 repeat' ((conv=>whnf);first|exact True.intro|(refine Sp.mk ?_ ?_<;>intro h)|(refine Ob.mk ?_ ?_;(·first|omega|((conv=>whnf);refine Pr.mk ?_;first|omega|(repeat' (first|refine And.intro ?_ ?_|omega|(intro e;exact hd_of ‹_› ‹_› ((show(_:Int)=0->_/\_ by assumption) (by omega)).1 ‹_›))))))|(refine Wr.ex ?_ ?_ ?_;(·omega);(·omega))|(refine Kb.mk ?_ ?_;(·kernel_rfl))|(intro h;first|(replace h:=HyX.h h;(skip);(try simp only[bK,rngI,and_true,true_and,Int.reduceToNat,Int.reducePow,Int.reduceAdd] at h);(try (have q:=And.left h;clear q;obtain⟨_,_⟩:=h)))|(replace h:=Pr.h (HyP.h h);((obtain⟨_,_,_⟩:=h)))|(replace h:=Pr.h (HyP.h h))|skip))
theorem h43:∃fn,E.fn 43=some fn:=⟨_,aA func43 rfl rfl rfl⟩
def k59(w0:World):Ctr:=⟨[.ag [i6,i6,.str]],[.sc (.str),.sc i6],fun a=>match a with|[.agg [_,_,.str s]]=>Pr (((s.data.toList.length:Nat):Int)<=1099500000000)|_=>Pr False,fun a r=>match a,r with|[.agg [.int _ k,.int _ q,.str s]],[.str f,.int _ e]=>Pr ((e=0->f.data.toList=frV (rcP k q s.data.toList))/\(1<=k/\k<=6/\1<=q/\q<=1073741824/\(((rcP k q s.data.toList).length:Nat):Int)<=1048576->e=0)/\((f.data.toList.length:Nat):Int)<=1048600)|_,_=>Pr False,0,none⟩
set_option maxHeartbeats 1000000 in
theorem c59(w0:World):CtrOk prog (TBw w0) 59 (k59 w0):=by
 refine aC (AN:=[]) (DR:=dr0) aB tOk (aXa w0) (aA func59 rfl rfl rfl) ?_
 repeat' ((conv=>whnf);first|exact True.intro|(refine Sp.mk ?_ ?_<;>intro h)|(refine Ob.mk ?_ ?_;(·first|omega|((conv=>whnf);refine Pr.mk ?_;first|omega|(repeat' (first|refine And.intro ?_ ?_|omega|(intro e;exact rc_of ((show(_:Int)=0->_/\_ by assumption) (by omega)).1 ‹_› ‹_› ‹_› ‹_› ‹_›)|(intro _;have q:=bEm ‹_› ‹_› ‹_› ‹_› ‹_›;omega))))))|(refine Wr.ex ?_ ?_ ?_;(·omega);(·omega))|(refine Kb.mk ?_ ?_;(·kernel_rfl))|(intro h;first|(replace h:=HyX.h h;(skip);(try simp only[bK,rngI,and_true,true_and,Int.reduceToNat,Int.reducePow,Int.reduceAdd] at h);(try (have q:=And.left h;clear q;obtain⟨_,_⟩:=h)))|(replace h:=Pr.h (HyP.h h);((obtain⟨_,_,_⟩:=h)))|(replace h:=Pr.h (HyP.h h))|skip))
theorem h59:∃fn,E.fn 59=some fn:=⟨_,aA func59 rfl rfl rfl⟩
def w11(w0:World):IW:=bI E TT (Cw4 w0) (TBw w0) [] dr0 f11
theorem c11(w0:World):bW E (TBw w0) 11 (w11 w0):=aS aB tOk (aXa w0) (fun c hb=>aA func11 hb rfl rfl)
def k11(w0:World):Ctr:=⟨[],[],fun _=>True,fun _ _=>True,0,some (.inl (w11 w0))⟩
theorem h11:∃fn,E.fn 11=some fn:=⟨_,aA func11 rfl rfl rfl⟩
def Cw5(w0:World):CTb:=(41,k41 w0)::(43,k43 w0)::(59,k59 w0)::(11,k11 w0)::Cw4 w0
theorem aYu(w0:World):AllC E (TBw w0) (Cw5 w0):=.inl (c41 w0) h41 (.cons (c43 w0) h43 (.cons (c59 w0) h59 (.inl (c11 w0) h11 (aXa w0))))
def k85(w0:World):Ctr:=⟨[.sc (.str)],[.sc i6,.sc i6,.sc i6],fun a=>rS 0 a fun sa0=>Pr (sa0<=1099511627776),fun a r=>rI 1 r fun r1=>rS 0 a fun sa0=>rT 0 a fun Ta0=>rI 0 r fun r0=>rI 2 r fun r2=>Pr (0<=r1/\r1<=sa0/\HdP Ta0.data.toList r0 r1 r2),0,none⟩
set_option maxHeartbeats 1000000 in
theorem c85(w0:World):CtrOk prog (TBw w0) 85 (k85 w0):=by
 refine aC (AN:=[]) (DR:=dr0) aB tOk (aYu w0) (aA func85 rfl rfl rfl) ?_
 repeat' ((conv=>whnf);first|exact True.intro|(first|(refine Sp.yes ?_ ?_;(·exact rfl))|(refine Sp.no ?_ ?_;(·decide)))|(refine Sp.mk ?_ ?_<;>intro h)|(refine Ob.mk ?_ ?_;(·first|omega|((conv=>whnf);refine Pr.mk ?_;first|exact True.intro|omega|(repeat' (first|refine And.intro ?_ ?_|omega|(exact rfl)|(exact HdP.nop ‹_› ‹_› (by omega))|(exact HdP.op ‹_› ‹_› ‹_› (by omega) (by omega))|(exact HdP.ue ‹_› ‹_› ‹_› ‹_› (by omega) (by omega))|(exact HdP.lf ‹_› ‹_› ‹_› (by omega) (by omega) (by omega) (by omega))|(exact HdP.rg ‹_› ‹_› ‹_› (by omega) (by omega) (by omega))|(exact HdP.ok ‹_› ‹_› ‹_› ‹_› ‹_› (by omega) (by omega) (by omega) (by omega) (by omega) rfl (by omega) (by omega)))))))|(refine Wr.ex ?_ ?_ ?_;(·omega);(·omega))|(refine Kb.mk ?_ ?_;(·kernel_rfl))|(intro h;first|(replace h:=HyX.h h;(skip);(try simp only[bK,rngI,and_true,true_and,Int.reduceToNat,Int.reducePow,Int.reduceAdd] at h);(try (have q:=And.left h;clear q;obtain⟨_,_⟩:=h)))|((replace h:=(show _/\_/\_/\_/\(_/\_)/\UP _ _ _ _ _ _/\_/\_ from Pr.h (HyP.h h));obtain⟨rfl,rfl,_,_,_,_,_,_⟩:=h))|(replace h:=Pr.h (HyP.h h);(first|(obtain⟨_,_,_,_,_⟩:=h)|(obtain⟨_,_⟩:=h)))|(replace h:=Pr.h (HyP.h h))|skip)|(refine And.intro ?_ ?_))
theorem h85:∃fn,E.fn 85=some fn:=⟨_,aA func85 rfl rfl rfl⟩
def k86(w0:World):Ctr:=⟨[.sc (.str),.sc i6],[.ag [i6,i6,.str],.sc i6,.sc i6],fun a=>rS 0 a fun sa0=>rI 1 a fun a1=>Pr (sa0<=1099511627776/\1<=a1/\a1<=2199023255552),fun a r=>match a,r with|[.str s,.int _ q],[.agg [.int _ k,.int _ sq,.str D],.int _ n,.int _ e]=>Pr (0<=n/\n<=((s.data.toList.length:Nat):Int)/\(e=0->4<=n)/\((D.data.toList.length:Nat):Int)<=1099511627776/\RcP s.data.toList q k sq D.data.toList n e)|_,_=>Pr False,0,none⟩
set_option maxHeartbeats 1000000 in
theorem c86(w0:World):CtrOk prog (TBw w0) 86 (k86 w0):=by
 refine aC (AN:=[]) (DR:=dr0) aB tOk (aYu w0) (aA func86 rfl rfl rfl) ?_
 repeat' ((conv=>whnf);first|exact True.intro|(first|(refine Sp.yes ?_ ?_;(·exact rfl))|(refine Sp.no ?_ ?_;(·decide)))|(refine Sp.mk ?_ ?_<;>intro h)|(refine Ob.mk ?_ ?_;(·first|omega|((conv=>whnf);refine Pr.mk ?_;first|omega|(repeat' (first|refine And.intro ?_ ?_|omega|(simp only[List.length_nil];omega)|(exact rfl)|(exact RcP.op ‹_› ‹_› (by omega))|(exact RcP.er ‹_› ‹_› ‹_› ‹_› ‹_› (by omega))|(exact RcP.lf ‹_› ‹_› ‹_› ‹_› (by omega) (by omega) (by omega))|(exact RcP.kd ‹_› ‹_› ‹_› ‹_› (by omega) (by omega))|(exact RcP.sq ‹_› ‹_› ‹_› ‹_› (by omega) (by omega))|(exact RcP.ok ‹_› ‹_› ‹_› ‹_› (by omega) (by omega) (by omega) (by omega) rfl (by omega) rfl rfl (by omega)))))))|(refine Wr.ex ?_ ?_ ?_;(·omega);(·omega))|(refine Kb.mk ?_ ?_;(·kernel_rfl))|(intro h;first|(replace h:=HyX.h h;(skip);(try simp only[bK,rngI,and_true,true_and,Int.reduceToNat,Int.reducePow,Int.reduceAdd] at h);(try (have q:=And.left h;clear q;obtain⟨_,_⟩:=h)))|((replace h:=(show _/\_/\_/\_/\_/\TP _ _ _ _ _ _ _ from Pr.h (HyP.h h));obtain⟨rfl,rfl,_,_,_,_⟩:=h))|((replace h:=(show _/\_/\_/\_/\(_/\_)/\UP _ _ _ _ _ _/\_/\_ from Pr.h (HyP.h h));obtain⟨rfl,rfl,_,_,_,_,_,_⟩:=h))|(replace h:=Pr.h (HyP.h h);(first|(obtain⟨_,_,_,_,_⟩:=h)|(obtain⟨_,_,_⟩:=h)))|skip))
theorem h86:∃fn,E.fn 86=some fn:=⟨_,aA func86 rfl rfl rfl⟩
def k25(w0:World):Ctr:=⟨[.sc i6,.sc (.row 32 [i6,i6,.str])],[.sc i6,.sc i6],fun a=>rI 0 a fun a0=>rL 1 a fun la1=>rR 1 a fun Ra1=>Pr (1<=a0/\a0<=1073741824/\la1<=4/\AllB rcQ Ra1 la1),fun a r=>rI 0 r fun r0=>rI 1 r fun r1=>Pr (0<=r0/\r0<=10000000/\r1=0),0,none⟩
set_option maxHeartbeats 1000000 in
theorem c25(w0:World):CtrOk prog (TBw w0) 25 (k25 w0):=by
 refine aC (AN:=[(6,⟨[23,24],[(8,none),(25,none)],[],[],[],[],[],fun f0 h0 fr hp=>gI 25 fr fun t25=>gI 24 fr fun t24=>gI 8 fr fun t8=>Pr (0<=t25/\t25<=t24/\(0<=t8/\t8<=1048700+1048600*t25)),.sub (.sl 24) (.sl 25),0⟩)]) (DR:=dr0) aB tOk (aYu w0) (aA func25 rfl rfl rfl) ?_
 repeat' ((conv=>whnf);first|exact True.intro|(refine Sp.mk ?_ ?_<;>intro h)|(refine Ob.mk ?_ ?_;(·first|omega|((conv=>whnf);refine Pr.mk ?_;omega)))|(refine Wr.ex ?_ ?_ ?_;(·omega);(·omega))|(refine Ag.mk ?_ ?_;(·(exact rfl)))|(intro h;first|(replace h:=HyX.h h;(skip);(try simp only[bK,rngI,and_true,true_and,Int.reduceToNat,Int.reducePow,Int.reduceAdd] at h);(try (have q:=And.left h;clear q;obtain⟨_,_⟩:=h)))|((have q:=AllB.elt h ‹_› (by omega) (by omega);obtain⟨_,_,_,_⟩:=q))|(replace h:=Pr.h (HyP.h h);(first|(obtain⟨_,_,_,_⟩:=h)|(obtain⟨_,_,_⟩:=h)))|skip)|(exfalso;omega))
theorem h25:∃fn,E.fn 25=some fn:=⟨_,aA func25 rfl rfl rfl⟩
def Cw6(w0:World):CTb:=(85,k85 w0)::(86,k86 w0)::(25,k25 w0)::Cw5 w0
theorem bDt(w0:World):AllC E (TBw w0) (Cw6 w0):=.cons (c85 w0) h85 (.cons (c86 w0) h86 (.cons (c25 w0) h25 (aYu w0)))
def k54(w0:World):Ctr:=⟨[.sc (.str)],[.sc i6,.sc (.row 32 [i6,i6,.str]),.sc i6,.sc i6],fun a=>rS 0 a fun sa0=>Pr (sa0<=1099511627776),fun a r=>rI 2 r fun r2=>rS 0 a fun sa0=>rL 1 r fun lr1=>rR 1 r fun Rr1=>rT 0 a fun Ta0=>rI 0 r fun r0=>Pr (0<=r2/\r2<=sa0/\lr1<=sa0/\AllB rdS Rr1 lr1/\ScP Ta0.data.toList r0 Rr1),0,none⟩
set_option maxHeartbeats 1000000 in
theorem c54(w0:World):CtrOk prog (TBw w0) 54 (k54 w0):=by
 refine aC (AN:=[(4,⟨[0],[(2,none),(3,some (32,[i6,i6,.str])),(4,none)],[],[],[],[],[],fun f0 h0 fr hp=>gI 2 fr fun t2=>gI 2 f0 fun t2e=>gI 4 fr fun t4=>gS 0 fr fun s0=>gL 3 fr hp fun aNc=>gR 3 fr hp fun R3=>gT 0 fr fun T0=>Pr (t2=t2e/\0<=t4/\t4<=s0/\aNc<=t4/\AllB rdS R3 aNc/\SjP T0.data.toList R3 t4),.sub (.ln 0) (.sl 4),0⟩)]) (DR:=dr0) aB tOk (bDt w0) (aA func54 rfl rfl rfl) ?_
 repeat' ((conv=>whnf);first|exact True.intro|(refine Sp.mk ?_ ?_<;>intro h)|(refine Ob.mk ?_ ?_;(·first|omega|((conv=>whnf);refine Pr.mk ?_;first|omega|(repeat' (first|refine And.intro ?_ ?_|omega|(simp only[List.length_nil];omega)|(exact SjP.init ‹_› (by omega))|(exact SjP.step ‹_› (by omega) ‹_› ‹_› (by omega) rfl ‹_› ‹_› rfl)|(exact AllB.nil)|(apply AllB.appE;(·assumption);(·assumption);(·assumption);(·exact bDq (by omega)))|(exact ScP.hd ‹_› ‹_›)|(exact ScP.er ‹_› (by omega) ‹_› (by omega) ‹_› ‹_› (by omega) rfl)|(exact ScP.done ‹_› (by omega) ‹_› (by omega)))))))|(refine Wr.ex ?_ ?_ ?_;(·omega);(·omega))|(refine Ag.mk ?_ ?_;(·first|exact rfl|(repeat' (first|exact rfl|refine And.intro ?_ ?_))))|(intro h;first|(replace h:=HyX.h h;(skip);(try simp only[bK,rngI,and_true,true_and,Int.reduceToNat,Int.reducePow,Int.reduceAdd] at h);(try (have q:=And.left h;clear q;obtain⟨_,_⟩:=h)))|((replace h:=(show _=_/\_/\_/\_/\_/\SjP _ _ _ from Pr.h (HyP.h h));obtain⟨rfl,_,_,_,_,_⟩:=h))|(replace h:=Pr.h (HyP.h h);(first|(obtain⟨_,_,_,_,_⟩:=h)|(obtain⟨_,_,_⟩:=h)))|(replace h:=Pr.h (HyP.h h))|skip))
theorem h54:∃fn,E.fn 54=some fn:=⟨_,aA func54 rfl rfl rfl⟩
def w9(w0:World):IW:=bI E TT (Cw6 w0) (TBw w0) [(7,⟨[5,6,53,54],[(55,none)],[],[],[],[],[],fun f0 h0 fr hp=>gI 55 fr fun t55=>gI 54 fr fun t54=>Pr (0<=t55/\t55<=t54),.sub (.sl 54) (.sl 55),3⟩)] dr0 Tryz.f9
theorem c9(w0:World):bW E (TBw w0) 9 (w9 w0):=aS aB tOk (bDt w0) (fun c hb=>aA func9 hb rfl rfl)
def k9(w0:World):Ctr:=⟨[],[],fun _=>True,fun _ _=>True,0,some (.inl (w9 w0))⟩
theorem h9:∃fn,E.fn 9=some fn:=⟨_,aA func9 rfl rfl rfl⟩
def Cw7(w0:World):CTb:=(54,k54 w0)::(9,k9 w0)::Cw6 w0
theorem okw7(w0:World):AllC E (TBw w0) (Cw7 w0):=.cons (c54 w0) h54 (.inl (c9 w0) h9 (bDt w0))
def w44(w0:World):IW:=bI E TT (Cw7 w0) (TBw w0) [] dr0 f44
theorem c44(w0:World):bW E (TBw w0) 44 (w44 w0):=aS aB tOk (okw7 w0) (fun c hb=>aA func44 hb rfl rfl)
def k44(w0:World):Ctr:=⟨[],[],fun _=>True,fun _ _=>True,0,some (.inl (w44 w0))⟩
theorem h44:∃fn,E.fn 44=some fn:=⟨_,aA func44 rfl rfl rfl⟩
def Cw8(w0:World):CTb:=(44,k44 w0)::Cw7 w0
theorem bAj(w0:World):AllC E (TBw w0) (Cw8 w0):=.inl (c44 w0) h44 (okw7 w0)
def w12(w0:World):IW:=bI E TT (Cw8 w0) (TBw w0) [] dr0 f12
theorem c12(w0:World):bW E (TBw w0) 12 (w12 w0):=aS aB tOk (bAj w0) (fun c hb=>aA func12 hb rfl rfl)
def k12(w0:World):Ctr:=⟨[],[],fun _=>True,fun _ _=>True,0,some (.inl (w12 w0))⟩
theorem h12:∃fn,E.fn 12=some fn:=⟨_,aA func12 rfl rfl rfl⟩
def k42(w0:World):Ctr:=⟨[.ag kDo],[.sc (.str),.sc i6],fun _=>Pr True,fun a r=>match a,r with|[.agg cs],[.str s,.int _ e]=>Pr ((e=0->(DOk (cs.map cSV)/\chi w0 (cs.map cSV)=0)/\s.data.toList=enV (cs.map cSV)/\((s.data.toList.length:Nat):Int)<=1048576)/\(¬e=0->s=⟨#[]⟩))|_,_=>Pr False,0,none⟩
set_option maxHeartbeats 1000000 in
theorem c42(w0:World):CtrOk prog (TBw w0) 42 (k42 w0):=by
 refine aC (AN:=[]) (DR:=dr0) aB tOk (bAj w0) (aA func42 rfl rfl rfl) ?_
 repeat' ((conv=>whnf);first|exact True.intro|(refine Sp.mk ?_ ?_<;>intro h)|(refine Ob.mk ?_ ?_;(·first|((conv=>whnf);exact Pr.mk ((show(_:Int)=0->DOk _ by assumption) ‹_›))|omega|((conv=>whnf);refine Pr.mk ?_;first|exact True.intro|omega|(repeat' (first|refine And.intro ?_ ?_|omega|(intro e;assumption)|(intro e;exact⟨⟨(show(_:Int)=0->DOk _ by assumption) ‹_›,(show _=chi _ _ by assumption).symm.trans ‹_›⟩,en_of ‹_› ‹_› ((show(_:Int)=0->_=frV _/\_ by assumption) ‹_›).1 ‹_›,by omega⟩))))))|(refine Wr.ex ?_ ?_ ?_;(·omega);(·omega))|(refine Kb.mk ?_ ?_;(·kernel_rfl))|(intro h;first|(replace h:=HyX.h h;(skip);(try simp only[bK,rngI,and_true,true_and,Int.reduceToNat,Int.reducePow,Int.reduceAdd] at h);(try (have q:=And.left h;clear q;obtain⟨_,_⟩:=h)))|(replace h:=Pr.h (HyP.h h);(first|(obtain⟨_,_,_,_,_,_⟩:=h)|(obtain⟨_,_,_⟩:=h)|(obtain⟨_,_⟩:=h)))|skip))
theorem h42:∃fn,E.fn 42=some fn:=⟨_,aA func42 rfl rfl rfl⟩
def k55(w0:World):Ctr:=⟨[.sc (.str)],[.ag kDo,.sc i6],fun a=>rS 0 a fun sa0=>Pr (sa0<=1099511627776),fun a r=>match a,r with|[.str s],[.agg cs,.int _ e]=>Pr (DcP (chi w0) s.data.toList (cs.map cSV) e)|_,_=>Pr False,0,none⟩
set_option maxHeartbeats 1000000 in
theorem c55(w0:World):CtrOk prog (TBw w0) 55 (k55 w0):=by
 refine aC (AN:=[]) (DR:=dr0) aB tOk (bAj w0) (aA func55 rfl rfl rfl) ?_
 repeat' ((conv=>whnf);first|exact True.intro|(first|(refine Sp.yes ?_ ?_;(·exact rfl))|(refine Sp.no ?_ ?_;(·decide)))|(refine Sp.mk ?_ ?_<;>intro h)|(refine Ob.mk ?_ ?_;(·first|omega|((conv=>whnf);refine Pr.mk ?_;first|exact True.intro|omega|(repeat' (first|refine And.intro ?_ ?_|omega|(exact rfl)|(exact DcP.big ‹_›)|(exact DcP.nop ‹_› ‹_›)|(exact DcP.op ‹_› ‹_› ‹_› (by omega))|(exact DcP.ex ‹_› ‹_› ‹_› (by omega))|(exact DcP.ck ‹_› ‹_› ‹_› ‹_› ‹_› (by omega))|(exact DcP.rd ‹_› ‹_› ‹_› ‹_› (by omega))|(exact DcP.lf ‹_› ‹_› ‹_› ‹_› (by omega) (by omega))|(exact DcP.ok ‹_› ‹_› ‹_› (by omega)))))))|(refine Wr.ex ?_ ?_ ?_;(·omega);(·omega))|(refine Kb.mk ?_ ?_;(·kernel_rfl))|(intro h;first|(replace h:=HyX.h h;(skip);(try simp only[bK,rngI,and_true,true_and,Int.reduceToNat,Int.reducePow,Int.reduceAdd] at h);(try (have q:=And.left h;clear q;obtain⟨_,_⟩:=h)))|((replace h:=(show _/\_/\_/\_/\VC _ _ _ _ _ _ _ _ from Pr.h (HyP.h h));obtain⟨rfl,rfl,_,_,_⟩:=h))|(replace h:=Pr.h (HyP.h h);(first|(obtain⟨_,_,_,_,_⟩:=h)|(obtain⟨_,_⟩:=h)))|(replace h:=Pr.h (HyP.h h))|skip)|(refine And.intro ?_ ?_))
theorem h55:∃fn,E.fn 55=some fn:=⟨_,aA func55 rfl rfl rfl⟩
def Cw9(w0:World):CTb:=(12,k12 w0)::(42,k42 w0)::(55,k55 w0)::Cw8 w0
theorem bGc(w0:World):AllC E (TBw w0) (Cw9 w0):=.inl (c12 w0) h12 (.cons (c42 w0) h42 (.cons (c55 w0) h55 (bAj w0)))
def k13(w0:World):Ctr:=⟨[.ag kDo,.sc i6],[.sc (.str),.sc i6],fun a=>match a with|[_,.int _ g]=>Pr (g=1)|_=>Pr False,fun a r=>match a,r with|[.agg cs,_],[.str s,.int _ e]=>Pr (e=0->(DOk (cs.map cSV)/\chi w0 (cs.map cSV)=0)/\s.data.toList=jrB (enV (cs.map cSV))/\((s.data.toList.length:Nat):Int)<=1048576)|_,_=>Pr False,0,none⟩
set_option maxHeartbeats 1000000 in
theorem c13(w0:World):CtrOk prog (TBw w0) 13 (k13 w0):=by
 refine aC (AN:=[]) (DR:=dr0) aB tOk (bGc w0) (aA func13 rfl rfl rfl) ?_
 repeat' ((conv=>whnf);first|exact True.intro|(refine Sp.mk ?_ ?_<;>intro h)|(refine Ob.mk ?_ ?_;(·first|omega|((conv=>whnf);refine Pr.mk ?_;first|exact True.intro|omega|(repeat' ((intro e;exact⟨((show(_:Int)=0->(DOk _/\_)/\_/\_ by assumption) (by omega)).1,jr_of ‹_› ((show(_:Int)=0->_=hdB _ by assumption) (by omega)) ((show(_:Int)=0->_=frV _ by assumption) (by omega)) ((show(_:Int)=0->(DOk _/\_)/\_/\_ by assumption) (by omega)).2.1,by omega⟩))))))|(refine Wr.ex ?_ ?_ ?_;(·omega);(·omega))|(refine Kb.mk ?_ ?_;(·kernel_rfl))|(intro h;first|(replace h:=HyX.h h;(skip);(try simp only[bK,rngI,and_true,true_and,Int.reduceToNat,Int.reducePow,Int.reduceAdd] at h);(try (have q:=And.left h;clear q;obtain⟨_,_⟩:=h)))|(replace h:=Pr.h (HyP.h h);(first|(obtain⟨_,_,_,_,_,_⟩:=h)|(obtain⟨_,_,_,_,_⟩:=h)|(obtain⟨_,_,_⟩:=h)|(obtain⟨_,_⟩:=h)))|skip)|(exfalso;omega))
theorem h13:∃fn,E.fn 13=some fn:=⟨_,aA func13 rfl rfl rfl⟩
def k23(w0:World):Ctr:=⟨[.sc (.str)],[.ag [i6,.row 32 [i6,i6,.str],i6,i6,i6,.row 440 kNo,i6,i6,i6,.row 8 [i6],.row 32 [.str,.str],.row 80 [i6,.str,i6,i6,i6,i6,.row 32 [i6,i6,i6,i6]]],.sc (.bool)],fun a=>rS 0 a fun sa0=>Pr (sa0<=1099511627776),fun a r=>match a,r with|[.str j],[.agg (.int _ g::.row _ _ l::ds),.bool ok]=>Pr (ExP (chi w0) j.data.toList g l (ds.map cSV) ok)|_,_=>Pr False,0,none⟩
set_option maxHeartbeats 1000000 in
theorem c23(w0:World):CtrOk prog (TBw w0) 23 (k23 w0):=by
 refine aC (AN:=[]) (DR:=dr0) aB tOk (bGc w0) (aA func23 rfl rfl rfl) ?_
 repeat' ((conv=>whnf);first|exact True.intro|(refine Sp.mk ?_ ?_<;>intro h)|(refine Ob.mk ?_ ?_;(·first|omega|((conv=>whnf);refine Pr.mk ?_;first|omega|(repeat' (first|(exact ExP.gn ‹_› (by omega))|(exact ExP.ln ‹_› (by omega))|(exact ExP.kn ‹_› ‹_› ‹_›)|(exact ExP.dn ‹_› ‹_› ‹_› ‹_›)|(exact ExP.ok ‹_› ‹_› (by omega) ‹_› (by omega)))))))|(intro h;first|(replace h:=HyX.h h;(skip);(try simp only[bK,rngI,and_true,true_and,Int.reduceToNat,Int.reducePow,Int.reduceAdd] at h);(try (have q:=And.left h;clear q;obtain⟨_,_⟩:=h)))|((have q:=AllB.elt h (show AllB rdS _ _ by assumption) (by omega) (by omega);unfold rdS at q))|(replace h:=Pr.h (HyP.h h);((obtain⟨_,_,_,_,_⟩:=h)))|(replace h:=Pr.h (HyP.h h))|skip))
theorem h23:∃fn,E.fn 23=some fn:=⟨_,aA func23 rfl rfl rfl⟩
def aZb(w0:World):CTb:=(13,k13 w0)::(23,k23 w0)::Cw9 w0
theorem aWa(w0:World):AllC E (TBw w0) (aZb w0):=.cons (c13 w0) h13 (.cons (c23 w0) h23 (bGc w0))
def w4(w0:World):IW:=bI E TT (aZb w0) (TBw w0) [] dr0 Tryz.f4
theorem c4(w0:World):bW E (TBw w0) 4 (w4 w0):=aS aB tOk (aWa w0) (fun c hb=>aA func4 hb rfl rfl)
def k4(w0:World):Ctr:=⟨[],[],fun _=>True,fun _ _=>True,0,some (.inl (w4 w0))⟩
theorem h4:∃fn,E.fn 4=some fn:=⟨_,aA func4 rfl rfl rfl⟩
def w6(w0:World):IW:=bI E TT (aZb w0) (TBw w0) [(12,⟨[4,8,10],[],[10],[],[],[],[],fun f0 h0 fr hp=>gI 63 fr fun t63=>gI 66 fr fun t66=>Pr (0<=t63/\t63<=t66),.sub (.sl 66) (.sl 63),3⟩)] ⟨[(17,([],false)),(18,([],false))],[],[17,18],[],[17,18]⟩ Tryz.f6
theorem c6(w0:World):bW E (TBw w0) 6 (w6 w0):=aS aB tOk (aWa w0) (fun c hb=>aA func6 hb rfl rfl)
def k6(w0:World):Ctr:=⟨[],[],fun _=>True,fun _ _=>True,0,some (.inl (w6 w0))⟩
theorem h6:∃fn,E.fn 6=some fn:=⟨_,aA func6 rfl rfl rfl⟩
def Cw11(w0:World):CTb:=(4,k4 w0)::(6,k6 w0)::aZb w0
theorem okw11(w0:World):AllC E (TBw w0) (Cw11 w0):=.inl (c4 w0) h4 (.inl (c6 w0) h6 (aWa w0))
def k3(w0:World):Ctr:=⟨[.ag kDo,.sc (.int .u16)],[.sc (.bool)],fun a=>match a with|[.agg cs,_]=>Pr (DOk (cs.map cSV)->gF (cs.map cSV))|_=>Pr False,fun _ r=>match r with|[.bool true]=>Pr True|_=>Pr False,0,none⟩
set_option maxHeartbeats 40000000 in
theorem c3(w0:World):CtrOk prog (TBw w0) 3 (k3 w0):=by
 refine aC (AN:=[]) (DR:=⟨[(9,([7,5,4000007,4000005],true))],[],[],[],[]⟩) aB tOk (okw11 w0) (aA func3 rfl rfl rfl) ?_
 repeat' ((conv=>whnf);first|exact True.intro|(first|(refine Sp.yes ?_ ?_;(·exact rfl))|(refine Sp.no ?_ ?_;(·decide)))|(refine sF ?_ ?_;(·decide))|(intro h;first|((have q:=(show(_:List (List CT))=_ by with_reducible exact h);clear h;(try simp only[List.map_cons,List.map_nil,cSV,elC,Int.toNat_zero,List.getElem?_cons_zero,List.getElem?_cons_succ,Option.getD_some,List.set_cons_zero,List.take_succ_cons,List.take_zero,List.drop_succ_cons,List.drop_zero,List.cons_append,List.nil_append,fV,Nat.reduceAdd,Nat.zero_add,Nat.succ_eq_add_one] at q);subst q))|((have q:=(show(_:List CT)=_ by with_reducible exact h);clear h;(try simp only[List.map_cons,List.map_nil,cSV,elC,Int.toNat_zero,List.getElem?_cons_zero,List.getElem?_cons_succ,Option.getD_some,List.set_cons_zero,List.take_succ_cons,List.take_zero,List.drop_succ_cons,List.drop_zero,List.cons_append,List.nil_append,fV,Nat.reduceAdd,Nat.zero_add,Nat.succ_eq_add_one] at q);subst q))|(exact absurd (show List.length (_::_)=0 by with_reducible exact h) (Nat.succ_ne_zero _))|(with_reducible exact absurd rfl (HyX.h h))|((have q9:=bCc (show EqX (.str _::_) (.str _::_) by(exact HyX.h h));exact absurd ((show _->false=true by assumption) (by omega)) (by decide)))|(replace h:=HyX.h h;(skip);(try simp only[bK,rngI,and_true,true_and,Int.reduceToNat,Int.reducePow,Int.reduceAdd] at h);(try (have q:=And.left h;clear q;obtain⟨_,_⟩:=h)))|((replace h:=Pr.h (HyP.h h);first|(exact(bEg (show ExP _ _ _ _ _ true from h) (by first|exact rfl|assumption) ((show DOk _->gF _ by assumption) ((show(_:Int)=0->(DOk _/\chi _ _=0)/\_=jrB _/\_ by assumption) (by omega)).1.1) ((show(_:Int)=0->(DOk _/\chi _ _=0)/\_=jrB _/\_ by assumption) (by omega)).1.2 ((show(_:Int)=0->(DOk _/\chi _ _=0)/\_=jrB _/\_ by assumption) (by omega)).2.1 ((show(_:Int)=0->(DOk _/\chi _ _=0)/\_=jrB _/\_ by assumption) (by omega)).2.2).elim)|(have q:=aVx (show ExP _ _ _ _ _ _ from h) ((show DOk _->gF _ by assumption) ((show(_:Int)=0->(DOk _/\chi _ _=0)/\_=jrB _/\_ by assumption) (by omega)).1.1) ((show(_:Int)=0->(DOk _/\chi _ _=0)/\_=jrB _/\_ by assumption) (by omega)).1.2 ((show(_:Int)=0->(DOk _/\chi _ _=0)/\_=jrB _/\_ by assumption) (by omega)).2.1 ((show(_:Int)=0->(DOk _/\chi _ _=0)/\_=jrB _/\_ by assumption) (by omega)).2.2 (by(exact Eq.trans ‹_› ‹_›));replace q:=q.1 rfl;obtain⟨_,_,_,_,_⟩:=q;replace h:=True.intro)|(have q:=aVx (show ExP _ _ _ _ _ _ from h) ((show DOk _->gF _ by assumption) ((show(_:Int)=0->(DOk _/\chi _ _=0)/\_=jrB _/\_ by assumption) (by omega)).1.1) ((show(_:Int)=0->(DOk _/\chi _ _=0)/\_=jrB _/\_ by assumption) (by omega)).1.2 ((show(_:Int)=0->(DOk _/\chi _ _=0)/\_=jrB _/\_ by assumption) (by omega)).2.1 ((show(_:Int)=0->(DOk _/\chi _ _=0)/\_=jrB _/\_ by assumption) (by omega)).2.2 (by(exact Eq.trans ‹_› ‹_›));replace q:=q.2;replace h:=True.intro)|(replace h:=bEt (show gF _->_=_ from h) (by first|assumption|exact(show gF _->_=_ by assumption) ((show DOk _->gF _ by assumption) ((show(_:Int)=0->(DOk _/\chi _ _=0)/\_=jrB _/\_ by assumption) (by omega)).1.1)) ((show DOk _->gF _ by assumption) ((show(_:Int)=0->(DOk _/\chi _ _=0)/\_=jrB _/\_ by assumption) (by omega)).1.1))|(have q:=bDk (show _=chi _ _/\_ from h).1 ‹_› ((show(_:Int)=0->(DOk _/\chi _ _=0)/\_=jrB _/\_ by assumption) (by omega)).1.2;clear h;subst q)|(exact(show False from h).elim)|(have q:=(show _=cond false _ _ by with_reducible exact h);replace h:=True.intro;subst q)|(have q:=(show _=cond false _ _/\_=cond false _ _ by with_reducible exact h);obtain⟨q1,q2⟩:=q;replace q1:=congrArg (fun s:ByteArray=>s.data.toList) (q1.trans (QF _ _));replace q2:=congrArg (fun s:ByteArray=>s.data.toList) (q2.trans (QF _ _));dsimp only at q1 q2;have q3:=congrArg List.length q1;have q4:=congrArg List.length q2;(try simp only[List.length_nil] at q4);replace h:=True.intro)|(have q:=(show _/\_/\(_/\_->_=(0:Int)) by with_reducible exact h).2.2 ⟨by omega,by exact rfl⟩;clear h;subst q)|(first|(obtain⟨_,_,_,_,_,_⟩:=h)|(obtain⟨_,_⟩:=h))|skip))|(subst h)|skip)|(apply Wr.cl;(·simp only[Int.reduceAdd];exact rfl);(·decide);(·decide))|(refine Sp.mk ?_ ?_<;>intro h<;>(try simp only[List.length_cons,List.length_nil,cI,cV,List.getElem?_cons_zero,List.getElem?_cons_succ,Nat.zero_add,Nat.reduceAdd] at h)<;>(first|(exfalso;revert h;decide)|(exfalso;omega)|skip))|(refine Ob.mk ?_ ?_;(·first|((conv=>whnf);first|exact Pr.mk rfl|exact Pr.mk True.intro|exact Pr.mk ((by assumption:_=_).trans (Eq.symm ‹_›))|exact Pr.mk ‹_› |exact Pr.mk ⟨by omega,by omega,by omega,tk_B ‹_› ‹_›⟩)|omega|(dsimp only;omega)|((conv=>whnf);refine Pr.mk ?_;omega)))|(refine Wr.ex ?_ ?_ ?_;(·omega);(·omega))|(refine Kb.mk ?_ ?_;(·kernel_rfl))|(refine Sf.no ?_)|(refine And.intro ?_ ?_)|(exfalso;omega))
theorem h3:∃fn,E.fn 3=some fn:=⟨_,aA func3 rfl rfl rfl⟩
end
end Go.Proofs.YtfcmggoiphphnaaGreatDoor
