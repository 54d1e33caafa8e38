/-
  Functions keep what is said of them.
-/
import Derived.Test.YtfcmggoiphphnaaGreatDoorWk
set_option linter.unusedVariables false
set_option linter.unusedSimpArgs false
set_option maxRecDepth 100000
namespace Go.Proofs.YtfcmggoiphphnaaGreatDoor
open Go Go.AM Tryz
set_option maxHeartbeats 80000000
theorem c321:CtrOk prog TB 321 k321:=by
 refine aC (AN:=[(3,⟨[1,8,9],[(5,some (16,[i6,i6])),(10,none)],[],[],[],[],[],fun f0 h0 fr hp=>gI 10 fr fun t10=>gI 9 fr fun t9=>gL 5 fr hp fun len5=>Pr (0<=t10/\t10<=t9/\(len5<=t10)),.sub (.sl 9) (.sl 10),0⟩),(8,⟨[1],[(5,none)],[],[(5,16,[i6,i6])],[],[],[],fun f0 h0 fr hp=>gL 5 fr hp fun len5=>gL 5 f0 h0 fun len5e=>Pr (len5<=len5e),.ln 5,0⟩)]) (DR:=dr0) aB tOk AllC.nil (aA func321 rfl rfl rfl) ?_
 repeat' ((conv=>whnf);first|exact True.intro|(refine Sp.mk ?_ ?_<;>intro h)|(refine Ob.mk ?_ ?_;(·first|omega|((conv=>whnf);refine Pr.mk ?_;first|omega|(repeat' (first|refine And.intro ?_ ?_|omega|(simp only[List.length_nil];omega))))))|(refine Wr.ex ?_ ?_ ?_;(·omega);(·omega))|(refine Kb.mk ?_ ?_;(·kernel_rfl))|(refine Ag.mk ?_ ?_;(·first|exact rfl|(repeat' (first|exact rfl|refine And.intro ?_ ?_))))|(refine Sf.no ?_)|(intro h;first|(replace h:=Pr.h (HyP.h h))|skip)|(refine And.intro ?_ ?_))
theorem c102:CtrOk prog TB 102 k102:=by
 refine aC (AN:=[(4,⟨[0,1,12],[(13,none)],[],[],[],[],[],fun f0 h0 fr hp=>gI 13 fr fun t13=>gI 12 fr fun t12=>Pr (0<=t13/\t13<=t12),.sub (.sl 12) (.sl 13),0⟩)]) (DR:=dr0) aB tOk AllC.nil (aA func102 rfl rfl rfl) ?_
 repeat' ((conv=>whnf);first|exact True.intro|(first|(refine Sp.yes ?_ ?_;(·exact rfl))|(refine Sf.eq ?_ ?_;(·exact rfl)))|(refine Sp.mk ?_ ?_<;>intro h)|(refine Ob.mk ?_ ?_;(·first|omega|((conv=>whnf);refine Pr.mk ?_;first|exact True.intro|omega)))|(refine Wr.ex ?_ ?_ ?_;(·omega);(·omega))|(refine Kb.mk ?_ ?_;(·kernel_rfl))|(refine Ag.mk ?_ ?_;(·(exact rfl)))|(intro h;first|(replace h:=Pr.h (HyP.h h);(first|(obtain⟨_,_,_,_,_,_⟩:=h)|(obtain⟨_,_⟩:=h)))|(subst h)|skip)|(exfalso;omega))
theorem c372:aU E TB 372 i372:=by
 refine aT (AN:=[(3,⟨[0,7,8],[(3,none),(9,none)],[],[],[],[],[],fun f0 h0 fr hp=>gI 9 fr fun t9=>gI 8 fr fun t8=>gI 3 fr fun t3=>gL 0 fr hp fun len0=>Pr (0<=t9/\t9<=t8/\(t3≠0->1<=len0)),.sub (.sl 8) (.sl 9),0⟩)]) (DR:=dr0) aB tOk AllC.nil (aA func372 rfl rfl rfl) ?_
 repeat' ((conv=>whnf);first|exact True.intro|(refine Sp.mk ?_ ?_<;>intro h)|(refine Ob.mk ?_ ?_;(·first|omega|((conv=>whnf);refine Pr.mk ?_;omega)))|(refine Wr.ex ?_ ?_ ?_;(·omega);(·omega))|(refine Wr.in' ?_;intro z h1 h2)|(refine Ag.mk ?_ ?_;(·first|exact rfl|(repeat' (first|exact rfl|refine And.intro ?_ ?_))))|(refine Rm.ex ?_ ?_ ?_;(·omega);(·omega);intro z h1 h2 h3)|(intro h;first|(replace h:=Pr.h (HyP.h h))|skip))
theorem c244:CtrOk prog TB 244 k244:=by
 refine aC (AN:=[]) (DR:=dr0) aB tOk AllC.nil (aA func244 rfl rfl rfl) ?_
 repeat' ((conv=>whnf);first|exact True.intro|(refine Sp.mk ?_ ?_<;>intro h)|(refine Ob.mk ?_ ?_;(·first|omega|((conv=>whnf);refine Pr.mk ?_;(exact True.intro))))|(refine Wr.ex ?_ ?_ ?_;(·omega);(·omega))|(refine Wr.in' ?_;intro z h1 h2)|(refine Qu.in' ?_;intro z h1 h2)|(refine Rm.in' ?_;intro z h1 h2)|(intro h;first|(replace h:=Pr.h (HyP.h h))|skip))
theorem c255:CtrOk prog TB 255 k255:=by
 refine aC (AN:=[]) (DR:=dr0) aB tOk AllC.nil (aA func255 rfl rfl rfl) ?_
 repeat' ((conv=>whnf);first|exact True.intro|(refine Sp.mk ?_ ?_<;>intro h)|(refine Ob.mk ?_ ?_;(·first|omega|((conv=>whnf);refine Pr.mk ?_;first|exact True.intro|omega)))|(refine Rm.ex ?_ ?_ ?_;(·omega);(·omega);intro z h1 h2 h3)|(intro h;first|(replace h:=Pr.h (HyP.h h))|skip))
theorem c157:CtrOk prog TB 157 k157:=by
 refine aC (AN:=[]) (DR:=dr0) aB tOk AllC.nil (aA func157 rfl rfl rfl) ?_
 repeat' ((conv=>whnf);first|exact True.intro|(first|(refine Sp.yes ?_ ?_;(·exact rfl))|(refine Sp.no ?_ ?_;(·decide)))|(refine Sp.mk ?_ ?_<;>intro h)|(refine Ob.mk ?_ ?_;(·((conv=>whnf);refine Pr.mk ?_;omega)))|(intro h;first|(replace h:=Pr.h (HyP.h h))|skip))
theorem c172:CtrOk prog TB 172 k172:=by
 refine aC (AN:=[]) (DR:=dr0) aB tOk AllC.nil (aA func172 rfl rfl rfl) ?_
 repeat' ((conv=>whnf);first|exact True.intro|(refine Ob.mk ?_ ?_;(·((conv=>whnf);refine Pr.mk ?_;(repeat' (first|refine And.intro ?_ ?_|omega|(assumption))))))|(intro h;first|(replace h:=Pr.h (HyP.h h);((obtain⟨_,_,_,_,_,_⟩:=h)))|skip))
theorem c109:CtrOk prog TB 109 k109:=by
 refine aC (AN:=[]) (DR:=dr0) aB tOk AllC.nil (aA func109 rfl rfl rfl) ?_
 repeat' ((conv=>whnf);first|exact True.intro|(refine Sp.mk ?_ ?_<;>intro h)|(refine Ob.mk ?_ ?_;(·((conv=>whnf);refine Pr.mk ?_;(exact True.intro))))|(intro h;first|(replace h:=Pr.h (HyP.h h))|skip))
theorem c152:CtrOk prog TB 152 k152:=by
 refine aC (AN:=[]) (DR:=dr0) aB tOk AllC.nil (aA func152 rfl rfl rfl) ?_
 repeat' ((conv=>whnf);first|exact True.intro|(refine Sp.mk ?_ ?_<;>intro h)|(refine Ob.mk ?_ ?_;(·((conv=>whnf);refine Pr.mk ?_;(exact True.intro))))|(intro h;first|(replace h:=Pr.h (HyP.h h))|skip))
theorem c376:CtrOk prog TB 376 k376:=by
 refine aC (AN:=[]) (DR:=dr0) aB tOk AllC.nil (aA func376 rfl rfl rfl) ?_
 repeat' ((conv=>whnf);first|exact True.intro|(refine Sp.mk ?_ ?_<;>intro h)|(refine Ob.mk ?_ ?_;(·((conv=>whnf);refine Pr.mk ?_;(exact True.intro))))|(intro h;first|(replace h:=Pr.h (HyP.h h))|skip))
theorem c286:CtrOk prog TB 286 k286:=by
 refine aC (AN:=[]) (DR:=dr0) aB tOk AllC.nil (aA func286 rfl rfl rfl) ?_
 repeat' ((conv=>whnf);first|exact True.intro|(refine Sp.mk ?_ ?_<;>intro h)|(refine Ob.mk ?_ ?_;(·((conv=>whnf);refine Pr.mk ?_;omega)))|(intro h;first|(replace h:=Pr.h (HyP.h h))|skip))
theorem c338:CtrOk prog TB 338 k338:=by
 refine aC (AN:=[]) (DR:=dr0) aB tOk AllC.nil (aA func338 rfl rfl rfl) ?_
 repeat' ((conv=>whnf);first|exact True.intro|(refine Ob.mk ?_ ?_;(·((conv=>whnf);refine Pr.mk ?_;omega)))|(intro h;first|(replace h:=Pr.h (HyP.h h))|skip))
theorem c185:bW E TB 185 w185:=aS aB tOk AllC.nil (fun c hb=>aA func185 hb rfl rfl)
theorem c463:aAj prog 463 3:=⟨_,func463,rfl,rfl,rfl⟩
theorem c295(hC:AllC E TB C1):aU E TB 295 i295:=by
 refine aT (AN:=[(4,⟨[0,1,11],[(6,some (16,[i6,i6])),(7,none),(12,none)],[],[],[],[],[],fun f0 h0 fr hp=>gI 12 fr fun t12=>gI 11 fr fun t11=>gL 6 fr hp fun len6=>gBL 0 3 fr hp fun lenB0_3=>gR 6 fr hp fun R6=>Pr (0<=t12/\t12<=t11/\(len6<=t12/\AllB (fun c=>0<=cI c 0/\cI c 0<lenB0_3) R6 len6)),.sub (.sl 11) (.sl 12),0⟩)]) (DR:=dr0) aB tOk hC (aA func295 rfl rfl rfl) ?_
 repeat' ((conv=>whnf);first|exact True.intro|(refine Ix.gen ?_)|(refine Sp.mk ?_ ?_<;>intro h)|(refine Ob.mk ?_ ?_;(·first|omega|((conv=>whnf);refine Pr.mk ?_;first|omega|(repeat' (first|refine And.intro ?_ ?_|omega|(simp only[List.length_nil];omega)|(first|exact AllB.nil|(refine AllB.app ?_ ?_;(·assumption);constructor<;>(rw[cI_hd];omega))))))))|(refine Wr.ex ?_ ?_ ?_;(·omega);(·omega))|(refine Wr.in' ?_;intro z h1 h2)|(refine Kb.mk ?_ ?_;(·kernel_rfl))|(refine Ag.mk ?_ ?_;(·first|exact rfl|(repeat' (first|exact rfl|exact True.intro|refine And.intro ?_ ?_))))|(intro h;first|(have q:=AllB.elt h ‹_› (by omega) (by omega);(try dsimp only at q))|(replace h:=Pr.h (HyP.h h);obtain⟨_,_,_,_⟩:=h)|(replace h:=Pr.h (HyP.h h))|(subst h)|skip))
theorem c298(hC:AllC E TB C1):CtrOk prog TB 298 k298:=by
 refine aC (AN:=[(3,⟨[0,1],[(5,some (56,[i6,i6,i6,i6,i6,i6,i6])),(6,none)],[],[],[],[],[],fun f0 h0 fr hp=>gI 6 fr fun t6=>gL 5 fr hp fun len5=>Pr (0<=t6/\t6<=7/\len5<=8*t6),.sub (.cst 7) (.sl 6),0⟩),(7,⟨[0,1,5,6],[(7,none)],[],[],[],[],[],fun f0 h0 fr hp=>gI 6 fr fun t6=>gI 7 fr fun t7=>Pr (0<=t6/\t6<=t7/\t7<=6),.sub (.cst 7) (.sl 7),0⟩)]) (DR:=dr0) aB tOk hC (aA func298 rfl rfl rfl) ?_
 repeat' ((conv=>whnf);first|exact True.intro|(refine Sp.mk ?_ ?_<;>intro h)|(refine Ob.mk ?_ ?_;(·first|omega|((conv=>whnf);refine Pr.mk ?_;first|exact True.intro|omega|(repeat' (first|refine And.intro ?_ ?_|omega|(simp only[List.length_nil];omega))))))|(refine Wr.ex ?_ ?_ ?_;(·omega);(·omega))|(refine Wr.in' ?_;intro z h1 h2)|(refine Ag.mk ?_ ?_;(·first|exact rfl|(repeat' (first|exact rfl|refine And.intro ?_ ?_))))|(refine An.ex ?_ ?_ ?_;(·omega);(·omega);intro z h1 h2)|(intro h;first|(replace h:=Pr.h (HyP.h h))|skip))
theorem c159(hC:AllC E TB C1):aU E TB 159 i159:=by
 refine aT (AN:=[(2,⟨[0,1,7],[(8,none)],[0,1],[],[],[],[],fun f0 h0 fr hp=>gI 8 fr fun t8=>gI 7 fr fun t7=>gL 0 fr hp fun len0=>gL 0 f0 h0 fun len0e=>Pr (0<=t8/\t8<=t7/\len0=len0e),.sub (.sl 7) (.sl 8),0⟩)]) (DR:=dr0) aB tOk hC (aA func159 rfl rfl rfl) ?_
 repeat' ((conv=>whnf);first|exact True.intro|(refine Sp.mk ?_ ?_<;>intro h)|(refine Ob.mk ?_ ?_;(·first|omega|((conv=>whnf);refine Pr.mk ?_;first|exact True.intro|omega)))|(refine Wr.ex ?_ ?_ ?_;(·omega);(·omega))|(refine Ag.mk ?_ ?_;(·first|exact rfl|(repeat' (first|exact rfl|exact True.intro|refine And.intro ?_ ?_))))|(intro h;first|(replace h:=Pr.h (HyP.h h))|skip)|(refine And.intro ?_ ?_))
theorem c207(hC:AllC E TB C1):CtrOk prog TB 207 k207:=by
 refine aC (AN:=[(7,⟨[5,21,22],[(23,none)],[],[],[],[],[],fun f0 h0 fr hp=>gI 23 fr fun t23=>gI 22 fr fun t22=>Pr (0<=t23/\t23<=t22),.sub (.sl 22) (.sl 23),0⟩)]) (DR:=dr0) aB tOk hC (aA func207 rfl rfl rfl) ?_
 repeat' ((conv=>whnf);first|exact True.intro|(refine Sp.mk ?_ ?_<;>intro h)|(refine Ob.mk ?_ ?_;(·first|omega|((conv=>whnf);refine Pr.mk ?_;first|exact True.intro|omega)))|(refine Wr.ex ?_ ?_ ?_;(·omega);(·omega))|(refine Ag.mk ?_ ?_;(·(exact rfl)))|(intro h;first|(replace h:=Pr.h (HyP.h h))|skip))
theorem c375(hC:AllC E TB C2):CtrOk prog TB 375 k375:=by
 refine aC (AN:=[(7,⟨[19,20],[(21,none)],[],[],[],[],[],fun f0 h0 fr hp=>gI 21 fr fun t21=>gI 20 fr fun t20=>Pr (0<=t21/\t21<=t20),.sub (.sl 20) (.sl 21),0⟩),(10,⟨[19,20,21,26],[(27,none)],[],[],[],[],[],fun f0 h0 fr hp=>gI 27 fr fun t27=>Pr (0<=t27),.sub (.cst 3) (.sl 27),0⟩)]) (DR:=dr0) aB tOk hC (aA func375 rfl rfl rfl) ?_
 repeat' ((conv=>whnf);first|exact True.intro|(refine Ix.gen ?_)|(refine Sp.mk ?_ ?_<;>intro h)|(refine Ob.mk ?_ ?_;(·first|omega|((conv=>whnf);refine Pr.mk ?_;first|exact True.intro|omega)))|(refine Wr.ex ?_ ?_ ?_;(·omega);(·omega))|(refine Ag.mk ?_ ?_;(·first|exact rfl|(repeat' (first|exact rfl|exact True.intro|refine And.intro ?_ ?_))))|(intro h;first|(replace h:=Pr.h (HyP.h h))|skip)|(refine And.intro ?_ ?_))
theorem c38(hC:AllC E TB C2):CtrOk prog TB 38 k38:=by
 refine aC (AN:=[]) (DR:=dr0) aB tOk hC (aA func38 rfl rfl rfl) ?_
 repeat' ((conv=>whnf);first|exact True.intro|((refine Sp.yes ?_ ?_;(·exact rfl)))|(refine Ob.mk ?_ ?_;(·first|((conv=>whnf);exact Pr.mk rfl)|((conv=>whnf);refine Pr.mk ?_;(exact True.intro))))|(intro h;first|((have q:=tJ (ks:=kL) (Pr.h (HyP.h h));simp only[aN,kSV,kL,Nat.zero_add,Nat.reduceAdd] at q;rw[q];clear h))|(exact absurd rfl (HyX.h h))|(replace h:=HyX.h h;(skip);(try simp only[bK,rngI,and_true,true_and,Int.reduceToNat,Int.reducePow,Int.reduceAdd] at h);(try (have q:=And.left h;clear q;obtain⟨_,_⟩:=h)))|(replace h:=Pr.h (HyP.h h);((obtain⟨_,_,_,_,_,_⟩:=h)))|skip)|(refine And.intro ?_ ?_)|(exfalso;omega))
theorem c122(hC:AllC E TB C2):CtrOk prog TB 122 k122:=by
 refine aC (AN:=[]) (DR:=dr0) aB tOk hC (aA func122 rfl rfl rfl) ?_
 repeat' ((conv=>whnf);first|exact True.intro|(refine Ob.mk ?_ ?_;(·((conv=>whnf);refine Pr.mk ?_;first|omega|(repeat' (first|refine And.intro ?_ ?_|omega)))))|(refine Wr.ex ?_ ?_ ?_;(·omega);(·omega))|(refine Kb.mk ?_ ?_;(·kernel_rfl))|(intro h;first|(replace h:=HyX.h h;(skip);(try simp only[bK,rngI,and_true,true_and,Int.reduceToNat,Int.reducePow,Int.reduceAdd] at h);(try (have q:=And.left h;clear q;obtain⟨_,_⟩:=h)))|(replace h:=Pr.h (HyP.h h);((obtain⟨_,_,_⟩:=h)))|(replace h:=Pr.h (HyP.h h))|skip))
theorem c199(hC:AllC E TB C2):CtrOk prog TB 199 k199:=by
 refine aC (AN:=[]) (DR:=⟨[(1,([2],false))],[],[],[],[]⟩) aB tOk hC (aA func199 rfl rfl rfl) ?_
 repeat' ((conv=>whnf);first|exact True.intro|(refine Ob.mk ?_ ?_;(·((conv=>whnf);refine Pr.mk ?_;(exact True.intro))))|(refine Kb.mk ?_ ?_;(·kernel_rfl))|(intro h;first|(replace h:=Pr.h (HyP.h h))|skip))
theorem c201(hC:AllC E TB C2):CtrOk prog TB 201 k201:=by
 refine aC (AN:=[]) (DR:=dr0) aB tOk hC (aA func201 rfl rfl rfl) ?_
 repeat' ((conv=>whnf);first|exact True.intro|(refine Ob.mk ?_ ?_;(·((conv=>whnf);refine Pr.mk ?_;(exact True.intro))))|(refine Wr.in' ?_;intro z h1 h2)|(intro h;first|(replace h:=Pr.h (HyP.h h))|skip))
theorem c169(hC:AllC E TB C3):aU E TB 169 i169:=by
 refine aT (AN:=[(5,⟨[0,1,2,3,9],[(10,none)],[2,3,9],[],[],[],[],fun f0 h0 fr hp=>gU 9 fr hp fun U9=>gR 2 fr hp fun R2=>gI 10 fr fun t10=>gI 0 fr fun t0=>gI 1 fr fun t1=>gL 2 fr hp fun len2=>gL 2 f0 h0 fun len2e=>Pr (U9++gG eN ((R2.map mI).drop t10.toNat)=eN t0++(eN t1++gG eN (R2.map mI))/\1<=U9.length/\U9.length<=20+20*t10/\0<=t10/\t10<=len2/\len2=len2e),.sub (.ln 2) (.sl 10),0⟩),(7,⟨[0,1,2,3,9,10],[(11,none)],[],[],[],[],[],fun f0 h0 fr hp=>gI 10 fr fun t10=>gI 11 fr fun t11=>gL 2 fr hp fun len2=>gR 2 fr hp fun R2=>Pr (t10<t11/\t11<=len2/\Same mI R2 t10 t11),.sub (.ln 2) (.sl 11),0⟩),(11,⟨[0,1,2,3,9,11,54,55],[(56,none)],[9],[],[],[],[],fun f0 h0 fr hp=>gI 56 fr fun t56=>gI 55 fr fun t55=>gU 9 fr hp fun U9=>gU 9 f0 h0 fun U9e=>gR 54 fr hp fun R54=>gL 54 fr hp fun len54=>Pr (0<=t56/\t56<=t55/\(U9=U9e++eF fN (R54.take t56.toNat)/\U9e.length<=U9.length/\U9.length<=U9e.length+10*t56/\AllB okM R54 len54)),.sub (.sl 55) (.sl 56),0⟩)]) (DR:=dr0) aB tOk hC (aA func169 rfl rfl rfl) ?_
 repeat' ((conv=>whnf);first|exact True.intro|(refine Sp.mk ?_ ?_<;>intro h)|(refine Ob.mk ?_ ?_;(·first|omega|((conv=>whnf);refine Pr.mk ?_;first|exact True.intro|omega|(repeat' (first|refine And.intro ?_ ?_|omega|(exact aGj ‹_› ‹_› ‹_› ‹_› ‹_›)|(exact Same.init)|(exact Same.step ‹_› (mI_eq ‹_› ‹_› ‹_›))|(exact aKv ‹_› (by omega) ‹_›)|(exact rY ‹_› ‹_› (by omega) (by omega) (by omega) (fun hh=>absurd hh (by omega)) ‹_› ‹_› ‹_› (by omega) (hR_I ‹_› ‹_›))|(exact rY ‹_› ‹_› (by omega) (by omega) (by omega) (fun _=>mI_ne ‹_› ‹_› ‹_›) ‹_› ‹_› ‹_› (by omega) (hR_I ‹_› ‹_›))|(exact jQ ‹_› ‹_› ‹_› ‹_› (by omega) (by omega))|(exact aEm trivial)|(exact okN_I ‹_› rfl ‹_›))))))|(refine Wr.ex ?_ ?_ ?_;(·omega);(·omega))|(refine Kb.mk ?_ ?_;(·kernel_rfl))|(refine Ag.mk ?_ ?_;(·(exact rfl)))|(intro h;first|(replace h:=HyX.h h;(skip);(try simp only[bK,rngI,and_true,true_and,Int.reduceToNat,Int.reducePow,Int.reduceAdd] at h);(try (have q:=And.left h;clear q;obtain⟨_,_⟩:=h)))|(have q:=aIh (show AllB _ _ _ by assumption) (by omega) (by omega) h)|(replace h:=Pr.h (HyP.h h);(first|(obtain⟨_,_,_,_,_,_⟩:=h)|(obtain⟨_,_,_⟩:=h)|(obtain⟨_,_⟩:=h)))|skip))
theorem c158(hC:AllC E TB C3):CtrOk prog TB 158 k158:=by
 refine aC (AN:=[]) (DR:=dr0) aB tOk hC (aA func158 rfl rfl rfl) ?_
 repeat' ((conv=>whnf);first|exact True.intro|(refine Ob.mk ?_ ?_;(·((conv=>whnf);refine Pr.mk ?_;first|exact True.intro|omega)))|(refine Kb.mk ?_ ?_;(·kernel_rfl))|(refine Sf.no ?_)|(intro h;first|((have q:=EqX.h (HyX.h h);simp only[oA,and_true] at q))|((have q:=EqX.no (HyX.h h);simp only[oA,and_true] at q))|(replace h:=Pr.h (HyP.h h))|skip)|(refine And.intro ?_ ?_))
theorem c150(hC:AllC E TB C3):CtrOk prog TB 150 k150:=by
 refine aC (AN:=[]) (DR:=dr0) aB tOk hC (aA func150 rfl rfl rfl) ?_
 repeat' ((conv=>whnf);first|exact True.intro|(refine Ob.mk ?_ ?_;(·((conv=>whnf);refine Pr.mk ?_;(exact True.intro))))|(refine Kb.mk ?_ ?_;(·kernel_rfl))|(refine Sf.no ?_)|(intro h;first|(replace h:=Pr.h (HyP.h h))|skip)|(refine And.intro ?_ ?_))
theorem c115(hC:AllC E TB C4):∀k,aU E TB 115 (bBv k):=by
 refine aEx (fun ss hl h=>by
  simp only[bBv,rI,rL,oL,oI,oR,oCL] at h
  repeat' split at h
  all_goals first|exact h.elim|(have:=Pr.h h;omega)) fun k hk=>?_
 refine aT (C:=(115,⟨[],[],fun _=>True,fun _ _=>True,0,some (.ctr (bBv k))⟩)::C4) (AN:=[(5,⟨[0,1,2,3,4,29,30],[(31,none)],[1,2,3,4],[],[],[],[],fun f0 h0 fr hp=>gI 31 fr fun t31=>gI 30 fr fun t30=>gBL 1 0 fr hp fun lenB1_0=>gBL 1 0 f0 h0 fun lenB1_0e=>gBL 2 0 fr hp fun lenB2_0=>gBL 2 0 f0 h0 fun lenB2_0e=>gBL 3 3 fr hp fun lenB3_3=>gBL 3 3 f0 h0 fun lenB3_3e=>gBR 2 0 fr hp fun RB2_0=>gBR 2 0 f0 h0 fun RB2_0e=>gL 29 fr hp fun len29=>gL 29 f0 h0 fun len29e=>Pr (0<=t31/\t31<=t30/\(lenB1_0=lenB1_0e/\lenB2_0=lenB2_0e/\lenB3_3=lenB3_3e/\((uD RB2_0:Nat):Int)<=((uD RB2_0e:Nat):Int))/\len29=len29e),.sub (.sl 30) (.sl 31),0⟩)]) (DR:=dr0) aB tOk (AllC.io hk ⟨_,aA func115 rfl rfl rfl⟩ hC) (aA func115 rfl rfl rfl) ?_
 repeat' ((conv=>whnf);first|exact True.intro|(refine Sp.mk ?_ ?_<;>intro h)|(refine Ob.mk ?_ ?_;(·first|omega|((conv=>whnf);refine Pr.mk ?_;omega)))|(refine Wr.ex ?_ ?_ ?_;(·omega);(·omega))|(refine Ag.mk ?_ ?_;(·first|exact rfl|(repeat' (first|exact rfl|exact True.intro|refine And.intro ?_ ?_))))|(intro h;first|(have q:=AllB.elt h ‹_› (by omega) (by omega);(try dsimp only at q))|(have q:=aOt h (by omega) (by omega) ‹_› ‹_› (by exact rfl))|(replace h:=Pr.h (HyP.h h))|skip)|(refine And.intro ?_ ?_))
theorem c124(hC:AllC E TB C4):CtrOk prog TB 124 k124:=by
 refine aC (AN:=[]) (DR:=dr0) aB tOk hC (aA func124 rfl rfl rfl) ?_
 repeat' ((conv=>whnf);first|exact True.intro|(refine Sp.mk ?_ ?_<;>intro h)|(refine Ob.mk ?_ ?_;(·((conv=>whnf);refine Pr.mk ?_;first|exact True.intro|(repeat' (first|refine And.intro ?_ ?_|omega|(simp only[List.length_nil];omega)|(have q:=(show(_:Int)=0->MOk _ _ _ by assumption) ‹_›;unfold MOk SzOk at q;omega)|(exact((show(_:Int)=0->MOk _ _ _ by assumption) ‹_›).2)|(exact AllB.nil)|(intro e;exact absurd ((show MOk _ _ _->_ by assumption) e) ‹_›)|(intro e;assumption)|(have q:=(show(_:Int)=0->MOk _ _ _ by assumption) ‹_›;have q:=SzOk.len q.1;omega)|(simp only[List.length_nil] at*;omega))))))|(refine Kb.mk ?_ ?_;(·kernel_rfl))|(intro h;first|(replace h:=HyX.h h;(skip);(try simp only[bK,rngI,and_true,true_and,Int.reduceToNat,Int.reducePow,Int.reduceAdd] at h);(try (have q:=And.left h;clear q;obtain⟨_,_⟩:=h)))|(replace h:=Pr.h (HyP.h h);(first|(obtain⟨_,_,_,_,_,_⟩:=h)|(obtain⟨_,_,_⟩:=h)|(obtain⟨_,_⟩:=h)))|skip))
theorem c33(hC:AllC E TB C4):aU E TB 33 i33:=by
 refine aT (AN:=[(4,⟨[1,2,15,16],[(17,none)],[2],[],[],[],[],fun f0 h0 fr hp=>gI 17 fr fun t17=>gI 16 fr fun t16=>Pr (0<=t17/\t17<=t16),.sub (.sl 16) (.sl 17),0⟩)]) (DR:=dr0) aB tOk hC (aA func33 rfl rfl rfl) ?_
 repeat' ((conv=>whnf);first|exact True.intro|((refine Sp.yes ?_ ?_;(·exact rfl)))|(refine Sp.mk ?_ ?_<;>intro h)|(refine Ob.mk ?_ ?_;(·first|((conv=>whnf);exact Pr.mk rfl)|omega|((conv=>whnf);refine Pr.mk ?_;first|exact True.intro|omega)))|(refine Wr.ex ?_ ?_ ?_;(·omega);(·omega))|(refine Ag.mk ?_ ?_;(·(exact rfl)))|(intro h;first|(replace h:=HyX.h h;(skip);(try simp only[bK,rngI,and_true,true_and,Int.reduceToNat,Int.reducePow,Int.reduceAdd] at h);(try (have q:=And.left h;clear q;obtain⟨_,_⟩:=h)))|(replace h:=Pr.h (HyP.h h);(first|(obtain⟨_,_,_,_,_,_⟩:=h)|(obtain⟨_,_⟩:=h)))|(subst h)|skip)|(refine And.intro ?_ ?_)|(exfalso;omega))
theorem c292(hC:AllC E TB C4):CtrOk prog TB 292 k292:=by
 refine aC (AN:=[(5,⟨[1,2,3,17],[(18,none)],[],[],[],[],[],fun f0 h0 fr hp=>gI 18 fr fun t18=>gI 17 fr fun t17=>Pr (0<=t18/\t18<=t17),.sub (.sl 17) (.sl 18),0⟩)]) (DR:=dr0) aB tOk hC (aA func292 rfl rfl rfl) ?_
 repeat' ((conv=>whnf);first|exact True.intro|(refine Sp.mk ?_ ?_<;>intro h)|(refine Ob.mk ?_ ?_;(·first|omega|((conv=>whnf);refine Pr.mk ?_;first|exact True.intro|omega)))|(refine Wr.ex ?_ ?_ ?_;(·omega);(·omega))|(refine Ag.mk ?_ ?_;(·first|exact rfl|(repeat' (first|exact rfl|exact True.intro|refine And.intro ?_ ?_))))|(intro h;first|(replace h:=Pr.h (HyP.h h))|skip)|(refine And.intro ?_ ?_))
theorem c151(hC:AllC E TB C4):CtrOk prog TB 151 k151:=by
 refine aC (AN:=[]) (DR:=⟨[(7,([6],false))],[],[],[],[]⟩) aB tOk hC (aA func151 rfl rfl rfl) ?_
 repeat' ((conv=>whnf);first|exact True.intro|(refine Sp.mk ?_ ?_<;>intro h)|(refine Ob.mk ?_ ?_;(·((conv=>whnf);refine Pr.mk ?_;(exact True.intro))))|(refine Wr.in' ?_;intro z h1 h2)|(refine Kb.mk ?_ ?_;(·kernel_rfl))|(intro h;first|(replace h:=Pr.h (HyP.h h))|skip))
theorem c190(hC:AllC E TB C4):bW E TB 190 w190:=aS aB tOk hC (fun c hb=>aA func190 hb rfl rfl)
theorem c189(hC:AllC E TB C4):bW E TB 189 w189:=aS aB tOk hC (fun c hb=>aA func189 hb rfl rfl)
theorem c141(hC:AllC E TB C5):aU E TB 141 i141:=by
 refine aT (AN:=[]) (DR:=dr0) aB tOk hC (aA func141 rfl rfl rfl) ?_
 repeat' ((conv=>whnf);first|exact True.intro|(first|(refine Sp.yes ?_ ?_;(·exact rfl))|(refine Sp.no ?_ ?_;(·decide))|(refine Wr.mul ?_ ?_ ?_ ?_;(·omega);(·omega);(·omega);intro _ _))|(refine Sp.mk ?_ ?_<;>intro h)|(refine Ob.mk ?_ ?_;(·first|omega|((conv=>whnf);refine Pr.mk ?_;(repeat' (first|refine And.intro ?_ ?_|omega|(exact rfl)|(exact RJ.init rfl)|(exact aMi (by omega) (by omega))|(exact aFe)|(exact aFo ‹_› ‹_› ‹_› (by omega))|(exact RJ.next ‹_› ‹_› rfl ‹_› (VP.I ‹_›) ‹_› (by omega))|(exact QR.no ‹_› ‹_› (bDb ‹_›))|(exact QR.ok ‹_› ‹_› ‹_› ‹_›)|(exact QR.err ‹_› ‹_› ‹_› ‹_›)|(exact QR.err2 ‹_› ‹_› ‹_› ‹_› rfl ‹_› (VP.I ‹_›) ‹_›)|(exact QR.dup ‹_› ‹_› ‹_› ‹_› rfl ‹_› (VP.I ‹_›) ‹_› rfl (by omega) mI_un ‹_›))))))|(refine Wr.ex ?_ ?_ ?_;(·omega);(·omega))|(refine Ag.mk ?_ ?_;(·first|exact rfl|(repeat' (first|exact rfl|exact True.intro|refine And.intro ?_ ?_))))|(intro h;first|(replace h:=HyX.h h;(skip);(try simp only[bK,rngI,and_true,true_and,Int.reduceToNat,Int.reducePow,Int.reduceAdd] at h);(try (have q:=And.left h;clear q;obtain⟨_,_⟩:=h)))|(replace h:=Pr.h (HyP.h h);(first|(obtain⟨rfl,rfl,_,_,_,_⟩:=h)|(obtain⟨rfl,_,_,_⟩:=h)|(obtain⟨_,_,_,_⟩:=h)))|skip))
theorem c378(hC:AllC E TB C5):CtrOk prog TB 378 k378:=by
 refine aC (AN:=[(11,⟨[1,2,3,9],[(0,none),(10,none)],[9],[],[],[],[],fun f0 h0 fr hp=>gI 10 fr fun t10=>gI 3 fr fun t3=>gL 9 fr hp fun len9=>gS 0 fr fun s0=>gS 0 f0 fun s0e=>gR 9 fr hp fun R9=>gL 9 f0 h0 fun len9e=>Pr (0<=t10/\t10<=t3/\len9=t3+1/\s0<=s0e/\AllB (fun c=>cSl c<=s0e) R9 t10/\len9=len9e),.sub (.sl 3) (.sl 10),0⟩)]) (DR:=dr0) aB tOk hC (aA func378 rfl rfl rfl) ?_
 repeat' ((conv=>whnf);first|exact True.intro|(refine Sp.mk ?_ ?_<;>intro h)|(refine Ob.mk ?_ ?_;(·first|omega|(dsimp only;omega)|((conv=>whnf);refine Pr.mk ?_;first|omega|(repeat' (first|refine And.intro ?_ ?_|omega|(first|exact AllB.zero|(refine AllB.set ?_ ?_ ?_ ?_;(·assumption);(·omega);(·omega);(·((try dsimp only);((rw[aCm]));omega)))|(refine AllB.take (AllB.mono (AllB.set ?_ ?_ ?_ ?_) ?_) ?_;(·assumption);(·omega);(·omega);(·((try dsimp only);((rw[aCm]));omega));(·omega);(·omega))))))))|(refine Wr.ex ?_ ?_ ?_;(·omega);(·omega))|(refine Kb.mk ?_ ?_;(·kernel_rfl))|(refine Ag.mk ?_ ?_;(·first|exact rfl|(repeat' (first|exact rfl|refine And.intro ?_ ?_))))|(intro h;first|(replace h:=Pr.h (HyP.h h);obtain⟨_,_,_,_,_,_⟩:=h)|(replace h:=Pr.h (HyP.h h))|(subst h)|skip)|(refine And.intro ?_ ?_)|(exfalso;omega))
theorem c331(hC:AllC E TB C6):bW E TB 331 w331:=aS aB tOk hC (fun c hb=>aA func331 hb rfl rfl)
theorem c154(hC:AllC E TB C10):CtrOk prog TB 154 k154:=by
 refine aC (AN:=[]) (DR:=dr0) aB tOk hC (aA func154 rfl rfl rfl) ?_
 repeat' ((conv=>whnf);first|exact True.intro|(refine Sp.mk ?_ ?_<;>intro h)|(refine Ob.mk ?_ ?_;(·((conv=>whnf);refine Pr.mk ?_;first|exact True.intro|omega|(repeat' (first|refine And.intro ?_ ?_|omega|(intro e;intro k;(exact(show(_:Int)=0->IOk _ _ _ by assumption) (by omega))))))))|(intro h;first|(replace h:=Pr.h (HyP.h h);(first|(obtain⟨_,_,_,_,_,_⟩:=h)|(obtain⟨_,_⟩:=h)))|(replace h:=Pr.h (HyP.h h))|skip))
end Go.Proofs.YtfcmggoiphphnaaGreatDoor
