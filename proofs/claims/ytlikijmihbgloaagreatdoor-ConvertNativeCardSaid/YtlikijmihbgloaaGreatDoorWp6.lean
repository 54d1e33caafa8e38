/-
  Functions keep what is said of them.
-/
import Derived.Test.YtlikijmihbgloaaGreatDoorWk
set_option linter.unusedVariables false
set_option linter.unusedSimpArgs false
set_option maxRecDepth 100000
namespace Go.Proofs.YtlikijmihbgloaaGreatDoor
open Go Go.AM Tryz
set_option maxHeartbeats 80000000
theorem c409:CtrOk prog TB 409 k409:=by
 refine aC (AN:=[(3,⟨[1,8,9],[(5,some (16,[i6,i6])),(10,none)],[],[],[],[],[],fun f0 h0 fr hp=>gI 10 fr fun t10=>gI 9 fr fun t9=>gL 5 fr hp fun len5=>Pr (0<=t10/\t10<=t9/\(len5<=t10)),.sub (.sl 9) (.sl 10),0⟩),(8,⟨[1],[(5,none)],[],[(5,16,[i6,i6])],[],[],[],fun f0 h0 fr hp=>gL 5 fr hp fun len5=>gL 5 f0 h0 fun len5e=>Pr (len5<=len5e),.ln 5,0⟩)]) (DR:=dr0) mixed tOk AllC.nil (aA func409 rfl rfl rfl) ?_
 repeat' ((conv=>whnf);first|exact True.intro|(refine Sp.mk ?_ ?_<;>intro h)|(refine Ob.mk ?_ ?_;(·first|omega|((conv=>whnf);refine Pr.mk ?_;first|omega|(repeat' (first|refine And.intro ?_ ?_|omega|(simp only[List.length_nil];omega))))))|(refine Wr.ex ?_ ?_ ?_;(·omega);(·omega))|(refine Kb.mk ?_ ?_;(·kernel_rfl))|(refine Ag.mk ?_ ?_;(·first|exact rfl|(repeat' (first|exact rfl|refine And.intro ?_ ?_))))|(refine Sf.no ?_)|(intro h;first|(replace h:=Pr.h (HyP.h h))|skip)|(refine And.intro ?_ ?_))
theorem c161:CtrOk prog TB 161 k161:=by
 refine aC (AN:=[(4,⟨[0,1,12],[(13,none)],[],[],[],[],[],fun f0 h0 fr hp=>gI 13 fr fun t13=>gI 12 fr fun t12=>Pr (0<=t13/\t13<=t12),.sub (.sl 12) (.sl 13),0⟩)]) (DR:=dr0) mixed tOk AllC.nil (aA func161 rfl rfl rfl) ?_
 repeat' ((conv=>whnf);first|exact True.intro|(first|(refine Sp.yes ?_ ?_;(·exact rfl))|(refine Sf.eq ?_ ?_;(·exact rfl)))|(refine Sp.mk ?_ ?_<;>intro h)|(refine Ob.mk ?_ ?_;(·first|omega|((conv=>whnf);refine Pr.mk ?_;first|exact True.intro|omega)))|(refine Wr.ex ?_ ?_ ?_;(·omega);(·omega))|(refine Kb.mk ?_ ?_;(·kernel_rfl))|(refine Ag.mk ?_ ?_;(·(exact rfl)))|(intro h;first|(replace h:=Pr.h (HyP.h h);(first|(obtain⟨_,_,_,_,_,_⟩:=h)|(obtain⟨_,_⟩:=h)))|(subst h)|skip)|(exfalso;omega))
theorem c467:aW E TB 467 i467:=by
 refine aV (AN:=[(3,⟨[0,7,8],[(3,none),(9,none)],[],[],[],[],[],fun f0 h0 fr hp=>gI 9 fr fun t9=>gI 8 fr fun t8=>gI 3 fr fun t3=>gL 0 fr hp fun len0=>Pr (0<=t9/\t9<=t8/\(t3≠0->1<=len0)),.sub (.sl 8) (.sl 9),0⟩)]) (DR:=dr0) mixed tOk AllC.nil (aA func467 rfl rfl rfl) ?_
 repeat' ((conv=>whnf);first|exact True.intro|(refine Sp.mk ?_ ?_<;>intro h)|(refine Ob.mk ?_ ?_;(·first|omega|((conv=>whnf);refine Pr.mk ?_;omega)))|(refine Wr.ex ?_ ?_ ?_;(·omega);(·omega))|(refine Wr.in' ?_;intro z h1 h2)|(refine Ag.mk ?_ ?_;(·first|exact rfl|(repeat' (first|exact rfl|refine And.intro ?_ ?_))))|(refine Rm.ex ?_ ?_ ?_;(·omega);(·omega);intro z h1 h2 h3)|(intro h;first|(replace h:=Pr.h (HyP.h h))|skip))
theorem c203:CtrOk prog TB 203 k203:=by
 refine aC (AN:=[]) (DR:=dr0) mixed tOk AllC.nil (aA func203 rfl rfl rfl) ?_
 repeat' ((conv=>whnf);first|exact True.intro|(refine Sp.mk ?_ ?_<;>intro h)|(refine Ob.mk ?_ ?_;(·first|omega|((conv=>whnf);refine Pr.mk ?_;(exact True.intro))))|(refine Wr.ex ?_ ?_ ?_;(·omega);(·omega))|(refine Wr.in' ?_;intro z h1 h2)|(refine Qu.in' ?_;intro z h1 h2)|(refine Rm.in' ?_;intro z h1 h2)|(intro h;first|(replace h:=Pr.h (HyP.h h))|skip))
theorem c111:CtrOk prog TB 111 k111:=by
 refine aC (AN:=[]) (DR:=dr0) mixed tOk AllC.nil (aA func111 rfl rfl rfl) ?_
 repeat' ((conv=>whnf);first|exact True.intro|(first|(refine Sp.yes ?_ ?_;(·exact rfl))|(refine Sp.no ?_ ?_;(·decide)))|(refine Sp.mk ?_ ?_<;>intro h)|(refine Ob.mk ?_ ?_;(·((conv=>whnf);refine Pr.mk ?_;omega)))|(intro h;first|(replace h:=Pr.h (HyP.h h))|skip))
theorem c186:CtrOk prog TB 186 k186:=by
 refine aC (AN:=[]) (DR:=dr0) mixed tOk AllC.nil (aA func186 rfl rfl rfl) ?_
 repeat' ((conv=>whnf);first|exact True.intro|(refine Ob.mk ?_ ?_;(·((conv=>whnf);refine Pr.mk ?_;(repeat' (first|refine And.intro ?_ ?_|omega|(assumption))))))|(intro h;first|(replace h:=Pr.h (HyP.h h);((obtain⟨_,_,_,_,_,_⟩:=h)))|skip))
theorem c241:CtrOk prog TB 241 k241:=by
 refine aC (AN:=[]) (DR:=dr0) mixed tOk AllC.nil (aA func241 rfl rfl rfl) ?_
 repeat' ((conv=>whnf);first|exact True.intro|(refine Sp.mk ?_ ?_<;>intro h)|(refine Ob.mk ?_ ?_;(·((conv=>whnf);refine Pr.mk ?_;(exact True.intro))))|(intro h;first|(replace h:=Pr.h (HyP.h h))|skip))
theorem c361:CtrOk prog TB 361 k361:=by
 refine aC (AN:=[]) (DR:=dr0) mixed tOk AllC.nil (aA func361 rfl rfl rfl) ?_
 repeat' ((conv=>whnf);first|exact True.intro|(refine Sp.mk ?_ ?_<;>intro h)|(refine Ob.mk ?_ ?_;(·((conv=>whnf);refine Pr.mk ?_;(exact True.intro))))|(intro h;first|(replace h:=Pr.h (HyP.h h))|skip))
theorem c87:CtrOk prog TB 87 k87:=by
 refine aC (AN:=[]) (DR:=dr0) mixed tOk AllC.nil (aA func87 rfl rfl rfl) ?_
 repeat' ((conv=>whnf);first|exact True.intro|(refine Sp.mk ?_ ?_<;>intro h)|(refine Ob.mk ?_ ?_;(·((conv=>whnf);refine Pr.mk ?_;(exact True.intro))))|(intro h;first|(replace h:=Pr.h (HyP.h h))|skip))
theorem c124:CtrOk prog TB 124 k124:=by
 refine aC (AN:=[]) (DR:=dr0) mixed tOk AllC.nil (aA func124 rfl rfl rfl) ?_
 repeat' ((conv=>whnf);first|exact True.intro|(refine Ob.mk ?_ ?_;(·((conv=>whnf);refine Pr.mk ?_;omega)))|(intro h;first|(replace h:=Pr.h (HyP.h h))|skip))
theorem c129:fC E TB 129 w129:=cK mixed tOk AllC.nil (fun c hb=>aA func129 hb rfl rfl)
theorem c570:aLv prog 570 3:=⟨_,func570,rfl,rfl,rfl⟩
theorem c369(hC:AllC E TB C1):CtrOk prog TB 369 k369:=by
 refine aC (AN:=[(3,⟨[0,1],[(5,some (56,[i6,i6,i6,i6,i6,i6,i6])),(6,none)],[],[],[],[],[],fun f0 h0 fr hp=>gI 6 fr fun t6=>gL 5 fr hp fun len5=>Pr (0<=t6/\t6<=7/\len5<=8*t6),.sub (.cst 7) (.sl 6),0⟩),(7,⟨[0,1,5,6],[(7,none)],[],[],[],[],[],fun f0 h0 fr hp=>gI 6 fr fun t6=>gI 7 fr fun t7=>Pr (0<=t6/\t6<=t7/\t7<=6),.sub (.cst 7) (.sl 7),0⟩)]) (DR:=dr0) mixed tOk hC (aA func369 rfl rfl rfl) ?_
 repeat' ((conv=>whnf);first|exact True.intro|(refine Sp.mk ?_ ?_<;>intro h)|(refine Ob.mk ?_ ?_;(·first|omega|((conv=>whnf);refine Pr.mk ?_;first|exact True.intro|omega|(repeat' (first|refine And.intro ?_ ?_|omega|(simp only[List.length_nil];omega))))))|(refine Wr.ex ?_ ?_ ?_;(·omega);(·omega))|(refine Wr.in' ?_;intro z h1 h2)|(refine Ag.mk ?_ ?_;(·first|exact rfl|(repeat' (first|exact rfl|refine And.intro ?_ ?_))))|(refine An.ex ?_ ?_ ?_;(·omega);(·omega);intro z h1 h2)|(intro h;first|(replace h:=Pr.h (HyP.h h))|skip))
theorem c172(hC:AllC E TB C1):aW E TB 172 i172:=by
 refine aV (AN:=[(2,⟨[0,1,7],[(8,none)],[0,1],[],[],[],[],fun f0 h0 fr hp=>gI 8 fr fun t8=>gI 7 fr fun t7=>gL 0 fr hp fun len0=>gL 0 f0 h0 fun len0e=>Pr (0<=t8/\t8<=t7/\len0=len0e),.sub (.sl 7) (.sl 8),0⟩)]) (DR:=dr0) mixed tOk hC (aA func172 rfl rfl rfl) ?_
 repeat' ((conv=>whnf);first|exact True.intro|(refine Sp.mk ?_ ?_<;>intro h)|(refine Ob.mk ?_ ?_;(·first|omega|((conv=>whnf);refine Pr.mk ?_;first|exact True.intro|omega)))|(refine Wr.ex ?_ ?_ ?_;(·omega);(·omega))|(refine Ag.mk ?_ ?_;(·first|exact rfl|(repeat' (first|exact rfl|exact True.intro|refine And.intro ?_ ?_))))|(intro h;first|(replace h:=Pr.h (HyP.h h))|skip)|(refine And.intro ?_ ?_))
theorem c251(hC:AllC E TB C1):CtrOk prog TB 251 k251:=by
 refine aC (AN:=[(7,⟨[5,21,22],[(23,none)],[],[],[],[],[],fun f0 h0 fr hp=>gI 23 fr fun t23=>gI 22 fr fun t22=>Pr (0<=t23/\t23<=t22),.sub (.sl 22) (.sl 23),0⟩)]) (DR:=dr0) mixed tOk hC (aA func251 rfl rfl rfl) ?_
 repeat' ((conv=>whnf);first|exact True.intro|(refine Sp.mk ?_ ?_<;>intro h)|(refine Ob.mk ?_ ?_;(·first|omega|((conv=>whnf);refine Pr.mk ?_;first|exact True.intro|omega)))|(refine Wr.ex ?_ ?_ ?_;(·omega);(·omega))|(refine Ag.mk ?_ ?_;(·(exact rfl)))|(intro h;first|(replace h:=Pr.h (HyP.h h))|skip))
theorem c171(hC:AllC E TB C1):CtrOk prog TB 171 k171:=by
 refine aC (AN:=[]) (DR:=dr0) mixed tOk hC (aA func171 rfl rfl rfl) ?_
 repeat' ((conv=>whnf);first|exact True.intro|(refine Sp.mk ?_ ?_<;>intro h)|(refine Ob.mk ?_ ?_;(·((conv=>whnf);refine Pr.mk ?_;first|exact True.intro|omega)))|(refine Kb.mk ?_ ?_;(·kernel_rfl))|(intro h;first|(replace h:=Pr.h (HyP.h h))|skip)|(refine And.intro ?_ ?_))
theorem c470(hC:AllC E TB C2):CtrOk prog TB 470 k470:=by
 refine aC (AN:=[(7,⟨[19,20],[(21,none)],[],[],[],[],[],fun f0 h0 fr hp=>gI 21 fr fun t21=>gI 20 fr fun t20=>Pr (0<=t21/\t21<=t20),.sub (.sl 20) (.sl 21),0⟩),(10,⟨[19,20,21,26],[(27,none)],[],[],[],[],[],fun f0 h0 fr hp=>gI 27 fr fun t27=>Pr (0<=t27),.sub (.cst 3) (.sl 27),0⟩)]) (DR:=dr0) mixed tOk hC (aA func470 rfl rfl rfl) ?_
 repeat' ((conv=>whnf);first|exact True.intro|(refine Ix.gen ?_)|(refine Sp.mk ?_ ?_<;>intro h)|(refine Ob.mk ?_ ?_;(·first|omega|((conv=>whnf);refine Pr.mk ?_;first|exact True.intro|omega)))|(refine Wr.ex ?_ ?_ ?_;(·omega);(·omega))|(refine Ag.mk ?_ ?_;(·first|exact rfl|(repeat' (first|exact rfl|exact True.intro|refine And.intro ?_ ?_))))|(intro h;first|(replace h:=Pr.h (HyP.h h))|skip)|(refine And.intro ?_ ?_))
theorem c32(hC:AllC E TB C2):CtrOk prog TB 32 k32:=by
 refine aC (AN:=[]) (DR:=dr0) mixed tOk hC (aA func32 rfl rfl rfl) ?_
 repeat' ((conv=>whnf);first|exact True.intro|((refine Sp.yes ?_ ?_;(·exact rfl)))|(refine Ob.mk ?_ ?_;(·first|((conv=>whnf);exact Pr.mk rfl)|((conv=>whnf);refine Pr.mk ?_;(exact True.intro))))|(intro h;first|((have q:=eP (ks:=kL) (Pr.h (HyP.h h));simp only[bI,kSV,kL,Nat.zero_add,Nat.reduceAdd] at q;rw[q];clear h))|(exact absurd rfl (HyX.h h))|(replace h:=HyX.h h;(skip);(try simp only[bZ,rngI,and_true,true_and,Int.reduceToNat,Int.reducePow,Int.reduceAdd] at h);(try (have q:=And.left h;clear q;obtain⟨_,_⟩:=h)))|(replace h:=Pr.h (HyP.h h);((obtain⟨_,_,_,_,_,_⟩:=h)))|skip)|(refine And.intro ?_ ?_)|(exfalso;omega))
theorem c100(hC:AllC E TB C2):CtrOk prog TB 100 k100:=by
 refine aC (AN:=[]) (DR:=dr0) mixed tOk hC (aA func100 rfl rfl rfl) ?_
 repeat' ((conv=>whnf);first|exact True.intro|(refine Ob.mk ?_ ?_;(·((conv=>whnf);refine Pr.mk ?_;first|omega|(repeat' (first|refine And.intro ?_ ?_|omega)))))|(refine Wr.ex ?_ ?_ ?_;(·omega);(·omega))|(refine Kb.mk ?_ ?_;(·kernel_rfl))|(intro h;first|(replace h:=HyX.h h;(skip);(try simp only[bZ,rngI,and_true,true_and,Int.reduceToNat,Int.reducePow,Int.reduceAdd] at h);(try (have q:=And.left h;clear q;obtain⟨_,_⟩:=h)))|(replace h:=Pr.h (HyP.h h);((obtain⟨_,_,_⟩:=h)))|(replace h:=Pr.h (HyP.h h))|skip))
theorem c244(hC:AllC E TB C2):CtrOk prog TB 244 k244:=by
 refine aC (AN:=[]) (DR:=⟨[(1,([2],false))],[],[],[]⟩) mixed tOk hC (aA func244 rfl rfl rfl) ?_
 repeat' ((conv=>whnf);first|exact True.intro|(refine Ob.mk ?_ ?_;(·((conv=>whnf);refine Pr.mk ?_;(exact True.intro))))|(refine Kb.mk ?_ ?_;(·kernel_rfl))|(intro h;first|(replace h:=Pr.h (HyP.h h))|skip))
theorem c245(hC:AllC E TB C2):CtrOk prog TB 245 k245:=by
 refine aC (AN:=[]) (DR:=dr0) mixed tOk hC (aA func245 rfl rfl rfl) ?_
 repeat' ((conv=>whnf);first|exact True.intro|(refine Ob.mk ?_ ?_;(·((conv=>whnf);refine Pr.mk ?_;(exact True.intro))))|(refine Wr.in' ?_;intro z h1 h2)|(intro h;first|(replace h:=Pr.h (HyP.h h))|skip))
theorem c183(hC:AllC E TB C3):aW E TB 183 i183:=by
 refine aV (AN:=[(5,⟨[0,1,2,3,9],[(10,none)],[2,3,9],[],[],[],[],fun f0 h0 fr hp=>gU 9 fr hp fun U9=>gR 2 fr hp fun R2=>gI 10 fr fun t10=>gI 0 fr fun t0=>gI 1 fr fun t1=>gL 2 fr hp fun len2=>gL 2 f0 h0 fun len2e=>Pr (U9++iZ eN ((R2.map mI).drop t10.toNat)=eN t0++(eN t1++iZ eN (R2.map mI))/\1<=U9.length/\U9.length<=20+20*t10/\0<=t10/\t10<=len2/\len2=len2e),.sub (.ln 2) (.sl 10),0⟩),(7,⟨[0,1,2,3,9,10],[(11,none)],[],[],[],[],[],fun f0 h0 fr hp=>gI 10 fr fun t10=>gI 11 fr fun t11=>gL 2 fr hp fun len2=>gR 2 fr hp fun R2=>Pr (t10<t11/\t11<=len2/\Same mI R2 t10 t11),.sub (.ln 2) (.sl 11),0⟩),(11,⟨[0,1,2,3,9,11,54,55],[(56,none)],[9],[],[],[],[],fun f0 h0 fr hp=>gI 56 fr fun t56=>gI 55 fr fun t55=>gU 9 fr hp fun U9=>gU 9 f0 h0 fun U9e=>gR 54 fr hp fun R54=>gL 54 fr hp fun len54=>Pr (0<=t56/\t56<=t55/\(U9=U9e++eF fN (R54.take t56.toNat)/\U9e.length<=U9.length/\U9.length<=U9e.length+10*t56/\AllB okM R54 len54)),.sub (.sl 55) (.sl 56),0⟩)]) (DR:=dr0) mixed tOk hC (aA func183 rfl rfl rfl) ?_
 repeat' ((conv=>whnf);first|exact True.intro|(refine Sp.mk ?_ ?_<;>intro h)|(refine Ob.mk ?_ ?_;(·first|omega|((conv=>whnf);refine Pr.mk ?_;first|exact True.intro|omega|(repeat' (first|refine And.intro ?_ ?_|omega|(exact aCr ‹_› ‹_› ‹_› ‹_› ‹_›)|(exact Same.init)|(exact Same.step ‹_› (mI_eq ‹_› ‹_› ‹_›))|(exact aKd ‹_› (by omega) ‹_›)|(exact cO ‹_› ‹_› (by omega) (by omega) (by omega) (fun hh=>absurd hh (by omega)) ‹_› ‹_› ‹_› (by omega) (hR_I ‹_› ‹_›))|(exact cO ‹_› ‹_› (by omega) (by omega) (by omega) (fun _=>mI_ne ‹_› ‹_› ‹_›) ‹_› ‹_› ‹_› (by omega) (hR_I ‹_› ‹_›))|(exact kA ‹_› ‹_› ‹_› ‹_› (by omega) (by omega))|(exact aEa trivial)|(exact okN_I ‹_› rfl ‹_›))))))|(refine Wr.ex ?_ ?_ ?_;(·omega);(·omega))|(refine Kb.mk ?_ ?_;(·kernel_rfl))|(refine Ag.mk ?_ ?_;(·(exact rfl)))|(intro h;first|(replace h:=HyX.h h;(skip);(try simp only[bZ,rngI,and_true,true_and,Int.reduceToNat,Int.reducePow,Int.reduceAdd] at h);(try (have q:=And.left h;clear q;obtain⟨_,_⟩:=h)))|(have q:=aFj (show AllB _ _ _ by assumption) (by omega) (by omega) h)|(replace h:=Pr.h (HyP.h h);(first|(obtain⟨_,_,_,_,_,_⟩:=h)|(obtain⟨_,_,_⟩:=h)|(obtain⟨_,_⟩:=h)))|skip))
theorem c180(hC:AllC E TB C3):CtrOk prog TB 180 k180:=by
 refine aC (AN:=[(3,⟨[3,7,8],[(9,none)],[3],[],[],[],[],fun f0 h0 fr hp=>gI 9 fr fun t9=>gI 8 fr fun t8=>gU 3 fr hp fun U3=>gR 7 fr hp fun R7=>Pr (0<=t9/\t9<=t8/\(U3=eF fB (R7.take t9.toNat)/\t9<=U3.length/\U3.length<=10*t9)),.sub (.sl 8) (.sl 9),0⟩)]) (DR:=dr0) mixed tOk hC (aA func180 rfl rfl rfl) ?_
 repeat' ((conv=>whnf);first|exact True.intro|(refine Sp.mk ?_ ?_<;>intro h)|(refine Ob.mk ?_ ?_;(·first|omega|((conv=>whnf);refine Pr.mk ?_;first|omega|(repeat' (first|refine And.intro ?_ ?_|omega|(exact oZ ‹_› ‹_› (fB_t ‹_› ‹_›) ‹_› (by omega) (by omega))|(exact oZ ‹_› ‹_› (fB_f ‹_› ‹_›) ‹_› (by omega) (by omega))|(exact aTn ‹_› ‹_› (by omega))|(assumption))))))|(refine Wr.ex ?_ ?_ ?_;(·omega);(·omega))|(refine Kb.mk ?_ ?_;(·kernel_rfl))|(refine Ag.mk ?_ ?_;(·(exact rfl)))|(intro h;first|(replace h:=HyX.h h;(skip);(try simp only[bZ,rngI,and_true,true_and,Int.reduceToNat,Int.reducePow,Int.reduceAdd] at h);(try (have q:=And.left h;clear q;obtain⟨_,_⟩:=h)))|(replace h:=Pr.h (HyP.h h);(first|(obtain⟨_,_,_,_,_⟩:=h)|(obtain⟨_,_,_⟩:=h)|(obtain⟨_,_⟩:=h)))|skip))
theorem c93(hC:AllC E TB C3):CtrOk prog TB 93 k93:=by
 refine aC (AN:=[(5,⟨[1,2,18,19],[(5,some (8,[i6])),(20,none)],[],[],[],[],[],fun f0 h0 fr hp=>gI 20 fr fun t20=>gI 19 fr fun t19=>gL 5 fr hp fun len5=>gR 5 fr hp fun R5=>Pr (0<=t20/\t20<=t19/\(len5<=t20/\AllB (fun c=>0<=cI c 0/\cI c 0<t19) R5 len5)),.sub (.sl 19) (.sl 20),0⟩)]) (DR:=dr0) mixed tOk hC (aA func93 rfl rfl rfl) ?_
 repeat' ((conv=>whnf);first|exact True.intro|(refine Sp.mk ?_ ?_<;>intro h)|(refine Ob.mk ?_ ?_;(·first|omega|(dsimp only;omega)|((conv=>whnf);refine Pr.mk ?_;first|exact True.intro|omega|(repeat' (first|refine And.intro ?_ ?_|omega|(simp only[List.length_nil];omega)|(first|(refine AllB.one ?_;constructor<;>(rw[aSa];omega))|exact AllB.nil|(refine AllB.app ?_ ?_;(·assumption);constructor<;>(rw[aSa];omega))))))))|(refine Wr.ex ?_ ?_ ?_;(·omega);(·omega))|(refine Kb.mk ?_ ?_;(·kernel_rfl))|(refine Ag.mk ?_ ?_;(·first|exact rfl|(repeat' (first|exact rfl|exact True.intro|refine And.intro ?_ ?_))))|(intro h;first|(replace h:=Pr.h (HyP.h h);obtain⟨_,_,_,_⟩:=h)|(replace h:=Pr.h (HyP.h h))|(subst h)|skip))
theorem c112(hC:AllC E TB C3):CtrOk prog TB 112 k112:=by
 refine aC (AN:=[]) (DR:=dr0) mixed tOk hC (aA func112 rfl rfl rfl) ?_
 repeat' ((conv=>whnf);first|exact True.intro|(refine Ob.mk ?_ ?_;(·((conv=>whnf);refine Pr.mk ?_;first|exact True.intro|omega)))|(refine Kb.mk ?_ ?_;(·kernel_rfl))|(refine Sf.no ?_)|(intro h;first|((have q:=EqX.h (HyX.h h);simp only[qJ,and_true] at q))|((have q:=EqX.no (HyX.h h);simp only[qJ,and_true] at q))|(replace h:=Pr.h (HyP.h h))|skip)|(refine And.intro ?_ ?_))
theorem c166(hC:AllC E TB C3):CtrOk prog TB 166 k166:=by
 refine aC (AN:=[]) (DR:=dr0) mixed tOk hC (aA func166 rfl rfl rfl) ?_
 repeat' ((conv=>whnf);first|exact True.intro|(refine Ob.mk ?_ ?_;(·((conv=>whnf);refine Pr.mk ?_;(exact True.intro))))|(refine Kb.mk ?_ ?_;(·kernel_rfl))|(refine Sf.no ?_)|(intro h;first|(replace h:=Pr.h (HyP.h h))|skip)|(refine And.intro ?_ ?_))
theorem c527(hC:AllC E TB C3):CtrOk prog TB 527 k527:=by
 refine aC (AN:=[]) (DR:=dr0) mixed tOk hC (aA func527 rfl rfl rfl) ?_
 repeat' ((conv=>whnf);first|exact True.intro|(refine Ob.mk ?_ ?_;(·((conv=>whnf);refine Pr.mk ?_;omega)))|(intro h;first|(replace h:=Pr.h (HyP.h h))|skip)|(exfalso;omega))
theorem c92(hC:AllC E TB C4):∀k,aW E TB 92 (i92 k):=by
 refine aGi (fun ss hl h=>by
  simp only[i92,rI,rL,oL,oI,oR,oCL] at h
  repeat' split at h
  all_goals first|exact h.elim|(have:=Pr.h h;omega)) fun k hk=>?_
 refine aV (C:=(92,⟨[],[],fun _=>True,fun _ _=>True,0,some (.ctr (i92 k))⟩)::C4) (AN:=[(5,⟨[0,1,2,3,4,29,30],[(31,none)],[1,2,3,4],[],[],[],[],fun f0 h0 fr hp=>gI 31 fr fun t31=>gI 30 fr fun t30=>gBL 1 0 fr hp fun lenB1_0=>gBL 1 0 f0 h0 fun lenB1_0e=>gBL 2 0 fr hp fun lenB2_0=>gBL 2 0 f0 h0 fun lenB2_0e=>gBL 3 3 fr hp fun lenB3_3=>gBL 3 3 f0 h0 fun lenB3_3e=>gBR 2 0 fr hp fun RB2_0=>gBR 2 0 f0 h0 fun RB2_0e=>gL 29 fr hp fun len29=>gL 29 f0 h0 fun len29e=>Pr (0<=t31/\t31<=t30/\(lenB1_0=lenB1_0e/\lenB2_0=lenB2_0e/\lenB3_3=lenB3_3e/\((sH RB2_0:Nat):Int)<=((sH RB2_0e:Nat):Int))/\len29=len29e),.sub (.sl 30) (.sl 31),0⟩)]) (DR:=dr0) mixed tOk (AllC.io hk ⟨_,aA func92 rfl rfl rfl⟩ hC) (aA func92 rfl rfl rfl) ?_
 repeat' ((conv=>whnf);first|exact True.intro|(refine Sp.mk ?_ ?_<;>intro h)|(refine Ob.mk ?_ ?_;(·first|omega|((conv=>whnf);refine Pr.mk ?_;omega)))|(refine Wr.ex ?_ ?_ ?_;(·omega);(·omega))|(refine Ag.mk ?_ ?_;(·first|exact rfl|(repeat' (first|exact rfl|exact True.intro|refine And.intro ?_ ?_))))|(intro h;first|(have q:=AllB.elt h ‹_› (by omega) (by omega);(try dsimp only at q))|(have q:=aOk h (by omega) (by omega) ‹_› ‹_› (by exact rfl))|(replace h:=Pr.h (HyP.h h))|skip)|(refine And.intro ?_ ?_))
theorem c62(hC:AllC E TB C4):CtrOk prog TB 62 k62:=by
 refine aC (AN:=[]) (DR:=dr0) mixed tOk hC (aA func62 rfl rfl rfl) ?_
 repeat' ((conv=>whnf);first|exact True.intro|((refine Sp.yes ?_ ?_;(·exact rfl)))|(refine Sp.mk ?_ ?_<;>intro h)|(refine Ob.mk ?_ ?_;(·first|omega|((conv=>whnf);refine Pr.mk ?_;first|omega|(repeat' (first|refine And.intro ?_ ?_|omega|(exact rfl)|(exact OpP.err ‹_› ‹_›)|(exact OpP.short ‹_› ‹_› ‹_› (by omega))|(exact OpP.bad ‹_› ‹_› ‹_› ‹_› ‹_› ‹_› ‹_› (by omega))|(exact OpP.ok ‹_› ‹_› ‹_› (by omega)))))))|(refine Wr.ex ?_ ?_ ?_;(·omega);(·omega))|(refine Kb.mk ?_ ?_;(·kernel_rfl))|(intro h;first|(replace h:=HyX.h h;(first|(replace h:=h (by omega))|skip);(try simp only[bZ,rngI,and_true,true_and,Int.reduceToNat,Int.reducePow,Int.reduceAdd] at h);(try (have q:=And.left h;clear q;obtain⟨_,_⟩:=h)))|((replace h:=(show _/\_/\_/\_/\_/\TP _ _ _ _ _ _ _ from Pr.h (HyP.h h));obtain⟨rfl,rfl,_,_,_,_⟩:=h))|(replace h:=Pr.h (HyP.h h);((obtain⟨_,_⟩:=h)))|(replace h:=Pr.h (HyP.h h))|skip)|(refine And.intro ?_ ?_))
theorem c27(hC:AllC E TB C4):aW E TB 27 i27:=by
 refine aV (AN:=[(4,⟨[1,2,15,16],[(17,none)],[2],[],[],[],[],fun f0 h0 fr hp=>gI 17 fr fun t17=>gI 16 fr fun t16=>Pr (0<=t17/\t17<=t16),.sub (.sl 16) (.sl 17),0⟩)]) (DR:=dr0) mixed tOk hC (aA func27 rfl rfl rfl) ?_
 repeat' ((conv=>whnf);first|exact True.intro|((refine Sp.yes ?_ ?_;(·exact rfl)))|(refine Sp.mk ?_ ?_<;>intro h)|(refine Ob.mk ?_ ?_;(·first|((conv=>whnf);exact Pr.mk rfl)|omega|((conv=>whnf);refine Pr.mk ?_;first|exact True.intro|omega)))|(refine Wr.ex ?_ ?_ ?_;(·omega);(·omega))|(refine Ag.mk ?_ ?_;(·(exact rfl)))|(intro h;first|(replace h:=HyX.h h;(skip);(try simp only[bZ,rngI,and_true,true_and,Int.reduceToNat,Int.reducePow,Int.reduceAdd] at h);(try (have q:=And.left h;clear q;obtain⟨_,_⟩:=h)))|(replace h:=Pr.h (HyP.h h);(first|(obtain⟨_,_,_,_,_,_⟩:=h)|(obtain⟨_,_⟩:=h)))|(subst h)|skip)|(refine And.intro ?_ ?_)|(exfalso;omega))
theorem c363(hC:AllC E TB C4):CtrOk prog TB 363 k363:=by
 refine aC (AN:=[(5,⟨[1,2,3,17],[(18,none)],[],[],[],[],[],fun f0 h0 fr hp=>gI 18 fr fun t18=>gI 17 fr fun t17=>Pr (0<=t18/\t18<=t17),.sub (.sl 17) (.sl 18),0⟩)]) (DR:=dr0) mixed tOk hC (aA func363 rfl rfl rfl) ?_
 repeat' ((conv=>whnf);first|exact True.intro|(refine Sp.mk ?_ ?_<;>intro h)|(refine Ob.mk ?_ ?_;(·first|omega|((conv=>whnf);refine Pr.mk ?_;first|exact True.intro|omega)))|(refine Wr.ex ?_ ?_ ?_;(·omega);(·omega))|(refine Ag.mk ?_ ?_;(·first|exact rfl|(repeat' (first|exact rfl|exact True.intro|refine And.intro ?_ ?_))))|(intro h;first|(replace h:=Pr.h (HyP.h h))|skip)|(refine And.intro ?_ ?_))
theorem c167(hC:AllC E TB C4):CtrOk prog TB 167 k167:=by
 refine aC (AN:=[]) (DR:=⟨[(7,([6],false))],[],[],[]⟩) mixed tOk hC (aA func167 rfl rfl rfl) ?_
 repeat' ((conv=>whnf);first|exact True.intro|(refine Sp.mk ?_ ?_<;>intro h)|(refine Ob.mk ?_ ?_;(·((conv=>whnf);refine Pr.mk ?_;(exact True.intro))))|(refine Wr.in' ?_;intro z h1 h2)|(refine Kb.mk ?_ ?_;(·kernel_rfl))|(intro h;first|(replace h:=Pr.h (HyP.h h))|skip))
theorem c210(hC:AllC E TB C4):fC E TB 210 w210:=cK mixed tOk hC (fun c hb=>aA func210 hb rfl rfl)
theorem c209(hC:AllC E TB C4):fC E TB 209 w209:=cK mixed tOk hC (fun c hb=>aA func209 hb rfl rfl)
theorem c134(hC:AllC E TB C5):aW E TB 134 i134:=by
 refine aV (AN:=[]) (DR:=dr0) mixed tOk hC (aA func134 rfl rfl rfl) ?_
 repeat' ((conv=>whnf);first|exact True.intro|(first|(refine Sp.yes ?_ ?_;(·exact rfl))|(refine Sp.no ?_ ?_;(·decide))|(refine Wr.mul ?_ ?_ ?_ ?_;(·omega);(·omega);(·omega);intro _ _))|(refine Sp.mk ?_ ?_<;>intro h)|(refine Ob.mk ?_ ?_;(·first|omega|((conv=>whnf);refine Pr.mk ?_;(repeat' (first|refine And.intro ?_ ?_|omega|(exact rfl)|(exact RJ.init rfl)|(exact aIz (by omega) (by omega))|(exact aFa)|(exact wV ‹_› ‹_› ‹_› (by omega))|(exact RJ.next ‹_› ‹_› rfl ‹_› (VP.I ‹_›) ‹_› (by omega))|(exact QR.no ‹_› ‹_› (aZo ‹_›))|(exact QR.ok ‹_› ‹_› ‹_› ‹_›)|(exact QR.err ‹_› ‹_› ‹_› ‹_›)|(exact QR.err2 ‹_› ‹_› ‹_› ‹_› rfl ‹_› (VP.I ‹_›) ‹_›)|(exact QR.dup ‹_› ‹_› ‹_› ‹_› rfl ‹_› (VP.I ‹_›) ‹_› rfl (by omega) mI_un ‹_›))))))|(refine Wr.ex ?_ ?_ ?_;(·omega);(·omega))|(refine Ag.mk ?_ ?_;(·first|exact rfl|(repeat' (first|exact rfl|exact True.intro|refine And.intro ?_ ?_))))|(intro h;first|(replace h:=HyX.h h;(skip);(try simp only[bZ,rngI,and_true,true_and,Int.reduceToNat,Int.reducePow,Int.reduceAdd] at h);(try (have q:=And.left h;clear q;obtain⟨_,_⟩:=h)))|(replace h:=Pr.h (HyP.h h);(first|(obtain⟨rfl,rfl,_,_,_,_⟩:=h)|(obtain⟨rfl,_,_,_⟩:=h)|(obtain⟨_,_,_,_⟩:=h)))|skip))
theorem c419(hC:AllC E TB C6):fC E TB 419 w419:=cK mixed tOk hC (fun c hb=>aA func419 hb rfl rfl)
theorem c169(hC:AllC E TB C10):CtrOk prog TB 169 k169:=by
 refine aC (AN:=[]) (DR:=dr0) mixed tOk hC (aA func169 rfl rfl rfl) ?_
 repeat' ((conv=>whnf);first|exact True.intro|(refine Sp.mk ?_ ?_<;>intro h)|(refine Ob.mk ?_ ?_;(·((conv=>whnf);refine Pr.mk ?_;first|exact True.intro|omega|(repeat' (first|refine And.intro ?_ ?_|omega|(intro e;intro k;(exact(show(_:Int)=0->IOk _ _ _ by assumption) (by omega))))))))|(intro h;first|(replace h:=Pr.h (HyP.h h);(first|(obtain⟨_,_,_,_,_,_⟩:=h)|(obtain⟨_,_⟩:=h)))|(replace h:=Pr.h (HyP.h h))|skip))
end Go.Proofs.YtlikijmihbgloaaGreatDoor
