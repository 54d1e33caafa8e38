/-
  An abstract machine that runs a program of the given form, and its soundness, part 13.
-/
import Derived.Test.YtlikijmihbgloaaGreatDoorAb12
import Derived.RangeFuncRecord
set_option linter.unusedVariables false
set_option linter.unusedSimpArgs false
set_option linter.unusedSectionVars false
noncomputable section
namespace Go.AM
open Go.RowKit
variable [σ:Sg]
section
variable {P:PG}(E:Env P)(T:TTb)(C:CTb)(tb:TBs)
def rkK(k:Nat):Nat:=cond (Nat.ble 7000000 k) (k - 7000000) k
def rkL:NL->List Nat
 |[]=>[]
 |k::r=>rkK k::rkL r
def aLj(fs:FR)(hp:HP):NL->List Nat
 |[]=>[]
 |k::r=>cond (Nat.ble 7000000 k) (match nF (k - 7000000) fs hp with
  |some (.ptr i _)=>i::aLj fs hp r
  |_=>aLj fs hp r) (aLj fs hp r)
def stD(fs:FR)(hp:HP)(ks:NL):NL:=aPe (rY (aLj fs hp ks) (hvR fs (rkL ks)++hvB fs hp (rkL ks))) hp
def xK(k:Nat):List (Nat×(List Nat×Bool))->List Nat×Bool
 |[]=>([],false)
 |(j,v)::r=>cond (Nat.beq j k) v (xK k r)
def aXi(fx:NL)(an:Ann)(hv:NL)(nx:Nat)(f0:FR)(h0:HP)(f1:FR)(h1:HP)(fr':FR)(qc:HP):Prop:=
 nxF (vks an.vr) (thF (vks an.vr) fr' f0++thH hv qc h0) nx fr' f0 fun f2=>nxH hv (thF (vks an.vr) fr' f0++thH hv qc h0) nx h0 qc fun h2 _=>cond (fxB (thF (vks an.vr) fr' f0++thH hv qc h0) nx fx) (Ob (an.J f0 h0 f2 h2) (evK an.mu f2 h2 fun a=>evK an.mu f1 h1 fun b=>Ob (a<b/\0<b) True)) False
abbrev WK:=Exit->FR->HP->Nat->Prop
abbrev WC:=FR->HP->Nat->WK->Prop
def aEz(a b:WC):WC:=fun fs hp nx K=>a fs hp nx fun e fs hp nx=>(match e with
 |.normal=>b fs hp nx K
 |e=>K e fs hp nx)
def aWm(c:Operand)(a b:WC):WC:=fun fs hp nx K=>wop fs c fun c=>(match c with
 |.bool true=>a fs hp nx K
 |.bool false=>b fs hp nx K
 |_=>False)
def aHt(i:Nat)(a:WC):WC:=fun fs hp nx K=>a fs hp nx fun e fs hp nx=>(match e with
 |.exit j=>cond (Nat.beq j i) (K .normal fs hp nx) (K (.exit j) fs hp nx)
 |e=>K e fs hp nx)
def zJ(ops:OA):Nat:=ops.size - 1
def zlB(ops:OA):Bool:=match ops.toList.drop (zJ ops) with
 |[⟨_,.store _ _ _,_,_,_,none⟩]=>dB (bef ops) (vG 0 ops.toList)&&(List.range (zJ ops)).all fun i=>((bef ops).getD (zJ ops) 0).testBit i
 |_=>false
def bDn(n:Nat)(DR:DRs)(fx:NL)(id:Nat)(ops:OA)(d:Bool):WC:=fun fs hp nx K=>wHk (bCn id DR.hk) fs hp fun fs hp=>(match d with
 |false=>pT E T C n ⟨false,false,ops,[],[],tb,fx,aM id DR.nb⟩ 0 ops.toList fs hp nx fun fs hp nx=>K .normal fs hp nx
 |true=>cond (aM id DR.z) (Kb (cond (zO ops) (zlB ops) false) (pT E T C n ⟨true,(xK id DR.dr).2,ops,vG 0 ops.toList,(stD fs hp (xK id DR.dr).1),tb,fx,aM id DR.nb⟩ 0 (ops.toList.take (zJ ops)) fs hp nx fun fs hp nx=>
  pT E T C n ⟨false,false,ops,[],[],tb,fx,aM id DR.nb⟩ (zJ ops) (ops.toList.drop (zJ ops)) fs hp nx fun fs hp nx=>K .normal fs hp nx)) (Kb (zO ops) (pT E T C n ⟨true,(xK id DR.dr).2,ops,vG 0 ops.toList,(stD fs hp (xK id DR.dr).1),tb,fx,aM id DR.nb⟩ 0 ops.toList fs hp nx fun fs hp nx=>K .normal fs hp nx)))
def bFt(a:WC)(ks:NL)(n:Nat):WC:=Nat.rec (motive:=fun _=>WC) (fun _ _ _ _=>False) (fun _ ih fs hp nx K=>a fs hp nx fun e fs hp nx=>(match e with
 |.normal=>pkF fs ks fun fs=>ih fs hp nx K
 |e=>K e fs hp nx)) n
theorem bDs{a:WC}{ks:NL}{n:Nat}{fs:FR}{hp:HP}{nx:Nat}{K:WK}:bFt a ks (n+1) fs hp nx K=a fs hp nx fun e fs hp nx=>(match e with
 |.normal=>pkF fs ks fun fs=>bFt a ks n fs hp nx K
 |e=>K e fs hp nx):=rfl
def aWz(AN:List (Nat×Ann))(fx:NL)(c:Code)(a:WC):WC:=fun fs hp nx K=>match bCg (rid c) AN with
 |none=>False
 |some an=>cond (Nat.beq an.un 0) (wfz an.fz fs hp fun fs hp=>wdH an.wd fs hp fun hp=>cvB an.cb fs hp nx fun hp nx=>cvt an.vr fs hp nx fun fs hp nx=>wkn an.wk fs hp nx fun fs hp nx=>pkF fs (an.lv++vks an.vr) fun f0=>Ob (an.J f0 hp f0 hp) (aMj (vks an.vr) f0 fun f1=>aMw (hvR f0 (vks an.vr)++hvB f0 hp an.ob) hp fun h1=>HyP (an.J f0 hp f1 h1)->
  a f1 h1 nx fun e fs' qc nx'=>(match e with
    |.normal=>wkn an.wk fs' qc nx' fun fs' qc _=>aXi fx an (hvR f0 (vks an.vr)++hvB f0 hp an.ob) nx f0 hp f1 h1 fs' qc
    |e=>K e fs' qc nx'))) (pkF fs (an.lv++vks an.vr) fun fs=>bFt a (an.lv++vks an.vr) an.un fs hp nx K)
def wpC(n:Nat)(AN:List (Nat×Ann))(DR:DRs)(fx:NL)(c:Code):WC:=Code.rec (motive:=fun _=>WC)
 (skip:=fun fs hp nx K=>K .normal fs hp nx)
 (region:=fun id ops d=>bDn E T C tb n DR fx id ops d)
 (seq:=fun _ _ a b=>aEz a b)
 (cond:=fun c _ _ a b=>aWm c a b)
 (block:=fun i _ a=>aHt i a)
 (loop:=fun c a=>aWz AN fx c a)
 (rangeFunc:=fun _ _ _ _ _ _ _ _ _ _=>False)
 (exit:=fun i fs hp nx K=>K (.exit i) fs hp nx)
 (scope:=fun _ _ _ _ _ _=>False)
 (label:=fun _ fs hp nx K=>K .normal fs hp nx)
 (goto:=fun _ _ _ _ _=>False)
 (ret:=fun fs hp nx K=>K .ret fs hp nx)
 (refuse:=fun _ _ _ _ _=>False) c
mutual
def fzS(hp:HP):SV->SV
 |.ow i=>(match hget i hp with
  |some (.row b ks l)=>.row b ks l
  |_=>.ow i)
 |.agg l=>.agg (fzL hp l)
 |.tup l=>.tup l
 |.fn g l=>.fn g l
 |.ptr i o=>.ptr i o
 |.op i j o m=>.op i j o m
 |.undef=>.undef
 |.int k n=>.int k n
 |.bool b=>.bool b
 |.str s=>.str s
 |.nil=>.nil
 |.pnil=>.pnil
 |.row b ks l=>.row b ks l
 |.el ks c o=>.el ks c o
 |.gp g o=>.gp g o
 |.rng lo hi=>.rng lo hi
 |.any=>.any
 |.yl i=>.yl i
 |.xp i o m=>.xp i o m
def fzL(hp:HP):SL->List SV
 |[]=>[]
 |v::r=>fzS hp v::fzL hp r
end
def aKe(fs:FR)(hp:HP)(rv:ResultVar)(ih:(List SV->Prop)->Prop)(K:SL->Prop):Prop:=match rv with
 |.tmp s=>(match bT s fs with
  |some v=>ih fun vs=>K (v::vs)
  |none=>False)
 |.cell s t=>(match bT s fs with
  |some (.ptr i o)=>(match hget i hp with
   |some (.box _ cs)=>qI T false t cs o fun v=>ih fun vs=>K (v::vs)
   |_=>False)
  |_=>False)
def uD(fs:FR)(hp:HP)(rs:List ResultVar):(List SV->Prop)->Prop:=List.rec (motive:=fun _=>(List SV->Prop)->Prop) (fun K=>K []) (fun rv _ ih=>aKe T fs hp rv ih) rs
theorem zQ{fs:FR}{hp:HP}{rv:ResultVar}{r:List ResultVar}{K:SL->Prop}:uD T fs hp (rv::r) K=aKe T fs hp rv (uD T fs hp r) K:=rfl
def wret(rs:List ResultVar)(ps:List PK)(post:SL->Prop)(e:Exit)(fs:FR)(hp:HP):Prop:=match e with
 |.normal=>uD T fs hp rs fun vs=>iM (fzL hp vs) fun vs=>yH ps vs fun vs=>Ob (post vs) True
 |.ret=>uD T fs hp rs fun vs=>iM (fzL hp vs) fun vs=>yH ps vs fun vs=>Ob (post vs) True
 |_=>False
def ent:SL->Nat->FR->FR
 |[],_,acc=>acc
 |v::r,i,acc=>ent r (i+1) ((i,v)::acc)
def owAs:SL->List Nat
 |[]=>[]
 |v::r=>owS v++owAs r
def owH:HP->List Nat
 |[]=>[]
 |(_,.box _ cs)::r=>aQs cs++owH r
 |_::r=>owH r
def kpI(no:NL):HP->List Nat
 |[]=>[]
 |(i,.row _ _ _)::r=>cond (aM i no) (kpI no r) (i::kpI no r)
 |(i,_)::r=>i::kpI no r
def fxW(ss:SL)(hp:HP):NL:=kpI (owAs ss++owH hp) hp
def bCa(rs:List ResultVar)(fx:NL)(K:NL->SV->HP->Nat->Prop)(e:Exit)(fs:FR)(hp:HP)(nx:Nat):Prop:=match e with
 |.normal=>uD T fs hp rs fun vs=>K fx (sX vs) hp nx
 |.ret=>uD T fs hp rs fun vs=>K fx (sX vs) hp nx
 |_=>False
def xD(l:NL):(List Nat->Prop)->Prop:=List.rec (motive:=fun _=>(List Nat->Prop)->Prop) (fun K=>K []) (fun i _ ih K=>qW i fun i=>ih fun r=>K (i::r)) l
def bEh(n:Nat)(AN:List (Nat×Ann))(DR:DRs)(rs:List ResultVar)(body:Code):IW:=fun fe ss hp nx K=>
 cond (Nat.ble (iJ ss) n) (xD (fe++fxW ss hp) fun fx=>wpC E T C tb n AN DR fx body (ent ss 0 []) hp nx (bCa T rs fx K)) False
def dQ(AN:List (Nat×Ann))(DR:DRs)(F:Func):IW:=match F.body with
 |some c=>bEh E T C tb F.ntmps AN DR F.results.toList c
 |none=>fun _ _ _ _ _=>False
def wfun(n:Nat)(AN:List (Nat×Ann))(DR:DRs)(c:Ctr)(rs:List ResultVar)(body:Code):Prop:=
 cond (Nat.ble c.ps.length n) (aEc c.ps fun ss=>HyP (c.pre ss)->wpC E T C tb n AN DR [] body (ent ss 0 []) [] 0 fun e fs hp nx=>wret T rs c.rs (c.post ss) e fs hp) False
end
section
variable [γ:Gam]{P:PG}{E:Env P}{T:TTb}{C:CTb}{tb:TBs}{n:Nat}{AN:List (Nat×Ann)}{DR:DRs}{fx:NL}{S He:AH}{A0 Ae:NQ}{L0:OL}{ρe:RM}
omit [γ:Gam] in
def KOK(E:Env P)(n:Nat)(fx:NL)(S:AH)(A0:NQ)(L0:OL)(ρe:RM)(Ae:NQ)(He:AH)(K:AQ)(k:Exit->FR->HP->Nat->Prop):Prop:=
 ∀e fs hp nx,k e fs hp nx->∀ρ PS A H l t,Den E ρ nx fs hp PS A H l->FxR fx ρe ρ->Gr Ae He A H->SK K e (fr n t l) S A0 H A (flt PS++L0)
theorem nH{e:Exit}{K:AQ}{y:Code}{f:Fr}{H0:AH}{A:NQ}{L:OL}(hn:e≠.normal)(h:SK K e f S A0 H0 A L):SK (vA P y K) e f S A0 H0 A L:=fun H hH=>.inr ⟨hn,h H hH⟩
theorem eS{σ:Type}{μ:σ->Nat}{I:σ->Fr->AH->Prop}{s:σ}{e:Exit}{K:AQ}{f:Fr}{H0:AH}{A:NQ}{L:OL}(hn:e≠.normal)(h:SK K e f S A0 H0 A L):SK (aFl μ I s K) e f S A0 H0 A L:=fun H hH=>.inr ⟨hn,h H hH⟩
section
variable {ρ:RM}{A:NQ}{H:AH}{nx:Nat}{th:List (Nat×Nat)}
theorem RepF.set{s:SV}:∀{f:FR} {l:LV} {k:Nat} {K:FR->Prop} {v:Value},RepF ρ A H f l->look k l=some v->Rep ρ A H s v->vE k s f K->∃f',K f'/\RepF ρ A H f' l
 |[],l,k,K,v,h,hl,hs,hK=>⟨[],hK,h⟩
 |(j,w)::r,l,k,K,v,⟨u,l',h1,h2,h3⟩,hl,hs,hK=>by
  subst h1;simp only[bCq] at hK;simp only[look] at hl;cases e:Nat.beq j k with
  |true=>
   rw[e,QT] at hK hl;cases hl;exact⟨_,hK,_,_,rfl,hs,h3⟩
  |false=>
   rw[e,QF] at hK hl;obtain⟨f',k1,k2⟩:=RepF.set h3 hl hs hK;exact⟨_,k1,_,_,rfl,h2,k2⟩
theorem aDe:∀{vr:List (Nat×Option (Nat×List Kd))} {fs:FR} {hp:HP} {nx:Nat} {K:FR->HP->Nat->Prop} {ρ:RM} {PS:PSs} {l:LV},cvt vr fs hp nx K->Den E ρ nx fs hp PS A H l->∃fs' qc nx' ρ' PS',K fs' qc nx'/\Den E ρ' nx' fs' qc PS' A H l/\RMle ρ ρ'/\flt PS'=flt PS
 |[],fs,hp,nx,K,ρ,PS,l,h,hD=>⟨fs,hp,nx,ρ,PS,h,hD,RMle.refl _,rfl⟩
 |(k,none)::r,fs,hp,nx,K,ρ,PS,l,h,hD=>aDe (vr:=r) h hD
 |(k,some (b,ks))::r,fs,hp,nx,K,ρ,PS,l,h,hD=>by
  simp only[bFn] at h;split at h
  ·rename_i hs;obtain⟨u,h1,h2⟩:=hD.fr.get hs;simp only[Rep] at h2;subst h2;have qf:=gV (x:=.slice none 0 0) (hD.no nx (Nat.le_refl _));have zr:=hD.push (x:=.slice none 0 0) (o:=.row b ks []) (La:=[]) rfl (fun _ hr=>⟨_,hr,OwS.nil⟩);obtain⟨f',k1,k2⟩:=RepF.set (s:=.ow nx) zr.fr h1 (by simp only[Rep];exact if_pos rfl) h;obtain⟨fs',qc,nx',ρ',PS',q1,q2,q3,q4⟩:=aDe (vr:=r) k1 ⟨zr.no,zr.one,k2,zr.hp⟩;exact⟨fs',qc,nx',ρ',PS',q1,q2,qf.trans q3,q4⟩
  ·exact aDe (vr:=r) h hD
theorem xZ{S:AH}{A0:NQ}{L0:OL}{c:Code}{Q:AQ}{f:Fr}{ρ:RM}{l:LV}{nx:Nat}:∀{fz:List (Nat×Nat×List Kd)} {fs:FR} {hp:HP} {K:FR->HP->Prop} {PS:PSs} {A:NQ} {H:AH},wfz fz fs hp K->Den E ρ nx fs hp PS A H l->
 (∀fs' qc PS' A' H',K fs' qc->Den E ρ nx fs' qc PS' A' H' l->Gr A H A' H'->SX P c Q f S A0 H' A' (flt PS'++L0))->SX P c Q f S A0 H A (flt PS++L0)
 |[],fs,hp,K,PS,A,H,h,hD,hK=>hK _ _ _ _ _ h hD (Gr.refl _ _)
 |(k,b,ks)::r,fs,hp,K,PS,A,H,h,hD,hK=>by
  simp only[bFe] at h;split at h
  ·rename_i hs;obtain⟨u,h1,h2⟩:=hD.fr.get hs;simp only[Rep] at h2;subst h2;obtain⟨f',k1,k2⟩:=RepF.set (s:=.row b ks []) hD.fr h1 (by simp only[Rep];exact vV) h;exact xZ (fz:=r) k1 ⟨hD.no,hD.one,k2,hD.hp⟩ hK
  ·rename_i id hs;split at h
   ·rename_i b ks rr hg;obtain⟨La,X,Y,qs,⟨x,r1,r2⟩,_,_,xd⟩:=hD.hp.get hg;obtain⟨ya,h,hh⟩:=xd _ h;subst qs;refine xL (L':=flt (X++Y)++L0) r2 (by rw[bH];simp only[flt];rw[bH,QA,QA,QA];exact Takes.ow r2 _ _) ?_;rintro H1 A1 a g rfl rx;have hc:CellA A1 H1 (.row b ks) (.slice a rr.length rr.length) (.row rr):=rx.cell;obtain⟨fs1,h,k1⟩:=aDr r1 hc h (RepF.mono (RMle.refl _) g hD.fr);obtain⟨zk,h,k2⟩:=qG r1 hc h (RepH.mono (RMle.refl _) g hh);exact xZ (fz:=r) h ⟨hD.no,hD.one,k1,k2⟩ fun fs' qc PS' A' H' q qt g'=>hK _ _ _ _ _ q qt (g.trans g')
   ·exact h.elim
  ·exact xZ (fz:=r) h hD hK
theorem Reps.weak{ρ:RM}{A:NQ}{H:AH}{c d:SV}(h:∀v,Rep ρ A H c v->Rep ρ A H d v):∀{m:Nat} {us:VL},Reps ρ A H (List.replicate m c) us->Reps ρ A H (List.replicate m d) us
 |0,us,k=>k
 |m+1,[],k=>by simp only[List.replicate_succ,Reps] at k
 |m+1,u::us,k=>by
  simp only[List.replicate_succ,Reps] at k ⊢;exact⟨h _ k.1,Reps.weak h k.2⟩
theorem bEo{ρ:RM}{A:NQ}{H:AH}{lo hi:Int}{c:SV}{K:Prop}(h:inR lo hi c K):K/\∀v,Rep ρ A H c v->Rep ρ A H (.rng lo hi) v:=by
 unfold inR at h;split at h
 ·refine⟨h.t,fun v hv=>?_⟩;simp only[Rep] at hv ⊢;exact⟨_,hv.1,hv.2,h.h.1,h.h.2⟩
 ·exact h.elim
theorem aTf{ρ:RM}{A:NQ}{H:AH}{l:LV}{nx:Nat}{PS:PSs}{fs:FR}:∀{wd:List (Nat×Nat×Nat×Mu×Mu)} {hp:HP} {K:HP->Prop},wdH wd fs hp K->Den E ρ nx fs hp PS A H l->∃qc,K qc/\Den E ρ nx fs qc PS A H l
 |[],hp,K,h,hD=>⟨hp,h,hD⟩
 |(k,o,m,lo,hi)::r,hp,K,h,hD=>by
  rw[aPm] at h;split at h
  ·rename_i id off hs;split at h
   ·rename_i bt cs hg;unfold evK at h;split at h
    ·rename_i lo' wq;split at h
     ·rename_i ql ud;split at h
      ·rename_i c r' hd;obtain⟨h1,h2⟩:=h;obtain⟨h2,hw⟩:=bEo (ρ:=ρ) (A:=A) (H:=H) h2;split at h2
       ·rename_i cs' yb;have q:=pF yb;obtain⟨La,X,Y,qs,⟨N,vs,r1,r2,r3⟩,_,xt,_⟩:=hD.hp.get hg;obtain⟨qc,k1,k2⟩:=xt _ _ (cF h2);subst qs;refine aTf k1 ⟨hD.no,hD.one,hD.fr,k2 (RMle.refl _) (Gr.refl _ _) ⟨N,vs,r1,r2,?_⟩⟩;rw[q.1,sJ,List.length_replicate];have a:=(sG hd).1;have b:=(oJ h1).1;have e:(cs.drop o).take m=List.replicate m c:=by rw[<-a,<-b,sJ]
        have m1:Reps ρ A H (List.replicate m (.rng lo' ql)) ((vs.drop o).take m):=by
         refine Reps.weak hw ?_;rw[<-e];exact r3.drop.take
        have m2:=(r3.take (n:=o)).app (m1.app (r3.drop (n:=o+m)));have ev:vs.take o++((vs.drop o).take m++vs.drop (o+m))=vs:=by
         rw[<-List.drop_drop,List.take_append_drop,List.take_append_drop]
        rw[ev] at m2;exact m2
       ·exact h2.elim
      ·exact h.elim
     ·exact h.elim
    ·exact h.elim
   ·exact h.elim
  ·exact h.elim
theorem aBl{fs:FR}{l:LV}(hF:RepF ρ A H fs l):∀{ks:NL} {K:FR->Prop},pkF fs ks K->∃f0 l0,K f0/\RepF ρ A H f0 l0/\Picks l l0
 |[],K,h=>⟨[],[],h,rfl,.nil⟩
 |k::r,K,h=>by
  simp only[aXh] at h;split at h
  ·rename_i v hv;obtain⟨u,h1,h2⟩:=hF.get hv;obtain⟨f0,l0,k1,k2,k3⟩:=aBl hF h;exact⟨_,_,k1,⟨u,l0,rfl,h2,k2⟩,.cons h1 k3⟩
  ·exact h.elim
theorem aGo{ks:NL}{fr':FR}{l:LV}(hF:RepF ρ A H fr' l):∀{f0:FR} {K:FR->Prop},nxF ks th nx fr' f0 K->∃f2 l2,K f2/\InF ks f0 f2/\RepF (oB ρ nx th) A H f2 l2/\Picks l l2
 |[],K,h=>⟨[],[],h,.nil,rfl,.nil⟩
 |(k,v)::r,K,h=>by
  simp only[bFm] at h;split at h
  ·rename_i w hw;obtain⟨u,h1,h2⟩:=hF.get hw;cases e:aM k ks with
   |true=>
    rw[e,QT] at h;have h:=kS h;cases eb:bdS nx (mtS v w) with
    |false=>rw[eb] at h;exact h.elim
    |true=>
     rw[eb,QT] at h;obtain⟨f2,l2,k1,k2,k3,k4⟩:=aGo hF h.t;exact⟨_,_,k1,.turn e (bCy v w) k2,⟨u,l2,rfl,aUx eb h.h h2,k3⟩,.cons h1 k4⟩
   |false=>
    rw[e,QF] at h;cases eb:bdS nx v with
    |false=>rw[eb] at h;exact h.elim
    |true=>
     rw[eb,QT] at h;obtain⟨f2,l2,k1,k2,k3,k4⟩:=aGo hF h.t;exact⟨_,_,k1,.stay e k2,⟨u,l2,rfl,aUx eb h.h h2,k3⟩,.cons h1 k4⟩
  ·exact h.elim
theorem ShO.refl:∀v:SJ,ShO v v
 |.box t cs=>.box (ShL.refl cs)
 |.row b ks l=>.row
 |.oth (.wk b ks l)=>.wk
 |.oth (.mp kk vk ag m)=>.mp
 |.oth (.ho b ks l j id)=>.ho
 |.oth (.vals us cs)=>.vals
 |.oth (.bl t u)=>.bl
 |.oth (.vr cs)=>.vr
theorem bEe(v w:SJ):ShO v (mtO v w):=by
 unfold mtO;split
 ·exact .box (aIy _ _)
 ·exact .row
 ·exact .wk
 ·exact .mp
 ·exact .bl
 ·exact ShO.refl _
theorem bDt{i:Nat}{v w:SJ}{La:OL}(hi:i<nx)(hb:bdO nx v=true)(h:agO th v w)(k:RepO E ρ A H (rn th i) w La):RepO E (oB ρ nx th) A H i v La:=by
 have e:oB ρ nx th i=ρ (rn th i):=if_pos hi;unfold agO at h;split at h
 ·obtain⟨rfl,h⟩:=h;obtain⟨N,vs,k1,k2,k3⟩:=k;exact⟨N,vs,e.trans k1,k2,aGr hb h k3⟩
 ·obtain⟨rfl,rfl,rfl⟩:=h;obtain⟨x,k1,k2⟩:=k;exact⟨x,e.trans k1,k2⟩
 ·rename_i o o';subst h;cases o with
  |wk b ks l=>obtain⟨x,k1,k2⟩:=k;exact⟨x,e.trans k1,k2⟩
  |ho b ks l j id=>
   obtain⟨x,y,k1,k2,k3⟩:=k;have hid:id<nx:=nY hb;exact⟨x,y,e.trans k1,(if_pos hid).trans k2,k3⟩
  |mp kk vk ag m=>obtain⟨N,es,cl,k1,k2⟩:=k;exact⟨N,es,cl,e.trans k1,k2⟩
  |vals us cs=>obtain⟨x,k1,k2,k3⟩:=k;exact⟨x,e.trans k1,k2,rnL_ok hb k3⟩
  |bl t u=>obtain⟨N,M,k1,k2⟩:=k;exact⟨N,M,e.trans k1,k2⟩
  |vr cs=>obtain⟨M,vs,ex,k1,k2,k3⟩:=k;exact⟨M,vs,ex,e.trans k1,k2,rnL_ok hb k3⟩
 ·exact h.elim
theorem yF{fs:FR}:∀{cb:List (Nat×Nat×Nat×List Kd)} {hp:HP} {nx:Nat} {K:HP->Nat->Prop} {ρ:RM} {PS:PSs} {l:LV},cvB cb fs hp nx K->Den E ρ nx fs hp PS A H l->∃qc nx' ρ' PS',K qc nx'/\Den E ρ' nx' fs qc PS' A H l/\RMle ρ ρ'/\flt PS'=flt PS
 |[],hp,nx,K,ρ,PS,l,h,hD=>⟨hp,nx,ρ,PS,h,hD,RMle.refl _,rfl⟩
 |(k,j,b,ks)::r,hp,nx,K,ρ,PS,l,h,hD=>by
  rw[aVz] at h;split at h
  ·rename_i id o hs;split at h
   ·rename_i t cs hg;split at h
    ·rename_i hc;split at h
     ·rename_i cs' yb;have q:=pF yb;obtain⟨La,X,Y,qs,⟨N,vs,r1,r2,r3⟩,_,xt,_⟩:=hD.hp.get hg;obtain⟨qc,k1,k2⟩:=xt _ _ (cF h);have qf:=gV (x:=.slice none 0 0) (hD.no nx (Nat.le_refl _));obtain⟨y,y1,y2⟩:=r3.at (xC hc);simp only[Rep] at y2;subst y2;have qj:=lt_of_getElem? y1;have o8:vs.take j++([Value.slice none 0 0]++vs.drop (j+[Value.slice none 0 0].length))=vs:=by
       rw[List.getElem?_eq_getElem qj] at y1;have e:=Option.some.inj y1;simp only[List.length_cons,List.length_nil,Nat.zero_add,List.singleton_append];rw[<-e,<-List.drop_eq_getElem_cons qj,List.take_append_drop]
      have r4:Reps (mV ρ nx (.slice none 0 0)) A H cs' vs:=by
       have r5:=(Reps.mono qf (Gr.refl _ _) r3).spl (o:=j) (ys:=[.ow nx]) (vs:=[.slice none 0 0]) (by simp only[Reps,Rep];exact⟨if_pos rfl,trivial⟩);rw[q.1];rw[o8] at r5;exact r5
      have hh:=k2 qf (Gr.refl A H) ⟨N,vs,qf _ _ r1,r2,r4⟩;rw[<-qs] at hh;have sp:Den E (mV ρ nx (.slice none 0 0)) (nx+1) fs ((nx,.row b ks [])::qc) ((nx,[])::PS) A H l:=by
       refine⟨fun i hi=>?_,fun i v e=>?_,RepF.mono qf (Gr.refl _ _) hD.fr,[],PS,rfl,⟨_,if_pos rfl,OwS.nil⟩,hh⟩
       ·unfold mV;rw[if_neg (by omega)];exact hD.no i (by omega)
       ·unfold mV at e;by_cases hi:i=nx
        ·rw[if_pos hi] at e;cases e;rfl
        ·rw[if_neg hi] at e;exact hD.one i v e
      obtain⟨zk,nx',ρ',PS',q1,q2,q3,q4⟩:=yF (cb:=r) k1 sp;exact⟨zk,nx',ρ',PS',q1,q2,qf.trans q3,q4⟩
     ·exact h.elim
    ·exact yF (cb:=r) h hD
   ·exact yF (cb:=r) h hD
  ·exact yF (cb:=r) h hD
theorem OwS.wk{A:NQ}{H:AH}{b:Nat}{ks:KL}{l:LX}{x:Value}{L:OL}(h:OwS A H b ks l x L):OwW A H b ks l x L:=.inr h
theorem tX:∀{wk:List (Nat×Nat×List Kd)} {fs:FR} {hp:HP} {nx:Nat} {K:FR->HP->Nat->Prop} {ρ:RM} {PS:PSs} {l:LV},wkn wk fs hp nx K->Den E ρ nx fs hp PS A H l->∃fs' qc nx' ρ' PS',K fs' qc nx'/\Den E ρ' nx' fs' qc PS' A H l/\RMle ρ ρ'/\flt PS'=flt PS
 |[],fs,hp,nx,K,ρ,PS,l,h,hD=>⟨fs,hp,nx,ρ,PS,h,hD,RMle.refl _,rfl⟩
 |(k,b,ks)::r,fs,hp,nx,K,ρ,PS,l,h,hD=>by
  rw[aUr] at h;have new:∀{s:SV} {u:Value},look k l=some u->(∃a n c,u=.slice a n c)->(vE k (.ow nx) fs fun fr=>wkn r fr ((nx,.oth (.wk b ks []))::hp) (nx+1) K)->∃fs' qc nx' ρ' PS',K fs' qc nx'/\Den E ρ' nx' fs' qc PS' A H l/\RMle ρ ρ'/\flt PS'=flt PS:=by
   intro s u h1 hu h;obtain⟨a,n,c,rfl⟩:=hu;have qf:=gV (x:=.slice a n c) (hD.no nx (Nat.le_refl _));have zr:=hD.push (x:=.slice a n c) (o:=.oth (.wk b ks [])) (La:=[]) rfl (fun _ hr=>⟨_,hr,OwW.lost⟩);obtain⟨f',k1,k2⟩:=RepF.set (s:=.ow nx) zr.fr h1 (by simp only[Rep];exact if_pos rfl) h;obtain⟨fs',qc,nx',ρ',PS',q1,q2,q3,q4⟩:=tX (wk:=r) k1 ⟨zr.no,zr.one,k2,zr.hp⟩;exact⟨fs',qc,nx',ρ',PS',q1,q2,qf.trans q3,q4⟩
  split at h
  ·rename_i i hs;split at h
   ·rename_i b' ks' ll hg;obtain⟨La,X,Y,qs,⟨x,r1,r2⟩,_,xt,_⟩:=hD.hp.get hg;obtain⟨qc,k1,k2⟩:=xt _ _ h;subst qs;obtain⟨fs',zk,nx',ρ',PS',q1,q2,q3,q4⟩:=tX (wk:=r) k1 ⟨hD.no,hD.one,hD.fr,k2 (RMle.refl _) (Gr.refl _ _) ⟨x,r1,r2.wk⟩⟩;exact⟨fs',zk,nx',ρ',PS',q1,q2,q3,q4⟩
   ·exact tX (wk:=r) h hD
  ·rename_i hs;obtain⟨u,h1,h2⟩:=hD.fr.get hs;simp only[Rep] at h2;exact new (s:=.nil) h1 ⟨_,_,_,h2⟩ h
  ·rename_i b' ks' ll hs;obtain⟨u,h1,h2⟩:=hD.fr.get hs;simp only[Rep] at h2;obtain⟨l',a,cap,_,e,_⟩:=h2.rowD;exact new (s:=.nil) h1 ⟨_,_,_,e⟩ h
  ·exact tX (wk:=r) h hD
theorem aZy{S:AH}{A0:NQ}{L0:OL}{c:Code}{Q:AQ}{f:Fr}{ρ:RM}{l:LV}{nx:Nat}{hk:Hk}{fs:FR}{hp:HP}{K:FR->HP->Prop}{PS:PSs}{A:NQ}{H:AH}(h:aRl hk fs hp K)(hD:Den E ρ nx fs hp PS A H l)
 (hK:∀fs' qc PS' A' H',K fs' qc->Den E ρ nx fs' qc PS' A' H' l->Gr A H A' H'->SX P c Q f S A0 H' A' (flt PS'++L0)):SX P c Q f S A0 H A (flt PS++L0):=by
 cases hk with
 |st k=>
  simp only[aRl] at h;split at h
  ·rename_i i hs;split at h
   ·rename_i b ks rr hg;obtain⟨La,X,Y,qs,⟨x,r1,r2⟩,_,xt,_⟩:=hD.hp.get hg;have r3:=r2.own (by have:=h.h;omega);obtain⟨qc,k1,k2⟩:=xt _ _ h.t;subst qs;exact hK _ _ _ _ _ k1 ⟨hD.no,hD.one,hD.fr,k2 (RMle.refl _) (Gr.refl _ _) ⟨x,r1,r3⟩⟩ (Gr.refl _ _)
   ·exact hK _ _ _ _ _ h hD (Gr.refl _ _)
   ·exact h.elim
  ·exact h.elim
 |fz k b ks=>exact xZ (fz:=[(k,b,ks)]) h hD hK
 |as p=>exact hK _ _ _ _ _ (h.t ⟨h.h⟩) hD (Gr.refl _ _)
 |fl k=>
  simp only[aRl] at h;split at h
  ·rename_i i hs;split at h
   ·rename_i b0 ks0 rr0 j0 id hg;split at h
    ·rename_i b2 ks2 l2 vj;obtain⟨La,X,Y,qs,⟨y,r1,r2⟩,_,_,xd⟩:=hD.hp.get vj;obtain⟨ya,h,hh⟩:=xd _ h;subst qs;refine xL (L':=flt (X++Y)++L0) r2 (by rw[bH];simp only[flt];rw[bH,QA,QA,QA];exact Takes.ow r2 _ _) ?_;rintro H1 A1 a g rfl rx;have hc:CellA A1 H1 (.row b2 ks2) (.slice a l2.length l2.length) (.row l2):=rx.cell;obtain⟨fs1,h,k1⟩:=aDr r1 hc h (RepF.mono (RMle.refl _) g hD.fr);obtain⟨zk,hq,k2⟩:=qG r1 hc h (RepH.mono (RMle.refl _) g hh);clear h;split at hq
     ·rename_i b ks rr j id' hg3;cases eid:Nat.beq id' id with
      |false=>rw[eid] at hq;exact hq.elim
      |true=>
       rw[eid,QT] at hq;have eid:=QN eid;subst eid;cases ek:kdsEq ks [.row b2 ks2] with
       |false=>rw[ek] at hq;exact hq.elim
       |true=>
        rw[ek,QT] at hq;have ek:=kdsEq_ok ek;subst ek;obtain⟨Lb,X',Y',b7,⟨x',y',s1,s2,o1,o2,o3,o4,o5,o6,M',cs,ex,q1,q2,q3⟩,_,xt,_⟩:=k2.get hg3;rw[r1] at s2;cases s2;obtain⟨qc,p1,p2⟩:=xt _ _ (hq _ (by simp) rfl);have hj:j.toNat<rr.length:=by omega
        have tt:=q3.setX (vs:=[.slice a l2.length l2.length]) (j:=j.toNat) (o:=0) (d:=[.row l2]) hj (by simp) (by simp only[List.drop_zero,List.length_cons,List.length_nil,Nat.zero_add,List.take_succ_cons,List.take_nil,CellsA];exact⟨hc,trivial⟩);have ed:rr[j.toNat].drop (0+[Value.slice a l2.length l2.length].length)=[]:=List.drop_eq_nil_of_le (by
         have:=(q3.2.2 j.toNat _ (List.getElem?_eq_getElem hj)).len.2;simp at this ⊢;omega)
        rw[ed,List.take_zero,List.nil_append,List.append_nil] at tt;have ow:=OwS.mk (M:=M') (ex:=ex) (A:=A1) (H:=H1) (b:=b) (by rw[List.length_set];exact o3) (by rw[List.length_set];exact o4) tt;rw[List.length_set] at ow;rw[b7];refine hK _ _ _ _ _ p1 ⟨hD.no,hD.one,k1,p2 (RMle.refl _) (Gr.refl _ _) ⟨x',s1,?_⟩⟩ g;rw[q1,q2];exact ow
     ·exact hq.elim
    ·exact h.elim
   ·exact hK _ _ _ _ _ h hD (Gr.refl _ _)
  ·exact h.elim
theorem aVo{S:AH}{A0:NQ}{L0:OL}{c:Code}{Q:AQ}{f:Fr}{ρ:RM}{l:LV}{nx:Nat}:∀{hs:List Hk} {fs:FR} {hp:HP} {K:FR->HP->Prop} {PS:PSs} {A:NQ} {H:AH},wHk hs fs hp K->Den E ρ nx fs hp PS A H l->
 (∀fs' qc PS' A' H',K fs' qc->Den E ρ nx fs' qc PS' A' H' l->Gr A H A' H'->SX P c Q f S A0 H' A' (flt PS'++L0))->SX P c Q f S A0 H A (flt PS++L0)
 |[],fs,hp,K,PS,A,H,h,hD,hK=>hK _ _ _ _ _ h hD (Gr.refl _ _)
 |k::r,fs,hp,K,PS,A,H,h,hD,hK=>by
  rw[aWn] at h;exact aZy h hD fun fs' qc PS' A' H' q qt g=>aVo q qt fun fs2 zk PS2 A2 H2 q2 xe g2=>hK _ _ _ _ _ q2 xe (g.trans g2)
theorem aDh{hv:NL}:∀{h0 qc:HP} {PS:PSs} {K:HP->HP->Prop},RepH E ρ A H qc PS->nxH hv th nx h0 qc K->∃h2 PS2 hr PSr,K h2 hr/\InH hv h0 h2/\RepH E (oB ρ nx th) A H h2 PS2/\RepH E ρ A H hr PSr/\(flt PS2++flt PSr).Perm (flt PS)
 |[],qc,PS,K,hH,h=>⟨[],[],qc,PS,h,.nil,rfl,hH,List.Perm.refl _⟩
 |(i,o)::r,qc,PS,K,hH,h=>by
  simp only[bFi] at h;split at h
  ·rename_i o' ho;obtain⟨La,X,Y,qs,r1,_,_,xd⟩:=hH.get ho;cases ei:Nat.blt i nx with
   |false=>rw[ei] at h;exact h.elim
   |true=>
    rw[ei,QT] at h;have hi:=nY ei;have fin:∀{u:SJ},(bdO nx u=true)->agO th u o'->∀{h2 PS2 rest},RepH E (oB ρ nx th) A H h2 PS2->(flt PS2++rest).Perm (flt (X++Y))->RepH E (oB ρ nx th) A H ((i,u)::h2) ((i,La)::PS2)/\(flt ((i,La)::PS2)++rest).Perm (flt PS):=by
     intro u hb ha h2 PS2 rest k1 k2;refine⟨⟨La,PS2,rfl,bDt hi hb ha r1,k1⟩,?_⟩;rw[qs,bH];simp only[flt];rw[bH] at k2;refine(List.Perm.append_left La k2 |> fun q=>(by simpa only[QA] using q:(La++flt PS2++rest).Perm (La++(flt X++flt Y)))).trans ?_;rw[<-QA,<-QA];exact List.Perm.append_right _ List.perm_append_comm
    cases e:aM i hv with
    |true=>
     rw[e,QT] at h;have h:=bBo h;cases eb:bdO nx (mtO o o') with
     |false=>rw[eb] at h;exact h.elim
     |true=>
      rw[eb,QT] at h;obtain⟨zk,h3,hh⟩:=xd _ h.t;obtain⟨h2,PS2,hr,PSr,k1,k2,k3,k5,k4⟩:=aDh hh h3;have q:=fin eb h.h k3 k4;exact⟨_,_,hr,PSr,k1,.turn e (bEe _ _) k2,q.1,k5,q.2⟩
    |false=>
     rw[e,QF] at h;cases eb:bdO nx o with
     |false=>rw[eb] at h;exact h.elim
     |true=>
      rw[eb,QT] at h;obtain⟨zk,h3,hh⟩:=xd _ h.t;obtain⟨h2,PS2,hr,PSr,k1,k2,k3,k5,k4⟩:=aDh hh h3;have q:=fin eb h.h k3 k4;exact⟨_,_,hr,PSr,k1,.stay e k2,q.1,k5,q.2⟩
  ·exact h.elim
theorem aJk:∀{fx:NL},fxB th nx fx=true->∀i,aM i fx=true->rn th i=i/\i<nx
 |[],_,i,h=>by cases h
 |a::r,h,i,hi=>by
  simp only[fxB] at h;cases e:Nat.beq (rn th a) a with
  |false=>rw[e] at h;cases h
  |true=>
   rw[e,QT] at h;cases e2:Nat.blt a nx with
   |false=>rw[e2] at h;cases h
   |true=>
    rw[e2,QT] at h;simp only[aM] at hi;cases e3:Nat.beq a i with
    |true=>
     have:=QN e3;subst this;exact⟨QN e,nY e2⟩
    |false=>rw[e3,QF] at hi;exact aJk h i hi
theorem aHm:∀{l:NL},srt l=true->l.Pairwise (·<·)
 |[],_=>.nil
 |[a],_=>.cons (fun _ h=>by cases h) .nil
 |a::b::r,h=>by
  simp only[srt,QB] at h;have bo:=nY h.1;have ih:=aHm h.2;refine .cons (fun c hc=>?_) ih;rcases List.mem_cons.1 hc with rfl|hc
  ·exact bo
  ·have:=(List.pairwise_cons.1 ih).1 c hc;omega
theorem wA{mo:NL}:∀{hp:HP} {PS:PSs} {i:Nat},RepH E ρ A H hp PS->aM i (aPe mo hp)=true->∃v,ρ i=some v
 |[],PS,i,_,h=>by cases h
 |(j,o)::r,PS,i,⟨L,PS',h1,h2,h3⟩,h=>by
  have hj:∃v,ρ j=some v:=by
   cases o with
   |box t cs=>obtain⟨N,vs,k,_⟩:=h2;exact⟨_,k⟩
   |row b ks l=>obtain⟨x,k,_⟩:=h2;exact⟨_,k⟩
   |oth o=>
    cases o with
    |wk b ks l=>obtain⟨x,k,_⟩:=h2;exact⟨_,k⟩
    |ho b ks l j id=>obtain⟨x,y,k,_⟩:=h2;exact⟨_,k⟩
    |mp kk vk ag m=>obtain⟨N,es,cl,k,_⟩:=h2;exact⟨_,k⟩
    |vals us cs=>obtain⟨x,k,_⟩:=h2;exact⟨_,k⟩
    |bl t u=>obtain⟨N,M,k,_⟩:=h2;exact⟨_,k⟩
    |vr cs=>obtain⟨M,vs,ex,k,_⟩:=h2;exact⟨_,k⟩
  simp only[aPe] at h;cases e:aM j mo with
  |true=>rw[e,QT] at h;exact wA h3 h
  |false=>
   rw[e,QF] at h;simp only[aM] at h;cases e2:Nat.beq j i with
   |true=>rw[<-QN e2];exact hj
   |false=>rw[e2,QF] at h;exact wA h3 h
end
omit [γ:Gam] in
structure US where
 n:Nat
 f:FR
 h:HP
 l:List (Nat×Value)
 H:AH
 A:Nat->Prop
 PS:PSs
 nx:Nat
omit [γ:Gam] in
structure LS where
 f:FR
 h:HP
 l:List (Nat×Value)
 H:AH
 A:Nat->Prop
 PS:PSs
theorem gN(hm:P.follows .mixedOrders=true)(hT:dM E T)(hC:AllC E tb C)(zp:TbG S.w0.toWorld tb):∀(c:Code) {fs:FR} {hp:HP} {nx:Nat} {k:Exit->FR->HP->Nat->Prop} {K:AQ} {ρ:RM} {PS:PSs} {A:NQ} {H:AH} {l:LV} {t:Tr Value},
 wpC E T C tb n AN DR fx c fs hp nx k->KOK E n fx S A0 L0 ρe Ae He K k->Den E ρ nx fs hp PS A H l->FxR fx ρe ρ->Gr Ae He A H->SX P c K (fr n t l) S A0 H A (flt PS++L0)
 |.skip,fs,hp,nx,k,K,ρ,PS,A,H,l,t,h,hK,hD,hx,hg=>jX (hK _ _ _ _ h _ _ _ _ _ _ hD hx hg)
 |.label _,fs,hp,nx,k,K,ρ,PS,A,H,l,t,h,hK,hD,hx,hg=>aWy (hK _ _ _ _ h _ _ _ _ _ _ hD hx hg)
 |.ret,fs,hp,nx,k,K,ρ,PS,A,H,l,t,h,hK,hD,hx,hg=>cD (hK _ _ _ _ h _ _ _ _ _ _ hD hx hg)
 |.exit i,fs,hp,nx,k,K,ρ,PS,A,H,l,t,h,hK,hD,hx,hg=>sE (hK _ _ _ _ h _ _ _ _ _ _ hD hx hg)
 |.seq a b,fs,hp,nx,k,K,ρ,PS,A,H,l,t,h,hK,hD,hx,hg=>by
  replace h:aEz (wpC E T C tb n AN DR fx a) (wpC E T C tb n AN DR fx b) fs hp nx k:=h
  unfold aEz at h;refine aJ (gN hm hT hC zp a h ?_ hD hx hg);intro e fs' qc nx' q ρ' PS' A' H' l' t' qt zi ze;cases e with
  |normal=>exact cP (gN hm hT hC zp b q hK qt zi ze)
  |exit i=>exact nH (by simp) (hK _ _ _ _ q _ _ _ _ _ _ qt zi ze)
  |goto i=>exact nH (by simp) (hK _ _ _ _ q _ _ _ _ _ _ qt zi ze)
  |ret=>exact nH (by simp) (hK _ _ _ _ q _ _ _ _ _ _ qt zi ze)
  |panic i=>exact nH (by simp) (hK _ _ _ _ q _ _ _ _ _ _ qt zi ze)
  |outgrown=>exact nH (by simp) (hK _ _ _ _ q _ _ _ _ _ _ qt zi ze)
 |.cond c a b,fs,hp,nx,k,K,ρ,PS,A,H,l,t,h,hK,hD,hx,hg=>by
  replace h:aWm c (wpC E T C tb n AN DR fx a) (wpC E T C tb n AN DR fx b) fs hp nx k:=h
  unfold aWm at h;obtain⟨s,u,h1,h2,h3⟩:=aT hD.fr h;split at h3
  ·simp only[Rep] at h2;subst h2;exact fF h1 (gN hm hT hC zp a h3 hK hD hx hg)
  ·simp only[Rep] at h2;subst h2;exact cX h1 (gN hm hT hC zp b h3 hK hD hx hg)
  ·exact h3.elim
 |.block i c,fs,hp,nx,k,K,ρ,PS,A,H,l,t,h,hK,hD,hx,hg=>by
  replace h:aHt i (wpC E T C tb n AN DR fx c) fs hp nx k:=h
  unfold aHt at h;refine eY (gN hm hT hC zp c h ?_ hD hx hg);intro e fs' qc nx' q ρ' PS' A' H' l' t' qt zi ze;cases e with
  |exit j=>
   simp only at q;cases ej:Nat.beq j i with
   |true=>
    rw[ej,QT] at q;have:=QN ej;subst this;exact eX (hK _ _ _ _ q _ _ _ _ _ _ qt zi ze)
   |false=>
    rw[ej,QF] at q;exact tN ej (hK _ _ _ _ q _ _ _ _ _ _ qt zi ze)
  |normal=>exact hK _ _ _ _ q _ _ _ _ _ _ qt zi ze
  |goto i=>exact hK _ _ _ _ q _ _ _ _ _ _ qt zi ze
  |ret=>exact hK _ _ _ _ q _ _ _ _ _ _ qt zi ze
  |panic i=>exact hK _ _ _ _ q _ _ _ _ _ _ qt zi ze
  |outgrown=>exact hK _ _ _ _ q _ _ _ _ _ _ qt zi ze
 |.region id ops d,fs,hp,nx,k,K,ρ,PS,A,H,l,t,h,hK,hD,hx,hg=>by
  replace h:bDn E T C tb n DR fx id ops d fs hp nx k:=h
  unfold bDn at h;refine aVo h hD fun fs hp PS A H h hD g0=>?_
  replace hg:=hg.trans g0
  clear g0;cases d with
  |false=>
   simp only at h;refine aB (E:=E) (iO hT hC hD ⟨rfl,rfl,rfl,(fun h=>by cases h),(fun h=>by cases h),(fun h=>by cases h),zp⟩ h ?_);intro fs' qc nx' q ρ' PS' A' H' l' t' i' qt hr ze;exact gW (hK _ _ _ _ q _ _ _ _ _ _ qt (hx.trans hr) (hg.trans ze))
  |true=>
   simp only at h;cases ez:aM id DR.z
   case true=>
    rw[ez,QT] at h;have hd:=h.h;have ed:zO ops=true:=by
     cases ed:zO ops
     ·rw[ed] at hd;cases hd
     ·rfl
    rw[ed,QT] at hd;simp only[zO,QB] at ed;have h:=h.t;obtain⟨o,ho,hq,xl,yj,hpo,qv⟩:∃o,ops.toList.drop (zJ ops)=[o]/\bX E o.op=false/\o.guard=none/\(∀c,o.op≠.call c)/\dB (bef ops) (vG 0 ops.toList)=true/\((List.range (zJ ops)).all fun i=>((bef ops).getD (zJ ops) 0).testBit i)=true:=by
     unfold zlB at hd;split at hd
     ·rename_i e;rw[QB] at hd;exact⟨_,e,rfl,rfl,(fun c h=>by cases h),hd.1,hd.2⟩
     ·cases hd
    rw[ho] at h;refine aVj (E:=E) hm (vG 0 ops.toList) (gE (stD fs hp (xK id DR.dr).1) PS++L0) ((lT _ _).append (List.Sublist.refl _)) ed.1 hpo (aHm ed.2.2.2) (zJ ops) o ho hq xl qv (iO hT hC hD ⟨rfl,rfl,rfl,fun _=>rfl,fun _ i hi=>?_,fun _ _=>⟨rfl,rfl⟩,zp⟩ h ?_) (.inr yj)
    ·obtain⟨v,hv⟩:=wA hD.hp hi;rcases Nat.lt_or_ge i nx with h1|h1
     ·exact h1
     ·rw[hD.no i h1] at hv;cases hv
    ·intro fs' qc nx' q ρ' PS' A' H' l' t' i' qt hr ze;refine aXz (iO hT hC qt ⟨rfl,rfl,rfl,(fun h=>by cases h),(fun h=>by cases h),(fun h=>by cases h),zp⟩ q ?_);intro fs2 zk nx2 q2 ρ2 PS2 A2 H2 l2 t2 i2 xe v9 vj;exact gW (hK _ _ _ _ q2 _ _ _ _ _ _ xe ((hx.trans hr).trans v9) ((hg.trans ze).trans vj))
   case false=>
    rw[ez,QF] at h;have hd:=h.h;simp only[zO,QB] at hd;have h:=h.t;refine aUb (E:=E) hm _ _ (gE (stD fs hp (xK id DR.dr).1) PS++L0) ((lT _ _).append (List.Sublist.refl _)) hd.1 hd.2.1 hd.2.2.1 (aHm hd.2.2.2) (iO hT hC hD ⟨rfl,rfl,rfl,fun _=>rfl,fun _ i hi=>?_,fun _ _=>⟨rfl,rfl⟩,zp⟩ h ?_)
    ·obtain⟨v,hv⟩:=wA hD.hp hi;rcases Nat.lt_or_ge i nx with h1|h1
     ·exact h1
     ·rw[hD.no i h1] at hv;cases hv
    ·intro fs' qc nx' q ρ' PS' A' H' l' t' i' qt hr ze;exact gW (hK _ _ _ _ q _ _ _ _ _ _ qt (hx.trans hr) (hg.trans ze))
 |.loop c,fs,hp,nx,k,K,ρ,PS,A,H,l,t,h,hK,hD,hx,hg=>by
  replace h:aWz AN fx c (wpC E T C tb n AN DR fx c) fs hp nx k:=h
  unfold aWz at h;split at h
  ·exact h.elim
  ·rename_i an han;cases eun:Nat.beq an.un 0 with
   |false=>
    rw[eun,QF] at h;obtain⟨f0,l0,h,b8,xr⟩:=aBl hD.fr h
    refine pJ (τ:=US) (fun s=>s.n) (fun s=>s.l) (fun s=>s.H) (fun s=>s.A) (fun s=>flt s.PS++L0)
     (fun s=>∃ρ,bFt (wpC E T C tb n AN DR fx c) (an.lv++vks an.vr) s.n s.f s.h s.nx k/\Den E ρ s.nx s.f s.h s.PS s.A s.H s.l/\FxR fx ρe ρ/\Gr Ae He s.A s.H)
     ⟨an.un,f0,hp,l0,H,A,PS,nx⟩ ⟨ρ,h,⟨hD.no,hD.one,b8,hD.hp⟩,hx,hg⟩ xr rfl rfl (List.Sublist.refl _) ?_
    rintro⟨m,f1,h1,l1,H1,A1,PS1,nx1⟩ ⟨ρ2,i1,i2,i3,i4⟩ t2;cases m with
    |zero=>exact(i1:False).elim
    |succ m=>
     simp only[bDs] at i1;refine gN hm hT hC zp c i1 ?_ i2 i3 i4;intro e fs' qc nx' q ρ' PS' A' H' l' t' qt zi ze;cases e with
     |normal=>
      simp only at q;obtain⟨f2,l2,q,q2,q3⟩:=aBl qt.fr q;exact jK ⟨m,f2,qc,l2,H',A',PS',nx'⟩ (Nat.lt_succ_self m) ⟨ρ',q,⟨qt.no,qt.one,q2,qt.hp⟩,zi,ze⟩ q3 rfl rfl (List.Sublist.refl _)
     |exit i=>exact eS (by simp) (hK _ _ _ _ q _ _ _ _ _ _ qt zi ze)
     |goto i=>exact eS (by simp) (hK _ _ _ _ q _ _ _ _ _ _ qt zi ze)
     |ret=>exact eS (by simp) (hK _ _ _ _ q _ _ _ _ _ _ qt zi ze)
     |panic i=>exact eS (by simp) (hK _ _ _ _ q _ _ _ _ _ _ qt zi ze)
     |outgrown=>exact eS (by simp) (hK _ _ _ _ q _ _ _ _ _ _ qt zi ze)
   |true=>
   rw[eun,QT] at h;refine xZ h hD fun fs hp PS A H h hD g0=>?_
   replace hg:=hg.trans g0
   clear g0;obtain⟨hp,h,hD⟩:=aTf h hD;obtain⟨fs1,ya,nx1,ρ1,PS1,h,zr,qf,yn⟩:∃fs1 ya nx1 ρ1 PS1,_/\Den E ρ1 nx1 fs1 ya PS1 A H l/\RMle ρ ρ1/\flt PS1=flt PS:=by
    obtain⟨tf,nxb,ρb,PSb,hb,hDb,b9,aa⟩:=yF h hD;obtain⟨fs1,ya,nx1,ρ1,PS1,h,zr,qf,yn⟩:=aDe hb hDb
    replace qf:=b9.trans qf
    replace yn:=yn.trans aa
    obtain⟨fs2,zk,nx2,ρ2,PS2,h2,xe,yg,mv⟩:=tX h zr;exact⟨fs2,zk,nx2,ρ2,PS2,h2,xe,qf.trans yg,mv.trans yn⟩
   obtain⟨f0,l0,h,b8,xr⟩:=aBl zr.fr h;rw[<-yn]
   refine pJ (τ:=LS) (fun s=>((an.mu.ev s.f s.h).getD 0).toNat) (fun s=>s.l) (fun s=>s.H) (fun s=>s.A) (fun s=>flt s.PS++L0)
    (fun s=>InF (vks an.vr) f0 s.f/\InH (hvR f0 (vks an.vr)++hvB f0 ya an.ob) ya s.h/\an.J f0 ya s.f s.h/\(∃ρ,Den E ρ nx1 s.f s.h s.PS s.A s.H s.l/\FxR fx ρe ρ)/\Gr Ae He s.A s.H)
    ⟨f0,ya,l0,H,A,PS1⟩ ⟨?_,?_,h.h,⟨ρ1,⟨zr.no,zr.one,b8,zr.hp⟩,hx.le qf⟩,hg⟩ xr rfl rfl (List.Sublist.refl _) ?_
   ·have key:∀f:FR,InF (vks an.vr) f f:=by
     intro f
     induction f with
     |nil=>exact .nil
     |cons a f ih=>
      obtain⟨k,v⟩:=a;cases e:aM k (vks an.vr) with
      |true=>
       refine .turn e ?_ ih;cases v with
       |agg l=>exact .agg (ShL.refl l)
       |_=>exact .sc .same (fun l e=>by cases e)
      |false=>exact .stay e ih
    exact key f0
   ·have key:∀f:HP,InH (hvR f0 (vks an.vr)++hvB f0 ya an.ob) f f:=by
     intro f
     induction f with
     |nil=>exact .nil
     |cons a f ih=>
      obtain⟨k,v⟩:=a;cases e:aM k (hvR f0 (vks an.vr)++hvB f0 ya an.ob) with
      |true=>
       refine .turn e ?_ ih;exact ShO.refl v
      |false=>exact .stay e ih
    exact key ya
   ·rintro s ⟨i1,i2,i3,⟨ρ2,i4,i5⟩,i6⟩ t2;have hb:=aCv (aBn h.t i1) i2 ⟨i3⟩;refine gN hm hT hC zp c hb ?_ i4 i5 i6;intro e fs' qc nx' q ρ' PS' A' H' l' t' qt zi ze;cases e with
    |normal=>
     simp only at q;obtain⟨fs',qc,nx',ρ2,PS2,q,xe,yg,mv⟩:=tX q qt
     replace zi:=zi.le yg
     rw[<-mv]
     replace qt:=xe
     simp only[aXi] at q;obtain⟨f2,l2,q,q1,q2,q3⟩:=aGo qt.fr q;obtain⟨h2,PS2,hrr,PSr,q,q4,q5,_,q6⟩:=aDh qt.hp q;cases eb:fxB (thF (vks an.vr) fs' f0++thH (hvR f0 (vks an.vr)++hvB f0 ya an.ob) qc ya) nx1 fx with
     |false=>rw[eb] at q;exact q.elim
     |true=>
      rw[eb,QT] at q;refine bAd (L':=(flt PS2++flt PSr)++L0) (List.Perm.append_right _ q6) ?_;refine jK ⟨f2,h2,l2,H',A',PS2⟩ ?_ ⟨q1,q4,q.h,⟨_,⟨fun i hi=>if_neg (Nat.not_lt.2 hi),fun i v hv=>?_,q2,q5⟩,fun i hi v hv=>?_⟩,ze⟩ q3 rfl rfl ?_
      ·have q7:=q.t;unfold evK at q7;split at q7
       ·rename_i a ha;split at q7
        ·rename_i b w8;have:=q7.h;simp only[ha,w8,Option.getD_some];omega
        ·exact q7.elim
       ·exact q7.elim
      ·split at hv
       ·exact qt.one _ _ hv
       ·cases hv
      ·obtain⟨e1,e2⟩:=aJk eb i hi;exact(if_pos e2).trans (by rw[e1];exact zi i hi v hv)
      ·simp only;exact(List.sublist_append_left _ _).append (List.Sublist.refl _)
    |exit i=>exact eS (by simp) (hK _ _ _ _ q _ _ _ _ _ _ qt zi ze)
    |goto i=>exact eS (by simp) (hK _ _ _ _ q _ _ _ _ _ _ qt zi ze)
    |ret=>exact eS (by simp) (hK _ _ _ _ q _ _ _ _ _ _ qt zi ze)
    |panic i=>exact eS (by simp) (hK _ _ _ _ q _ _ _ _ _ _ qt zi ze)
    |outgrown=>exact eS (by simp) (hK _ _ _ _ q _ _ _ _ _ _ qt zi ze)
 |.goto _,fs,hp,nx,k,K,ρ,PS,A,H,l,t,h,hK,hD,hx,hg=>(h:False).elim
 |.scope _,fs,hp,nx,k,K,ρ,PS,A,H,l,t,h,hK,hD,hx,hg=>(h:False).elim
 |.refuse _,fs,hp,nx,k,K,ρ,PS,A,H,l,t,h,hK,hD,hx,hg=>(h:False).elim
 |.rangeFunc _ _ _ _,fs,hp,nx,k,K,ρ,PS,A,H,l,t,h,hK,hD,hx,hg=>(h:False).elim
end
end Go.AM
namespace Go.AM
open Go.RowKit
variable [σ:Sg]
def zL:VL->Nat->List (Nat×Value)->List (Nat×Value)
 |[],_,acc=>acc
 |v::r,i,acc=>zL r (i+1) ((i,v)::acc)
theorem aLs(n:Nat):∀(vs:VL) (i:Nat) (acc:LV),(fr n .nil (zL vs i acc)).tr=aIu vs i (fr n .nil acc).tr
 |[],i,acc=>rfl
 |v::r,i,acc=>by simp only[zL,aLs n r,aIu];rfl
theorem nL{vs:VL}{n:Nat}(h:vs.length<=n):sI vs n=fr n .nil (zL vs 0 []):=by
 have e1:=aLs n vs 0 [];have e2:=aDi n .nil (zL vs 0 []);unfold sI;rw[show vs.length+(n - vs.length)=n by omega];cases hf:fr n .nil (zL vs 0 []) with
 |mk a b=>
  rw[hf] at e1 e2;simp only at e1 e2;subst e1;subst e2;rfl
section
variable {P:PG}{E:Env P}{T:TTb}{C:CTb}{tb:TBs}{n:Nat}{AN:List (Nat×Ann)}{DR:DRs}{S:AH}{A0:NQ}{L0:OL}
section
variable {ρ:RM}{A A1:NQ}{H H1:AH}{nx:Nat}{fs:FR}{hp:HP}{PS:PSs}{l:LV}
theorem tH:∀{ss:SL} {vs:VL} {i:Nat} {fa:FR} {la:LV},Reps ρ A H ss vs->RepF ρ A H fa la->RepF ρ A H (ent ss i fa) (zL vs i la)
 |[],[],i,fa,la,_,h=>h
 |s::ss,v::vs,i,fa,la,h,k=>by simp only[Reps] at h;exact tH (ss:=ss) (vs:=vs) (fa:=(i,s)::fa) (la:=(i,v)::la) h.2 ⟨v,la,rfl,h.1,k⟩
 |[],_::_,_,_,_,h,_=>by simp only[Reps] at h
 |_::_,[],_,_,_,h,_=>by simp only[Reps] at h
theorem aFm:∀{ps:List PK} {ss:SL},AreP ps ss->ss.length=ps.length
 |_,_,.nil=>rfl
 |_,_,.cons h t=>by simp[aFm t]
theorem lG:∀{hp:HP} {PS:PSs} {A:NQ} {H0 H:AH},RepH E ρ A H0 hp PS->HS S H0 A0 A (flt PS++L0) H->∃A1 H1,Gr A H0 A1 H1/\HS S H1 A0 A1 L0 H/\∀i b ks r,hget i hp=some (.row b ks r)->∃x,ρ i=some x/\CellA A1 H1 (.row b ks) x (.row r)
 |[],PS,A,H0,H,h,hH=>by
  have h:PS=[]:=h;subst h;exact⟨A,H0,Gr.refl _ _,hH,fun i b ks r e=>by simp[hget] at e⟩
 |(j,.oth o)::r,PS,A,H0,H,⟨L,PS',h1,h2,h3⟩,hH=>by
  subst h1;have ju:HS S H0 A0 A (flt PS'++L0) H:=hH.subl (by simp only[flt,QA];exact List.sublist_append_right _ _);obtain⟨A1,H1,g,q,f⟩:=lG h3 ju;refine⟨A1,H1,g,q,fun i b ks rr e=>?_⟩;simp only[hget] at e;cases eb:Nat.beq j i with
  |true=>rw[eb,QT] at e;cases e
  |false=>rw[eb,QF] at e;exact f i b ks rr e
 |(j,.box t cs)::r,PS,A,H0,H,⟨L,PS',h1,h2,h3⟩,hH=>by
  subst h1;have ju:HS S H0 A0 A (flt PS'++L0) H:=hH.subl (by simp only[flt,QA];exact List.sublist_append_right _ _);obtain⟨A1,H1,g,q,f⟩:=lG h3 ju;refine⟨A1,H1,g,q,fun i b ks rr e=>?_⟩;simp only[hget] at e;cases eb:Nat.beq j i with
  |true=>rw[eb,QT] at e;cases e
  |false=>rw[eb,QF] at e;exact f i b ks rr e
 |(j,.row b ks rr)::r,PS,A,H0,H,⟨L,PS',h1,⟨x,h2,ww⟩,h3⟩,hH=>by
  subst h1;obtain⟨A2,g2,q2,a,rfl,rx⟩:=hH.freezeS ww (by simp only[flt,QA];exact Takes.ow ww [] _);obtain⟨A1,H1,g,q,f⟩:=lG (RepH.mono (RMle.refl _) g2 h3) q2;refine⟨A1,H1,g2.trans g,q,fun i b' ks' rr' e=>?_⟩;simp only[hget] at e;cases eb:Nat.beq j i with
  |true=>
   rw[eb,QT] at e;cases e;have:=QN eb;subst this;exact⟨_,h2,CellA.gr g _ _ _ rx.cell⟩
  |false=>rw[eb,QF] at e;exact f i b' ks' rr' e
mutual
theorem aRr(g:Gr A H A1 H1)(f:∀i b ks r,hget i hp=some (.row b ks r)->∃x,ρ i=some x/\CellA A1 H1 (.row b ks) x (.row r)):∀{s:SV} {v:Value},Rep ρ A H s v->Rep ρ A1 H1 (fzS hp s) v
 |.ow i,v,h=>by
  simp only[fzS];split
  ·rename_i b ks l hg;obtain⟨x,h1,h2⟩:=f i b ks l hg;simp only[Rep] at h ⊢;rw[h1] at h;cases h;exact h2
  ·exact Rep.mono (RMle.refl _) g h
 |.agg l,v,h=>by simp only[Rep,fzS] at h ⊢;obtain⟨vs,h1,h2⟩:=h;exact⟨vs,h1,fzL_ok g f h2⟩
 |.tup l,v,h=>Rep.mono (RMle.refl _) g h
 |.fn _ l,v,h=>Rep.mono (RMle.refl _) g h
 |.ptr _ _,v,h=>Rep.mono (RMle.refl _) g h
 |.op _ _ _ _,v,h=>Rep.mono (RMle.refl _) g h
 |.undef,v,h=>Rep.mono (RMle.refl _) g h
 |.int _ _,v,h=>Rep.mono (RMle.refl _) g h
 |.bool _,v,h=>Rep.mono (RMle.refl _) g h
 |.str _,v,h=>Rep.mono (RMle.refl _) g h
 |.nil,v,h=>Rep.mono (RMle.refl _) g h
 |.pnil,v,h=>Rep.mono (RMle.refl _) g h
 |.row _ _ _,v,h=>Rep.mono (RMle.refl _) g h
 |.el _ _ _,v,h=>Rep.mono (RMle.refl _) g h
 |.gp _ _,v,h=>Rep.mono (RMle.refl _) g h
 |.rng _ _,v,h=>Rep.mono (RMle.refl _) g h
 |.any,v,h=>Rep.mono (RMle.refl _) g h
 |.yl _,v,h=>Rep.mono (RMle.refl _) g h
 |.xp _ _ _,v,h=>Rep.mono (RMle.refl _) g h
theorem fzL_ok(g:Gr A H A1 H1)(f:∀i b ks r,hget i hp=some (.row b ks r)->∃x,ρ i=some x/\CellA A1 H1 (.row b ks) x (.row r)):∀{s:SL} {v:VL},Reps ρ A H s v->Reps ρ A1 H1 (fzL hp s) v
 |[],[],h=>by simp only[fzL,Reps]
 |s::t,v::vs,h=>by simp only[fzL,Reps] at h ⊢;exact⟨aRr g f h.1,fzL_ok g f h.2⟩
 |[],_::_,h=>by simp only[Reps] at h
 |_::_,[],h=>by simp only[Reps] at h
end
theorem mG(hT:dM E T)(hD:Den E ρ nx fs hp PS A H l):∀{rs:List ResultVar} {K:SL->Prop},uD T fs hp rs K->∃ss us,K ss/\Reps ρ A H ss us/\ResOk E S H A0 A (flt PS++L0) l rs us
 |[],K,h=>⟨[],[],h,by simp only[Reps],.nil⟩
 |.tmp s::r,K,h=>by
  rw[zQ] at h;simp only[aKe] at h;split at h
  ·rename_i v hv;obtain⟨u,h1,h2⟩:=hD.fr.get hv;obtain⟨ss,us,k1,k2,k3⟩:=mG hT hD h;exact⟨_,_,k1,by simp only[Reps];exact⟨h2,k2⟩,.tmp h1 k3⟩
  ·exact h.elim
 |.cell s ty::r,K,h=>by
  rw[zQ] at h;simp only[aKe] at h;split at h
  ·rename_i i o hv;obtain⟨u,h1,h2⟩:=hD.fr.get hv;simp only[Rep] at h2;obtain⟨N,e1,rfl⟩:=h2;split at h
   ·rename_i bt cs hg;obtain⟨La,X,Y,qs,⟨N',vs,r1,r2,r3⟩,_⟩:=hD.hp.get hg;rw[e1] at r1;simp only[Option.some.injEq,Value.pointer.injEq,Addr.mk.injEq] at r1;have eN:N'=N:=by omega
    subst eN;subst r2;obtain⟨s',v,k1,k2,k3⟩:=tT hT h r3;obtain⟨ss,us,q1,q2,q3⟩:=mG hT hD k1;refine⟨_,_,q1,by simp only[Reps];exact⟨k2,q2⟩,.cell h1 (CellsAt.own k3 (sz:=fD E bt) (ex:=true) ?_) q3⟩;rw[qs,bH];simp only[flt];exact List.mem_append_left _ (List.mem_append_right _ (List.mem_append_left _ (List.mem_cons_self ..)))
   ·exact h.elim
  ·exact h.elim
end
theorem aC(hm:P.follows .mixedOrders=true)(hT:dM E T)(hC:AllC E tb C){g:FuncId}{c:Ctr}{rs:List ResultVar}{body:Code}(hg:E.fn g=some ⟨n,rs,body⟩)(h:wfun E T C tb n AN DR c rs body):CtrOk P tb g c:=by
 intro S H0 A0 A L0 ss vs zp ap hr qo H hH;unfold wfun at h;cases en:Nat.ble c.ps.length n with
 |false=>rw[en] at h;exact h.elim
 |true=>
  rw[en,QT] at h;have qe:vs.length<=n:=by rw[hr.len,aFm ap];exact QL en
  have h:=xM h ap ⟨qo⟩;refine xW (l:=zL vs 0 []) (L:=L0) hg (nL qe) ?_ hH;have:=gN (S:=S) (A0:=A0) (L0:=L0) (ρe:=noR) (Ae:=A) (He:=H0) (ρ:=noR) (PS:=[]) (t:=.nil) (K:=vL E rs fun u H'=>∃H1 A1,Gr A H0 A1 H1/\HS S H1 A0 A1 L0 H'/\∃rs us,AreP c.rs rs/\Reps noR A1 H1 rs us/\u=bK us/\c.post ss rs) hm hT hC ⟨zp,fun e=>by cases e⟩ body h ?_ ⟨fun _ _=>rfl,(fun i v e=>by cases e),tH hr rfl,rfl⟩ (fun i hi=>by cases hi) (Gr.refl _ _)
  ·exact this
  ·intro e fs hp nx q ρ PS A' H' l t hD hx ze;have key:∀q:uD T fs hp rs fun vs=>iM (fzL hp vs) fun vs=>yH c.rs vs fun vs=>Ob (c.post ss vs) True,∀K,HS S H' A0 A' (flt PS++L0) K->∃us,bP E (fr n t l) K rs=some us/\∃H1 A1,Gr A H0 A1 H1/\HS S H1 A0 A1 L0 K/\∃rs us',AreP c.rs rs/\Reps noR A1 H1 rs us'/\bK us=bK us'/\c.post ss rs:=by
    intro q K hK;obtain⟨ss',us,k1,k2,k3⟩:=mG (S:=S) (A0:=A0) (L0:=L0) hT hD q;obtain⟨A1,H1,g1,g2,g3⟩:=lG hD.hp hK;have r1:=fzL_ok g1 g3 k2;obtain⟨ss2,q1,q2,q3⟩:=aBk (cF k1) r1;exact⟨us,k3.ok hK,H1,A1,ze.trans g1,g2,ss2,us,q2,sB q2 q3,rfl,q1.h⟩
   cases e with
   |normal=>
    intro K hK;obtain⟨us,a,b⟩:=key q K hK;exact⟨.inl rfl,us,a,b⟩
   |ret=>
    intro K hK;obtain⟨us,a,b⟩:=key q K hK;exact⟨.inr rfl,us,a,b⟩
   |exit i=>exact q.elim
   |goto i=>exact q.elim
   |panic i=>exact q.elim
   |outgrown=>exact q.elim
theorem lI:∀{l:NL} {K:NL->Prop},xD l K->K l
 |[],K,h=>h
 |i::r,K,h=>lI (l:=r) (K:=fun r=>K (i::r)) (iH (n:=i) (K:=fun i=>xD r fun r=>K (i::r)) h)
theorem iw_of(hm:P.follows .mixedOrders=true)(hT:dM E T)(hC:AllC E tb C){g:FuncId}{rs:List ResultVar}{body:Code}(hg:E.fn g=some ⟨n,rs,body⟩):fC E tb g (bEh E T C tb n AN DR rs body):=by
 intro fe S H0 A0 A L0 ρ PS ss vs hp nx K zp zy zw hr hh h H hH;unfold bEh at h;cases en:Nat.ble (iJ ss) n with
 |false=>rw[en] at h;exact h.elim
 |true=>
  rw[en,QT] at h;have h:=lI h;have qe:vs.length<=n:=by rw[hr.len,<-dY];exact QL en
  refine xW (l:=zL vs 0 []) (L:=flt PS++L0) hg (nL qe) ?_ hH;refine gN (ρe:=ρ) (Ae:=A) (He:=H0) hm hT hC ⟨zp,fun e=>by cases e⟩ body h ?_ ⟨zy,zw,tH hr rfl,hh⟩ (fun i _ v hv=>hv) (Gr.refl _ _);intro e fs hp nx q ρ1 PS1 A' H' l t hD hx ze;have main:∀{fx:NL},FxR fx ρ ρ1->∀q:uD T fs hp rs fun vs=>K fx (sX vs) hp nx,∀K',HS S H' A0 A' (flt PS1++L0) K'->∃us,bP E (fr n t l) K' rs=some us/\∃H1 A1 ρ' PS' fx s qc nx',Gr A H0 A1 H1/\HS S H1 A0 A1 (flt PS'++L0) K'/\K fx s qc nx'/\FxR fx ρ ρ'/\(∀i,nx'<=i->ρ' i=none)/\(∀i v,ρ' i=some v->v.oneCell'=true)/\RepH E ρ' A1 H1 qc PS'/\Rep ρ' A1 H1 s (bK us):=by
   intro fx hx q K' hK;obtain⟨ss',us,k1,k2,k3⟩:=mG (S:=S) (A0:=A0) (L0:=L0) hT hD q;exact⟨us,k3.ok hK,H',A',ρ1,PS1,_,_,hp,nx,ze,hK,k1,hx,hD.no,hD.one,hD.hp,vP k2⟩
  cases e with
  |normal=>
   intro K' hK;obtain⟨us,a,b⟩:=main hx q K' hK;exact⟨.inl rfl,us,a,b⟩
  |ret=>
   intro K' hK;obtain⟨us,a,b⟩:=main hx q K' hK;exact⟨.inr rfl,us,a,b⟩
  |exit i=>exact q.elim
  |goto i=>exact q.elim
  |panic i=>exact q.elim
  |outgrown=>exact q.elim
theorem cK(hm:P.follows .mixedOrders=true)(hT:dM E T)(hC:AllC E tb C){g:FuncId}{F:Func}(hg:∀c,F.body=some c->E.fn g=some ⟨F.ntmps,F.results.toList,c⟩):fC E tb g (dQ E T C tb AN DR F):=by
 unfold dQ;cases e:F.body with
 |none=>intro fe S H0 A0 A L0 ρ PS ss vs hp nx K zp zy zw hr hh h;exact h.elim
 |some c=>exact iw_of hm hT hC (hg c e)
theorem AllC.nil:AllC E tb []:=fun g c h=>by cases h
theorem AllC.gam(h:AllC E tb C)(γ:Gam):AllC (γ:=γ) E tb C:=fun g c e=>⟨(h g c e).1,(h g c e).2.1,(h g c e).2.2.1,(h g c e).2.2.2.1,fun W hW=>by cases((h g c e).2.2.2.2 W hW).1⟩
theorem AllC.yld{γ:Gam}{W:Nat->IW}(hy:γ.y=true)(hw:bGd (γ:=γ) E tb W)(h:AllC (γ:=γ) E tb C):AllC (γ:=γ) E tb ((1000000,⟨[],[],fun _=>True,fun _ _=>True,0,some (.yld W)⟩)::C):=fun g' c' e=>by
 simp only[wS] at e;cases eb:Nat.beq 1000000 g' with
 |true=>
  rw[eb,QT] at e;cases e;exact⟨fun _ h=>(by cases h),fun h=>absurd rfl h,(fun ci' e=>by cases e),(fun W' e=>by cases e),fun W' e=>by cases e;exact⟨hy,hw⟩⟩
 |false=>rw[eb,QF] at e;exact h g' c' e
theorem AllC.cons'{g:Nat}{c:Ctr}(h:(c.ext=0->c.io=none->CtrOk P tb g c/\∃fn,E.fn g=some fn)/\(c.ext≠0->aLv P g c.ext)/\(∀ci,c.io=some (.ctr ci)->aW E tb g ci/\∃fn,E.fn g=some fn)/\(∀W,c.io=some (.inl W)->fC E tb g W/\∃fn,E.fn g=some fn)/\∀W,c.io≠some (.yld W))(k:AllC E tb C):AllC E tb ((g,c)::C):=fun g' c' e=>by
 simp only[wS] at e;cases eb:Nat.beq g g' with
 |true=>
  rw[eb,QT] at e;cases e;have:=QN eb;subst this;exact⟨h.1,h.2.1,h.2.2.1,h.2.2.2.1,fun W e=>absurd e (h.2.2.2.2 W)⟩
 |false=>rw[eb,QF] at e;exact k g' c' e
theorem AllC.io{g:Nat}{ci:CtrI}(h:aW E tb g ci)(hf:∃fn,E.fn g=some fn)(k:AllC E tb C):AllC E tb ((g,⟨[],[],fun _=>True,fun _ _=>True,0,some (.ctr ci)⟩)::C):=.cons' ⟨fun _ h=>(by cases h),fun h=>absurd rfl h,(fun ci' e=>by cases e;exact⟨h,hf⟩),(fun W e=>by cases e),fun W h=>by cases h⟩ k
end
end Go.AM
namespace Go.AM
open Go.RowKit
variable [σ:Sg]
def zB(s:SV)(v:Value):Bool:=match s,v with
 |.int k n,.int k' m=>kEq k k'&&(decide (n=m)&&wfB k n)
 |.bool b,.bool c=>b==c
 |.str a,.string b=>decide (a.data.toList=b.data.toList)&&Nat.ble a.size maxLen
 |.nil,.slice none 0 0=>true
 |.pnil,.pointer none=>true
 |.any,_=>true
 |_,_=>false
def zsB:SL->List Value->Bool
 |[],[]=>true
 |s::r,v::q=>zB s v&&zsB r q
 |_,_=>false
section
variable {ρ:RM}{A:NQ}{H:AH}
theorem zB_ok{s:SV}{v:Value}(h:zB s v=true):Rep ρ A H s v:=by
 unfold zB at h;split at h
 ·rename_i k n k' m;simp only[QB,decide_eq_true_eq] at h;obtain⟨h1,h2,h3⟩:=h;have:=gG h1;subst this;subst h2;simp only[Rep];exact⟨trivial,aSx h3⟩
 ·rw[beq_iff_eq] at h;subst h;simp only[Rep]
 ·rename_i a b;simp only[QB,decide_eq_true_eq] at h;have:a=b:=by
   cases a with|mk x=>cases b with|mk y=>cases x with|mk u=>cases y with|mk w=>simp only at h;rw[h.1]
  subst this;simp only[Rep];exact⟨trivial,QL h.2⟩
 ·simp only[Rep]
 ·simp only[Rep]
 ·simp only[Rep]
 ·cases h
theorem aSw:∀{s:SL} {v:VL},zsB s v=true->Reps ρ A H s v
 |[],[],_=>by simp only[Reps]
 |s::r,v::q,h=>by
  simp only[zsB,QB] at h;simp only[Reps];exact⟨zB_ok h.1,aSw h.2⟩
 |[],_::_,h=>by simp[zsB] at h
 |_::_,[],h=>by simp[zsB] at h
end
section
variable {P:PG}(E:Env P)
def plB:List (Nat×Nat×Nat)->List (Nat×Nat)->Bool
 |[],[]=>true
 |(o,_,s)::r,(o',s')::q=>Nat.beq o o'&&(Nat.beq s s'&&plB r q)
 |_,_=>false
def fdB:List (Nat×Nat×Nat)->List Field->Bool
 |[],_=>true
 |(o,t,_)::r,fd::q=>Nat.beq fd.offset o&&(Nat.beq fd.type t&&((match E.inf t with
  |some ii=>!(Nat.beq ii.size 0)
  |none=>false)&&fdB r q))
 |_::_,[]=>false
def smB(t:Nat)(m:Sm)(u:TypeDesc):Bool:=match m,u with
 |.int k,.int k'=>kEq k k'
 |.bool,.bool=>true
 |.str,.string=>true
 |.slice e,.slice e'=>Nat.beq e e'
 |.struct fs,.struct F=>(match wR E t with
  |some pl=>plB fs pl
  |none=>false)&&fdB E fs F.toList
 |.array n e,.array n' e'=>Nat.beq n n'&&Nat.beq e e'
 |.ptr e,.pointer e'=>Nat.beq e e'
 |.map k e,.map k' e'=>Nat.beq k k'&&Nat.beq e e'
 |.bld,.struct _=>true
 |.oth,_=>true
 |_,_=>false
def tyB(t:Nat)(i:TyI):Bool:=match E.inf t,E.und t with
 |some ii,some u=>Nat.beq ii.size i.size&&(Nat.beq ii.bytes i.bytes&&((match ii.zero with
  |some z=>zsB i.zs (ext z).cells.toList&&zAg i.agg z
  |none=>false)&&((dG u==i.agg)&&smB E t i.sm u)))
 |_,_=>false
variable {E}
theorem aSu:∀{fs:List (Nat×Nat×Nat)} {pl:List (Nat×Nat)},plB fs pl=true->pl=fs.map fun x=>(x.1,x.2.2)
 |[],[],_=>rfl
 |(o,t,s)::r,(o',s')::q,h=>by
  simp only[plB,QB] at h;have h1:=QN h.1;have h2:=QN h.2.1;subst h1;subst h2;rw[aSu h.2.2];rfl
 |[],_::_,h=>by simp[plB] at h
 |_::_,[],h=>by simp[plB] at h
theorem aVy:∀{fs:List (Nat×Nat×Nat)} {F:List Field},fdB E fs F=true->∀f o ft s,atF fs f=some (o,ft,s)->∃fd ii,F[f]?=some fd/\fd.offset=o/\fd.type=ft/\E.inf ft=some ii/\Nat.beq ii.size 0=false
 |[],F,_,f,o,ft,s,e=>by simp[atF] at e
 |(o',t,s')::r,fd::q,h,f,o,ft,s,e=>by
  simp only[fdB,QB] at h;cases f with
  |zero=>
   simp only[atF,Option.some.injEq,Prod.mk.injEq] at e;obtain⟨rfl,rfl,rfl⟩:=e;have h3:=h.2.2.1;split at h3
   ·rename_i ii hi;exact⟨fd,ii,rfl,QN h.1,QN h.2.1,hi,by simpa using h3⟩
   ·cases h3
  |succ f=>
   simp only[atF] at e;exact aVy h.2.2.2 f o ft s e
 |_::_,[],h,_,_,_,_,_=>by simp[fdB] at h
theorem bEu{t:Nat}{m:Sm}{u:TypeDesc}(h5:smB E t m u=true):dP E t m u:=by
 unfold smB at h5;split at h5
 ·have:=gG h5;subst this;rfl
 ·rfl
 ·rfl
 ·have:=QN h5;subst this;rfl
 ·rename_i fs F;rw[QB] at h5;have h6:=h5.1;split at h6
  ·rename_i pl rb;refine⟨F,rfl,by rw[rb,aSu h6],fun f o ft s e=>?_⟩;obtain⟨fd,ii,q⟩:=aVy h5.2 f o ft s e;exact⟨fd,ii,by simpa using q⟩
  ·cases h6
 ·rw[QB] at h5;have a:=QN h5.1;have b:=QN h5.2;subst a;subst b;rfl
 ·have:=QN h5;subst this;rfl
 ·rw[QB] at h5;have a:=QN h5.1;have b:=QN h5.2;subst a;subst b;rfl
 ·exact⟨_,rfl⟩
 ·trivial
 ·cases h5
theorem bEc{t:Nat}{i:TyI}(h:tyB E t i=true):TyOk E t i:=by
 unfold tyB at h;split at h
 ·rename_i ii u hi hu;simp only[QB] at h;obtain⟨h1,h2,h3,h4,h5⟩:=h
  replace h1:=QN h1
  replace h2:=QN h2
  split at h3
  ·rename_i z hz;rw[QB] at h3;refine⟨⟨z,?_,fun ρ A H=>aSw h3.1⟩,⟨u,hu,by simpa using h4,bEu h5⟩,fun ii' z' e1 e2=>by rw[hi] at e1;cases e1;rw[hz] at e2;cases e2;exact h3.2⟩;rw[hi];cases ii with|mk a b c=>simp only at h1 h2 hz;subst h1;subst h2;subst hz;rfl
  ·cases h3
 ·cases h
def ttB(E:Env P):TTb->Bool
 |[]=>true
 |(t,i)::r=>tyB E t i&&ttB E r
theorem aPc:∀{T:TTb},ttB E T=true->dM E T
 |[],_,t,i,e=>by cases e
 |(t',i')::r,h,t,i,e=>by
  simp only[ttB,QB] at h;simp only[bF] at e;cases eb:Nat.beq t' t with
  |true=>
   rw[eb,QT] at e;cases e;have:=QN eb;subst this;exact bEc h.1
  |false=>rw[eb,QF] at e;exact aPc h.2 t i e
end
def gI(k:Nat)(fr:FR)(K:Int->Prop):Prop:=match bT k fr with
 |some (.int _ n)=>K n
 |_=>False
def gL(k:Nat)(fr:FR)(hp:HP)(K:Int->Prop):Prop:=match bT k fr with
 |some v=>(match aKy v hp with
  |some n=>K n
  |none=>False)
 |none=>False
def gB(k j:Nat)(fr:FR)(hp:HP)(K:Int->Prop):Prop:=match aWr k j fr hp with
 |some (.int _ n)=>K n
 |_=>False
def gBL(k j:Nat)(fr:FR)(hp:HP)(K:Int->Prop):Prop:=match aWr k j fr hp with
 |some v=>(match aKy v hp with
  |some n=>K n
  |none=>False)
 |none=>False
def tc(ps rs:List PK):Ctr:=⟨ps,rs,fun _=>Pr True,fun _ _=>Pr True,0,none⟩
def tx(k:Nat):Ctr:=⟨[],[],fun _=>Pr True,fun _ _=>Pr True,k,none⟩
end Go.AM
namespace Go.AM
open Go.RowKit
variable [σ:Sg]
def thR:List PI->List SV->Nat->TH
 |.own _ _ _::r,.ow j::vs,nx=>(nx,j)::thR r vs (nx+1)
 |.own _ _ _::r,_::vs,nx=>thR r vs (nx+1)
 |_::r,_::vs,nx=>thR r vs nx
 |_,_,_=>[]
def aUs(th:TH)(no:Nat)(hr:HP)(rs:List PI):SL->Nat->(List SV->Prop)->Prop:=List.rec (motive:=fun _=>List SV->Nat->(List SV->Prop)->Prop) (fun vs _ K=>match vs with
 |[]=>K []
 |_::_=>False) (fun p _ ih vs nx K=>match vs with
 |[]=>False
 |v::vs=>(match p with
  |.d p=>coP p (fzS hr v) fun v=>ih vs nx fun r=>K (v::r)
  |.own _ _ _=>Ag (agC th (.ow nx) v) (cond (Nat.blt nx no) (ih vs (nx+1) fun r=>K (.ow nx::r)) False)
  |_=>False)) rs
def cvR(rs:List PI):SL->HP->Nat->(List SV->HP->Nat->Prop)->Prop:=List.rec (motive:=fun _=>List SV->HP->Nat->(List SV->HP->Nat->Prop)->Prop) (fun vs hp nx K=>K vs hp nx) (fun p _ ih vs hp nx K=>match vs with
 |[]=>K [] hp nx
 |v::vs=>(match p,v with
  |.own b ks _,.nil=>ih vs ((nx,.row b ks [])::hp) (nx+1) fun vs hp nx'=>K (.ow nx::vs) hp nx'
  |_,v=>ih vs hp nx fun vs hp nx=>K (v::vs) hp nx)) rs
section
variable {P:PG}(E:Env P)(T:TTb)(C:CTb)(tb:TBs)
def bBs(ci:CtrI)(ss:SL)(hl:HP)(nl:Nat)(rs:List ResultVar)(e:Exit)(fs:FR)(hp:HP)(nx:Nat):Prop:=
 cond (match e with
  |.normal=>true
  |.ret=>true
  |_=>false) (uD T fs hp rs fun vs=>cvR ci.rs vs hp nx fun vs hp _=>
  nxH (rY (mS ci.ps 0) (mU (plc ci.rs nl (jA (cA ci.ps 0).2 hl)))) (thR ci.rs vs nl++thH (rY (mS ci.ps 0) (mU (plc ci.rs nl (jA (cA ci.ps 0).2 hl)))) hp (plc ci.rs nl (jA (cA ci.ps 0).2 hl))) (nxR ci.rs nl) (plc ci.rs nl (jA (cA ci.ps 0).2 hl)) hp fun h2 hr=>
   aUs (thR ci.rs vs nl++thH (rY (mS ci.ps 0) (mU (plc ci.rs nl (jA (cA ci.ps 0).2 hl)))) hp (plc ci.rs nl (jA (cA ci.ps 0).2 hl))) (nxR ci.rs nl) hr ci.rs vs nl fun rv=>
    cond (fxB (thR ci.rs vs nl++thH (rY (mS ci.ps 0) (mU (plc ci.rs nl (jA (cA ci.ps 0).2 hl)))) hp (plc ci.rs nl (jA (cA ci.ps 0).2 hl))) (nxR ci.rs nl) (cA ci.ps 0).1) (Ob (ci.post ss hl rv h2) True) False) False
def wfunI(n:Nat)(AN:List (Nat×Ann))(DR:DRs)(ci:CtrI)(rs:List ResultVar)(body:Code):Prop:=
 aLc ci.ps [] 0 fun ss hl nl=>cond (Nat.ble (iJ ss) n) (HyP (ci.pre ss hl)->wpC E T C tb n AN DR (cA ci.ps 0).1 body (ent ss 0 []) hl nl fun e fs hp nx=>bBs T ci ss hl nl rs e fs hp nx) False
end
section
variable {P:PG}{E:Env P}{T:TTb}{C:CTb}{tb:TBs}{n:Nat}{AN:List (Nat×Ann)}{DR:DRs}
theorem aAi{ro:NL}{p:Nat×SJ}{r:HP}{K:HP->Prop}:yE ro (p::r) K=cond (aM p.1 ro) (yE ro r fun r=>K (p::r)) (match p with
 |(i,.box t cs)=>aOp aHs cs fun cs=>yE ro r fun r=>K ((i,.box t cs)::r)
 |(i,.row b ks _)=>∀l,yE ro r fun r=>K ((i,.row b ks l)::r)
 |(_,.oth _)=>False):=rfl
theorem uJ{q:NL}{i:Nat}:∀{l:NL},aM i (rY q l)=true->aM i q=false
 |[],h=>by cases h
 |j::r,h=>by
  simp only[rY] at h;cases e:aM j q with
  |true=>rw[e,QT] at h;exact uJ h
  |false=>
   rw[e,QF] at h;simp only[aM] at h;cases e2:Nat.beq j i with
   |true=>rw[<-QN e2];exact e
   |false=>rw[e2,QF] at h;exact uJ h
theorem oU{hv ro:NL}(hd:∀i,aM i hv=true->aM i ro=false):∀{f g:HP} {K:HP->Prop},yE ro f K->InH hv f g->K g
 |[],[],K,h,.nil=>h
 |(i,v)::r,(_,w)::q,K,h,.turn hk hs tt=>by
  rw[aAi,show aM (i,v).1 ro=false from hd i hk,QF] at h;cases hs with
  |box s=>exact oU hd (f:=r) (g:=q) (K:=fun r=>K ((i,.box _ _)::r)) (sS (K:=fun cs=>yE ro r fun r=>K ((i,.box _ cs)::r)) h s) tt
  |row=>exact oU hd (f:=r) (g:=q) (K:=fun r=>K ((i,.row _ _ _)::r)) (h _) tt
  |wk=>exact(h:False).elim
  |mp=>exact(h:False).elim
  |ho=>exact(h:False).elim
  |vals=>exact(h:False).elim
  |bl=>exact(h:False).elim
  |vr=>exact(h:False).elim
 |(i,v)::r,(_,_)::q,K,h,.stay hk tt=>by
  rw[aAi] at h;cases e:aM (i,v).1 ro with
  |true=>rw[e,QT] at h;exact oU hd (f:=r) (g:=q) (K:=fun r=>K ((i,v)::r)) h tt
  |false=>
   rw[e,QF] at h;cases v with
   |box t cs=>exact oU hd (f:=r) (g:=q) (K:=fun r=>K ((i,.box t cs)::r)) (sS (K:=fun cs=>yE ro r fun r=>K ((i,.box t cs)::r)) h (ShL.refl cs)) tt
   |row b ks l=>exact oU hd (f:=r) (g:=q) (K:=fun r=>K ((i,.row b ks l)::r)) (h l) tt
   |oth o=>exact(h:False).elim
section
variable {ρ:RM}{A A1:NQ}{H H1:AH}{hr:HP}{th:TH}{no:Nat}
theorem aDp(g:Gr A H A1 H1)(f:∀i b ks r,hget i hr=some (.row b ks r)->∃x,ρ i=some x/\CellA A1 H1 (.row b ks) x (.row r)):∀{rs:List PI} {vs:SL} {us:VL} {nx:Nat} {K:SL->Prop},aUs th no hr rs vs nx K->Reps ρ A H vs us->∃rv,K rv/\Reps (oB ρ no th) A1 H1 rv us/\∀KK,aMr rs nx KK->KK rv
 |[],[],[],nx,K,h,_=>⟨[],h,by simp only[Reps],fun KK hK=>hK⟩
 |.d p::rs,v::vs,u::us,nx,K,h,hv=>by
  simp only[Reps] at hv;have h:coP p (fzS hr v) fun v=>aUs th no hr rs vs nx fun r=>K (v::r):=h;obtain⟨v',h1,h2,h3⟩:=aJb h (aRr g f hv.1);obtain⟨rv,k1,k2,k3⟩:=aDp g f h1 hv.2;exact⟨v'::rv,k1,by simp only[Reps];exact⟨vQ h2 h3,k2⟩,fun KK hK=>k3 (fun vs=>KK (v'::vs)) (aBu (K:=fun v=>aMr rs nx fun vs=>KK (v::vs)) hK h2)⟩
 |.own b ks bk::rs,v::vs,u::us,nx,K,h,hv=>by
  simp only[Reps] at hv;have h:Ag (agC th (.ow nx) v) (cond (Nat.blt nx no) (aUs th no hr rs vs (nx+1) fun r=>K (.ow nx::r)) False):=h;have h2:=h.t;cases e:Nat.blt nx no with
  |false=>rw[e] at h2;exact h2.elim
  |true=>
   rw[e,QT] at h2;obtain⟨rv,k1,k2,k3⟩:=aDp g f h2 hv.2;exact⟨.ow nx::rv,k1,by simp only[Reps];exact⟨aIe (s:=.ow nx) e h.h (Rep.mono (RMle.refl _) g hv.1),k2⟩,fun KK hK=>k3 (fun vs=>KK (.ow nx::vs)) hK⟩
 |.bx _ _::_,_::_,_::_,_,_,h,_=>(h:False).elim
 |.bxr _ _ _::_,_::_,_::_,_,_,h,_=>(h:False).elim
 |.fn _ _::_,_::_,_::_,_,_,h,_=>(h:False).elim
 |[],_::_,_,_,_,h,_=>(h:False).elim
 |_::_,[],_,_,_,h,_=>(h:False).elim
 |[],[],_::_,_,_,_,h=>by simp only[Reps] at h
 |_::_,_::_,[],_,_,_,h=>by simp only[Reps] at h
theorem aIt:∀{rs:List PI} {vs:SL} {us:VL} {hp:HP} {nx:Nat} {fs:FR} {PS:PSs} {l:LV} {ρ:RM} {K:SL->HP->Nat->Prop},cvR rs vs hp nx K->Den E ρ nx fs hp PS A H l->Reps ρ A H vs us->∃vs' qc nx' ρ' PS',K vs' qc nx'/\Den E ρ' nx' fs qc PS' A H l/\RMle ρ ρ'/\Reps ρ' A H vs' us/\flt PS'=flt PS
 |[],vs,us,hp,nx,fs,PS,l,ρ,K,h,hD,hv=>⟨vs,hp,nx,ρ,PS,h,hD,RMle.refl _,hv,rfl⟩
 |p::rs,[],us,hp,nx,fs,PS,l,ρ,K,h,hD,hv=>⟨[],hp,nx,ρ,PS,h,hD,RMle.refl _,hv,rfl⟩
 |p::rs,v::vs,[],hp,nx,fs,PS,l,ρ,K,h,hD,hv=>by simp only[Reps] at hv
 |p::rs,v::vs,u::us,hp,nx,fs,PS,l,ρ,K,h,hD,hv=>by
  simp only[Reps] at hv;have keep:∀h:cvR rs vs hp nx fun vs hp nx=>K (v::vs) hp nx,∃vs' qc nx' ρ' PS',K vs' qc nx'/\Den E ρ' nx' fs qc PS' A H l/\RMle ρ ρ'/\Reps ρ' A H vs' (u::us)/\flt PS'=flt PS:=fun h=>by
   obtain⟨vs',qc,nx',ρ',PS',k1,k2,k3,k4,k5⟩:=aIt h hD hv.2;exact⟨v::vs',qc,nx',ρ',PS',k1,k2,k3,by simp only[Reps];exact⟨Rep.mono k3 (Gr.refl _ _) hv.1,k4⟩,k5⟩
  cases p with
  |own b ks bk=>
   cases v with
   |nil=>
    have h:cvR rs vs ((nx,.row b ks [])::hp) (nx+1) fun vs hp nx'=>K (.ow nx::vs) hp nx':=h;have h1:=hv.1;simp only[Rep] at h1;subst h1;have qf:=gV (x:=.slice none 0 0) (hD.no nx (Nat.le_refl _));have zr:=hD.push (x:=.slice none 0 0) (o:=.row b ks []) (La:=[]) rfl (fun _ hr=>⟨_,hr,OwS.nil⟩);obtain⟨vs',qc,nx',ρ',PS',k1,k2,k3,k4,k5⟩:=aIt h zr (Reps.mono qf (Gr.refl _ _) hv.2);exact⟨.ow nx::vs',qc,nx',ρ',PS',k1,k2,qf.trans k3,by simp only[Reps,Rep];exact⟨k3 _ _ (if_pos rfl),k4⟩,k5⟩
   |_=>exact keep h
  |_=>exact keep h
end
theorem aV(hm:P.follows .mixedOrders=true)(hT:dM E T)(hC:AllC E tb C){g:FuncId}{ci:CtrI}{rs:List ResultVar}{body:Code}(hg:E.fn g=some ⟨n,rs,body⟩)(h:wfunI E T C tb n AN DR ci rs body):aW E tb g ci:=by
 intro S H0 A0 A L0 ρ PS ss vs hl nl zp mj zy zw hr hh qo H hH;have h:=mj _ h;cases en:Nat.ble (iJ ss) n with
 |false=>rw[en] at h;exact h.elim
 |true=>
  rw[en,QT] at h;have qe:vs.length<=n:=by rw[hr.len,<-dY];exact QL en
  have h:=h ⟨qo⟩;refine xW (l:=zL vs 0 []) (L:=flt PS++L0) hg (nL qe) ?_ hH;refine gN (ρe:=ρ) (Ae:=A) (He:=H0) hm hT hC ⟨zp,fun e=>by cases e⟩ body h ?_ ⟨zy,zw,tH hr rfl,hh⟩ (fun i _ v hv=>hv) (Gr.refl _ _);intro e fs hp nx q ρ1 PS1 A' H' l t hD hx ze;unfold bBs at q
  have main:∀K,HS S H' A0 A' (flt PS1++L0) K->(e=.normal\/e=.ret)/\∃us,bP E (fr n t l) K rs=some us/\∃H1 A1 ρ' PS' ho rv us',Gr A H0 A1 H1/\HS S H1 A0 A1 (flt PS'++L0) K/\
   (∀K:SL->HP->Prop,(yE (mS ci.ps 0) (plc ci.rs nl (jA (cA ci.ps 0).2 hl)) fun ho=>aMr ci.rs nl fun rs=>K rs ho)->K rv ho)/\(∀i,aM i (cA ci.ps 0).1=true->∀v,ρ i=some v->ρ' i=some v)/\(∀i,nxR ci.rs nl<=i->ρ' i=none)/\(∀i v,ρ' i=some v->v.oneCell'=true)/\
   Reps ρ' A1 H1 rv us'/\RepH E ρ' A1 H1 ho PS'/\bK us=bK us'/\ci.post ss hl rv ho:=by
   intro K hK;have he:(e=.normal\/e=.ret)/\(uD T fs hp rs fun vs=>cvR ci.rs vs hp nx fun vs hp _=>
  nxH (rY (mS ci.ps 0) (mU (plc ci.rs nl (jA (cA ci.ps 0).2 hl)))) (thR ci.rs vs nl++thH (rY (mS ci.ps 0) (mU (plc ci.rs nl (jA (cA ci.ps 0).2 hl)))) hp (plc ci.rs nl (jA (cA ci.ps 0).2 hl))) (nxR ci.rs nl) (plc ci.rs nl (jA (cA ci.ps 0).2 hl)) hp fun h2 hr=>
   aUs (thR ci.rs vs nl++thH (rY (mS ci.ps 0) (mU (plc ci.rs nl (jA (cA ci.ps 0).2 hl)))) hp (plc ci.rs nl (jA (cA ci.ps 0).2 hl))) (nxR ci.rs nl) hr ci.rs vs nl fun rv=>
    cond (fxB (thR ci.rs vs nl++thH (rY (mS ci.ps 0) (mU (plc ci.rs nl (jA (cA ci.ps 0).2 hl)))) hp (plc ci.rs nl (jA (cA ci.ps 0).2 hl))) (nxR ci.rs nl) (cA ci.ps 0).1) (Ob (ci.post ss hl rv h2) True) False):=by
    cases e with
    |normal=>exact⟨.inl rfl,q⟩
    |ret=>exact⟨.inr rfl,q⟩
    |exit i=>exact q.elim
    |goto i=>exact q.elim
    |panic i=>exact q.elim
    |outgrown=>exact q.elim
   obtain⟨he,q⟩:=he;refine⟨he,?_⟩;obtain⟨vs1,us,q,r2,r3⟩:=mG (S:=S) (A0:=A0) (L0:=L0) hT hD q;obtain⟨vs2,zk,nx2,ρ2,PS2,q,xe,qf,r4,yn⟩:=aIt q hD r2;obtain⟨h2,PS3,hr,PSr,q,i1,i2,i3,i4⟩:=aDh xe.hp q;have mw:HS S H' A0 A' (flt PSr++(flt PS3++L0)) K:=hK.perm (by
    have e1:(flt PSr++(flt PS3++L0)).Perm ((flt PS3++flt PSr)++L0):=by
     rw[<-QA];exact List.Perm.append_right _ List.perm_append_comm
    rw[<-yn];exact e1.trans (List.Perm.append_right _ i4))
   obtain⟨A1,H1,g1,g2,g3⟩:=lG i3 mw;obtain⟨rv,q,k2,k3⟩:=aDp g1 g3 q r4;cases eb:fxB (thR ci.rs vs2 nl++thH (rY (mS ci.ps 0) (mU (plc ci.rs nl (jA (cA ci.ps 0).2 hl)))) zk (plc ci.rs nl (jA (cA ci.ps 0).2 hl))) (nxR ci.rs nl) (cA ci.ps 0).1 with
   |false=>rw[eb] at q;exact q.elim
   |true=>
    rw[eb,QT] at q;refine⟨us,r3.ok hK,H1,A1,_,PS3,h2,rv,us,ze.trans g1,g2,fun KK hKK=>k3 _ (oU (fun i hi=>uJ hi) hKK i1),fun i hi v hv=>?_,fun i hi=>if_neg (Nat.not_lt.2 hi),fun i v hv=>?_,k2,RepH.mono (RMle.refl _) g1 i2,rfl,q.h⟩
    ·obtain⟨e1,e2⟩:=aJk eb i hi;exact(if_pos e2).trans (by rw[e1];exact qf _ _ (hx i hi v hv))
    ·unfold oB at hv;split at hv
     ·exact xe.one _ _ hv
     ·cases hv
  intro K hK;obtain⟨he,us,a,b⟩:=main K hK;exact⟨he,us,a,b⟩
end
def oL(i:Nat)(hp:HP)(K:Int->Prop):Prop:=match hget i hp with
 |some (.row _ _ l)=>K ((l.length:Nat):Int)
 |_=>False
def oI(i j:Nat)(hp:HP)(K:Int->Prop):Prop:=match hget i hp with
 |some (.box _ cs)=>(match atS cs j with
  |some (.int _ n)=>K n
  |_=>False)
 |_=>False
def rI(j:Nat)(l:SL)(K:Int->Prop):Prop:=match atS l j with
 |some (.int _ n)=>K n
 |_=>False
def AllB(f:CL->Prop)(l:LX)(i:Int):Prop:=∀j:Int,0<=j->j<i->f (elC l j)
theorem AllB.zero{f:CL->Prop}{l:LX}:AllB f l 0:=fun j a b=>absurd b (by omega)
theorem AllB.step{f:CL->Prop}{l:LX}{i:Int}(h:AllB f l i)(hi:f (elC l i)):AllB f l (i+1):=fun j a b=>by
 by_cases e:j=i
 ·rw[e];exact hi
 ·exact h j a (by omega)
theorem AllB.mono{f:CL->Prop}{l:LX}{i k:Int}(h:AllB f l i)(e:k<=i):AllB f l k:=fun j a b=>h j a (by omega)
def AllF(f:CL->Prop)(l:LX)(i:Int):Prop:=0<i->f (elC l 0)
theorem AllF.zero{f:CL->Prop}{l:LX}:AllF f l 0:=fun h=>absurd h (by omega)
theorem AllF.step{f:CL->Prop}{l:LX}{i:Int}(h:AllF f l i)(h0:0<=i)(k:i=0->f (elC l i)):AllF f l (i+1):=fun _=>by
 by_cases e:i=0
 ·have:=k e;rwa [e] at this
 ·exact h (by omega)
theorem AllF.dis{f:CL->Prop}{l:LX}{i n:Int}(h:AllF f l i)(k:n<=i):n<=0\/f (elC l 0):=by
 by_cases e:n<=0
 ·exact .inl e
 ·exact .inr (h (by omega))
def rcI(k j:Nat)(l:SL)(K:Int->Prop):Prop:=match atS l k with
 |some (.agg cs)=>rI j cs K
 |_=>False
def rR(j:Nat)(l:SL)(K:LX->Prop):Prop:=match atS l j with
 |some (.row _ _ m)=>K m
 |_=>False
def gR(k:Nat)(fr:FR)(hp:HP)(K:LX->Prop):Prop:=match bT k fr with
 |some (.row _ _ m)=>K m
 |some (.nil)=>K []
 |some (.ow i)=>(match hget i hp with
  |some (.row _ _ l)=>K l
  |some (.oth (.wk _ _ l))=>K l
  |some (.oth (.ho _ _ l _ _))=>K l
  |_=>False)
 |_=>False
def gHL(k:Nat)(fr:FR)(hp:HP)(K:Int->Prop):Prop:=match bT k fr with
 |some (.ow i)=>(match hget i hp with
  |some (.oth (.ho _ _ _ _ id))=>(match hget id hp with
   |some (.row _ _ l)=>K ((l.length:Nat):Int)
   |_=>False)
  |_=>False)
 |_=>False
def gM(k:Nat)(fr:FR)(hp:HP)(K:(Int->Option CL)->Prop):Prop:=match bT k fr with
 |some (.ow i)=>(match hget i hp with
  |some (.oth (.mp _ _ _ m))=>K m
  |_=>False)
 |_=>False
def rS(j:Nat)(l:SL)(K:Int->Prop):Prop:=match atS l j with
 |some (.str s)=>K ((s.data.toList.length:Nat):Int)
 |_=>False
def gS(k:Nat)(fr:FR)(K:Int->Prop):Prop:=match bT k fr with
 |some (.str s)=>K ((s.data.toList.length:Nat):Int)
 |_=>False
def rL(j:Nat)(l:SL)(K:Int->Prop):Prop:=match atS l j with
 |some (.row _ _ m)=>K ((m.length:Nat):Int)
 |_=>False
def rcL(k j:Nat)(l:SL)(K:Int->Prop):Prop:=match atS l k with
 |some (.agg cs)=>rL j cs K
 |_=>False
def oR(i:Nat)(hp:HP)(K:LX->Prop):Prop:=match hget i hp with
 |some (.row _ _ l)=>K l
 |_=>False
def oCL(i j:Nat)(hp:HP)(K:Int->Prop):Prop:=match hget i hp with
 |some (.box _ cs)=>rL j cs K
 |_=>False
def oG(i j:Nat)(hp:HP)(K:Int->Int->Prop):Prop:=match hget i hp with
 |some (.box _ cs)=>(match atS cs j with
  |some (.rng lo hi)=>K lo hi
  |_=>False)
 |_=>False
theorem aGi{P:PG}{E:Env P}{tb:TBs}{g:FuncId}{c:Nat->CtrI}(h0:∀ss hl,¬(c 0).pre ss hl)(h:∀k,aW E tb g (c k)->aW E tb g (c (k+1))):∀k,aW E tb g (c k)
 |0=>fun S H0 A0 A L0 ρ PS ss vs hl nl _ _ _ _ _ _ hp=>absurd hp (h0 ss hl)
 |k+1=>h k (aGi h0 h k)
end Go.AM
namespace Go.AM
open Go.RowKit
variable [σ:Sg]
abbrev bGg(π:Pins)(b:Nat)(o:Option Obj):Pins:=⟨⟨fun k=>if k=b then o else π.pin k,π.ds⟩⟩
abbrev pds(π:Pins)(ds:List Deferred):Pins:=⟨⟨π.pin,ds⟩⟩
theorem Rel.ds{π:Pins}{φ:PL}{H:AH}{w:World}(R: @Rel σ π φ H w)(ds:List Deferred): @Rel σ (pds π ds) φ H w:=
 @Rel.mk σ (pds π ds) _ _ _ (@Rel.below σ π _ _ _ R) (@Rel.len σ π _ _ _ R) (@Rel.obj σ π _ _ _ R) (@Rel.inj σ π _ _ _ R) (@Rel.pin σ π _ _ _ R) (@Rel.lt σ π _ _ _ R) (@Rel.ro σ π _ _ _ R)
theorem Rel.unds{π:Pins}{ds:List Deferred}{φ:PL}{H:AH}{w:World}(R: @Rel σ (pds π ds) φ H w): @Rel σ π φ H w:=
 @Rel.mk σ π _ _ _ (@Rel.below σ (pds π ds) _ _ _ R) (@Rel.len σ (pds π ds) _ _ _ R) (@Rel.obj σ (pds π ds) _ _ _ R) (@Rel.inj σ (pds π ds) _ _ _ R) (@Rel.pin σ (pds π ds) _ _ _ R) (@Rel.lt σ (pds π ds) _ _ _ R) (@Rel.ro σ (pds π ds) _ _ _ R)
theorem Rel.turn{π:Pins}{φ:PL}{H:AH}{w:World}(R: @Rel σ π φ H w){b:Nat}{x:Obj}(o:Obj)(hb:H.w0.heap.size<=b)(hp:π.pin b=some x)(hc:∀C e f,x≠.cells C e f): @Rel σ (bGg π b (some o)) φ H (w.putObj b o):=by
 have hx:=(@Rel.pin σ π _ _ _ R b x hp);have qj:b<w.heap.size:=(Array.getElem?_eq_some_iff.1 hx.1).1;refine @Rel.mk σ (bGg π b (some o)) _ _ _ ?_ (@Rel.len σ π _ _ _ R) ?_ (@Rel.inj σ π _ _ _ R) ?_ ?_ ?_
 ·have B:= @Rel.below σ π _ _ _ R;exact⟨B.os,B.tape,B.output,by rw[World.putObj_size];exact B.size,fun k hk=>by rw[World.putObj_heap_other (by omega)];exact B.block k hk⟩
 ·intro i o' hi;obtain⟨p,h1,h2,h3⟩:= @Rel.obj σ π _ _ _ R i o' hi;have:p.blk≠b:=hx.2 i p h1 (@Rel.rdN σ π _ _ _ R _ _ hi);exact⟨p,h1,h2,by rw[World.putObj_heap_other this];exact h3⟩
 ·intro k y hk
  replace hk:(if k=b then some o else π.pin k)=some y:=hk
  by_cases e:k=b
  ·subst e;rw[if_pos rfl] at hk;cases hk;exact⟨World.putObj_heap_same qj,hx.2⟩
  ·rw[if_neg e] at hk;have:= @Rel.pin σ π _ _ _ R k y hk;exact⟨by rw[World.putObj_heap_other e];exact this.1,this.2⟩
 ·intro i p hi;rw[World.putObj_size];exact @Rel.lt σ π _ _ _ R i p hi
 ·intro i c hi;obtain⟨h1,p,y,h2,h3,h4⟩:= @Rel.ro σ π _ _ _ R i c hi;refine⟨h1,p,y,h2,?_,h4⟩;show(if p.blk=b then some o else π.pin p.blk)=some y;rw[if_neg];exact h3;intro e;rw[e,hp] at h3;cases h3;obtain⟨C,e',lo,ql,e9,_⟩:=h4;exact hc _ _ _ e9
theorem Rel.allocPin{π:Pins}{φ:PL}{H:AH}{w:World}(R: @Rel σ π φ H w)(o:Obj): @Rel σ (bGg π w.heap.size (some o)) φ H (w.alloc o):=by
 have hs:∀k,k<w.heap.size->(w.alloc o).heap[k]?=w.heap[k]?:=fun k hk=>Below.heap_alloc _ _ _ hk;refine @Rel.mk σ (bGg π w.heap.size (some o)) _ _ _ ((@Rel.below σ π _ _ _ R).alloc (@Rel.below σ π _ _ _ R).size o) (@Rel.len σ π _ _ _ R) ?_ (@Rel.inj σ π _ _ _ R) ?_ ?_ ?_
 ·intro i o' hi;obtain⟨p,h1,h2,h3⟩:= @Rel.obj σ π _ _ _ R i o' hi;exact⟨p,h1,h2,by rw[hs _ (@Rel.lt σ π _ _ _ R _ _ h1)];exact h3⟩
 ·intro k y hk
  replace hk:(if k=w.heap.size then some o else π.pin k)=some y:=hk
  by_cases e:k=w.heap.size
  ·subst e;rw[if_pos rfl] at hk;cases hk;exact⟨World.alloc_heap_new _ _,fun i p hi _=>Nat.ne_of_lt (@Rel.lt σ π _ _ _ R _ _ hi)⟩
  ·rw[if_neg e] at hk;have:= @Rel.pin σ π _ _ _ R k y hk;exact⟨by rw[hs _ (Array.getElem?_eq_some_iff.1 this.1).1];exact this.1,this.2⟩
 ·intro i p hi;rw[World.size_alloc];exact Nat.lt_succ_of_lt (@Rel.lt σ π _ _ _ R i p hi)
 ·intro i c hi;obtain⟨h1,p,y,h2,h3,h4⟩:= @Rel.ro σ π _ _ _ R i c hi;refine⟨h1,p,y,h2,?_,h4⟩;show(if p.blk=w.heap.size then some o else π.pin p.blk)=some y;rw[if_neg];exact h3;exact Nat.ne_of_lt (@Rel.lt σ π _ _ _ R _ _ h2)
theorem Rel.forget{π π':Pins}{φ:PL}{H:AH}{w:World}(R: @Rel σ π' φ H w)(h:∀b x,π.pin b=some x->π'.pin b=some x)(h2:∀b x,π'.pin b=some x->π.pin b=some x\/(∀C e f,x≠.cells C e f)): @Rel σ π φ H w:=by
 refine @Rel.mk σ π _ _ _ (@Rel.below σ π' _ _ _ R) (@Rel.len σ π' _ _ _ R) (@Rel.obj σ π' _ _ _ R) (@Rel.inj σ π' _ _ _ R) (fun k y hk=> @Rel.pin σ π' _ _ _ R k y (h _ _ hk)) (@Rel.lt σ π' _ _ _ R) fun i c hi=>?_;obtain⟨h1,p,y,h3,h4,h5⟩:= @Rel.ro σ π' _ _ _ R i c hi;refine⟨h1,p,y,h3,?_,h5⟩;rcases h2 _ _ h4 with h4|h4
 ·exact h4
 ·obtain⟨C,e',lo,ql,e9,_⟩:=h5;exact(h4 _ _ _ e9).elim
theorem Rel.place{π:Pins}{φ:PL}{H:AH}{w:World}(R: @Rel σ π φ H w){i0:Nat}{o0:AObj}{p0:Place}(h0:H.tr.get i0=some o0)(xr:φ[i0]?=some p0)(q:Place)(hq:q.blk=p0.blk): @Rel σ π (φ++[q]) {H with nx:=H.nx+1} w:=by
 have qo:φ <+: φ++[q]:=⟨_,rfl⟩;have at_:∀{i:Nat} {p:Place},(φ++[q])[i]?=some p->φ[i]?=some p\/(i=φ.length/\p=q):=by
  intro i p h;rw[List.getElem?_append] at h;by_cases e:i<φ.length
  ·rw[if_pos e] at h;exact .inl h
  ·rw[if_neg e] at h;have:i - φ.length=0:=by
    have:=lt_of_getElem? h;simp at this;omega
   rw[this] at h;simp at h;exact .inr ⟨by omega,h.symm⟩
 have old:∀{i:Nat} {o:AObj},H.tr.get i=some o->i<φ.length:=fun h=>by
  obtain⟨p,h1,_⟩:= @Rel.obj σ π _ _ _ R _ _ h;exact lt_of_getElem? h1
 have up:∀{i:Nat} {p:Place},φ[i]?=some p->(φ++[q])[i]?=some p:=fun h=>by
  rw[List.getElem?_append,if_pos (lt_of_getElem? h)];exact h
 refine @Rel.mk σ π _ _ _ (@Rel.below σ π φ H w R) ?_ ?_ ?_ ?_ ?_ ?_
 ·show(φ++[q]).length=H.nx+1;rw[List.length_append,@Rel.len σ π _ _ _ R];rfl
 ·intro i o hi;obtain⟨p,h1,h2,h3⟩:= @Rel.obj σ π _ _ _ R i o hi;exact⟨p,up h1,h2,ORel.mono qo h3⟩
 ·intro i j o o' p p' hi hj hp qc e;rcases at_ hp with hp|⟨h,_⟩
  ·rcases at_ qc with qc|⟨h,_⟩
   ·exact @Rel.inj σ π _ _ _ R i j o o' p p' hi hj hp qc e
   ·have:=old hj;omega
  ·have:=old hi;omega
 ·intro b x hb;have:= @Rel.pin σ π _ _ _ R b x hb;refine⟨this.1,fun i p hi hr=>?_⟩;rcases at_ hi with hi|⟨_,rfl⟩
  ·exact this.2 i p hi hr
  ·rw[hq];exact this.2 i0 p0 xr (@Rel.rdN σ π _ _ _ R _ _ h0)
 ·intro i p hi;rcases at_ hi with hi|⟨_,rfl⟩
  ·exact @Rel.lt σ π _ _ _ R i p hi
  ·rw[hq];exact @Rel.lt σ π _ _ _ R i0 p0 xr
 ·intro i c hi;obtain⟨h1,p,y,h2,h3,h4⟩:= @Rel.ro σ π _ _ _ R i c hi;exact⟨h1,p,y,up h2,h3,RoR.mono qo h4⟩
def YRec(n0:Nat)(p:Tmp)(asg bd:Code)(f1:Fr)(N:Nat)(π:Pins)(φ:PL):Prop:=
 ∃q r,φ[N]?=some q/\n0<=q.tot/\π.pin q.tot=some (.loop r)/\r.state=.ready/\r.pending=none/\r.params= #[p]/\r.assign=asg/\r.body=bd/\r.tmps.size=f1.n/\∀t,VR φ (aN f1 (.tmp t)) (r.tmps.getD t undef)
abbrev bGi(n0:Nat)(p:Tmp)(asg bd:Code)(f1:Fr)(N:Nat):Gam:=⟨⟨true,n0,fun π _ φ=>YRec n0 p asg bd f1 N π φ,fun π ro φ φ' h ⟨q,r,h1,h2,h3,h4,h5,h6,h7,h8,h9,h10⟩=>
 ⟨q,r,(by obtain⟨t,rfl⟩:=h;rw[List.getElem?_append,if_pos (lt_of_getElem? h1)];exact h1),h2,h3,h4,h5,h6,h7,h8,h9,fun t=>(h10 t).mono h⟩⟩⟩
abbrev bGh:Gam:=⟨⟨false,0,fun _ ro _=>ro=none,fun _ _ _ _ _ h=>h⟩⟩
section
variable {P:PG}
theorem AYield.round{n0 N:Nat}{p:Tmp}{asg bd:Code}{f1 fa g1 g2:Fr}{H K1 K2:AH}{o:Oper}{c:Call}{z x:Operand}{f:Fr}{v:Value}(qi:o.op=.call c)(hc:c.callee=.value z)(hz:aN f z=.func (.yield (2*N+1)) ⟨[]⟩ ⟨[]⟩)(ha:c.args.toList=[x])(hx:aN f x=v)
 (hp:f1.put (some p) v=some fa)(hn:H.w0.heap.size=n0)(h1:pM (γ:=allG) P asg .normal g1 K1 fa H)(h2:pM (γ:=allG) P bd .normal g2 K2 g1 K1):AYield (γ:=bGi n0 p asg bd f1 N) P o f H (.bool true) K2:=by
 refine⟨rfl,⟨c,qi⟩,fun π ro φ a w hg hf hR next Q hk=>?_⟩;obtain⟨q,r,y1,y2,y3,y4,y5,y6,y7,y8,y9,y10⟩:=hg;obtain⟨vr,pz⟩:∃u,a.eval x=u:=⟨_,rfl⟩;have hv:VR φ v vr:=by rw[<-hx,<-pz];exact hf x
 have ja:=hf z;rw[hz] at ja;have hae:c.args.map a.eval= #[vr]:=by rw[<-Array.toList_inj];simp[ha,pz]
 have hl:=(@Rel.pin σ π _ _ _ hR _ _ y3).1;have qp:(o.semAt (cM ro).round a.eval).run P w=.ok (.round q.tot r.fn (r.tmps.setIfInBounds p vr) asg bd) w:=by
  rw[Oper.semAt_eq _ _ _ (fun c e=>by rw[qi] at e;cases e)];generalize zj:a.eval z=cc at ja;cases ja with
  |func fn hy q1 q2 q3 q4=>cases hy
  |yl hy q1 q2 q3 q4=>
   rename_i r' a' b';have ea:a'=[]:=List.eq_nil_of_length_eq_zero q1.symm;have eb:b'=[]:=List.eq_nil_of_length_eq_zero q2.symm;subst ea;subst eb;have er:r'=q.tot:=by
    rcases hy with⟨e,_⟩|⟨_,p',qc,rfl⟩
    ·omega
    ·rw[show(2*N+1) / 2=N by omega,y1] at qc;cases qc;rfl
   subst er;have n4:=run_yield (P:=P) (args:= #[vr]) hl (by rw[y6];rfl);rw[y6,y7,y8] at n4;simp only[execOp,qi,resolve,hc,zj,Deferred.ofValue,invoke,hae];simpa using n4
 refine⟨fun _ _=>trivial,?_⟩;rw[qp];refine⟨fun e=>by simp[cM,Fence.wide] at e,roundIn_of_wpIn trivial ?_⟩;show Code.wpIn (cM (some q.tot)) 0 P asg _ _ _;have hF: @FRel σ (pds π []) φ fa {tmps:=r.tmps.setIfInBounds p vr,defers:=[]}:=by
  have: @FRel σ (pds π []) φ f1 {tmps:=r.tmps,defers:=[]}:=⟨rfl,y9,y10⟩;exact @FRel.put σ (pds π []) _ _ _ _ this _ _ _ hv hp
 refine wpIn_mono (h1.2 (pds π []) (some q.tot) φ _ w trivial hF (hR.ds [])) ?_;rintro e a1 w1 ⟨φ1,f',H',e1,e2,e3,e4,rfl,rfl,rfl⟩;have vn:=e3.unds;have px:=(@Rel.pin σ π _ _ _ vn _ _ y3).1;have jc:H'.w0.heap.size<=q.tot:=by rw[h1.1,hn];exact y2
 refine⟨_,run_beginRound px y4,?_⟩;have x6:=vn.turn (.loop {r with state:=.busy}) jc y3 (fun _ _ _ h=>by cases h);show Code.wpIn (cM (some q.tot)) 0 P bd _ _ _;refine wpIn_mono (h2.2 (pds (bGg π q.tot (some (.loop {r with state:=.busy}))) []) (some q.tot) φ1 _ _ trivial e2 (x6.ds [])) ?_;rintro e a2 w2 ⟨φ2,f',H'',d1,d2,d3,d4,rfl,rfl,rfl⟩;have gy:=d3.unds;have dp:H''.w0.heap.size<=q.tot:=by rw[d4];exact jc
 have ab:(bGg π q.tot (some (.loop {r with state:=.busy}))).pin q.tot=some (.loop {r with state:=.busy}):=if_pos rfl;have fo:=(@Rel.pin σ (bGg π q.tot (some (.loop {r with state:=.busy}))) _ _ _ gy _ _ ab).1;have n5:=gy.turn (.loop r) dp ab (fun _ _ _ h=>by cases h);have er:({r with state:=.ready,pending:=none}:Loop)=r:=by
  cases r;simp only at y4 y5;subst y4;subst y5;rfl
 have xu:=run_endRound (P:=P) none fo;simp only[Option.isNone_none,if_true] at xu;have er2:({({r with state:=.busy}:Loop) with state:=.ready,pending:=none}:Loop)=r:=by rw[<-er]
 rw[er2] at xu;refine⟨_,_,xu,?_⟩;refine hk φ2 _ _ (e1.trans d1) (.bool true) ?_;have si:bGg (bGg π q.tot (some (.loop {r with state:=.busy}))) q.tot (some (.loop r))=π:=by
  cases π with|mk d=>
  cases d with|mk pin ds=>
  unfold bGg;congr 2;funext k;by_cases e:k=q.tot
  ·subst e;exact(if_pos rfl).trans y3.symm
  ·exact(if_neg e).trans (if_neg e)
 rw[si] at n5;exact n5
end
end Go.AM
