/-
  An abstract machine that runs a program of the given form, and its soundness, part 12.
-/
import Derived.Test.YtfcmggoiphphnaaGreatDoorAb11
import Derived.RangeFuncRecord
set_option linter.unusedVariables false
set_option linter.unusedSimpArgs false
set_option linter.unusedSectionVars false
noncomputable section
namespace Go.AM
open Go.RowKit
variable [σ:Sg]
section
variable {P:PG}(E:Env P)(T:TTb)(C:CTb)(tb:TBs)
def rkK(k:Nat):Nat:=cond (Nat.ble 7000000 k) (k - 7000000) k
def rkL:NL->List Nat
 |[]=>[]
 |k::r=>rkK k::rkL r
def aMk(fs:FR)(hp:HP):NL->List Nat
 |[]=>[]
 |k::r=>cond (Nat.ble 7000000 k) (match lW (k - 7000000) fs hp with
  |some (.ptr i _)=>i::aMk fs hp r
  |_=>aMk fs hp r) (aMk fs hp r)
def stD(fs:FR)(hp:HP)(ks:NL):NL:=aTy (rU (aMk fs hp ks) (hvR fs (rkL ks)++hvB fs hp (rkL ks))) hp
def wL(k:Nat):List (Nat×(List Nat×Bool))->List Nat×Bool
 |[]=>([],false)
 |(j,v)::r=>cond (Nat.beq j k) v (wL k r)
def aRp(fx:NL)(an:Ann)(hv:NL)(nx:Nat)(f0:FR)(h0:HP)(f1:FR)(h1:HP)(fr':FR)(qc:HP):Prop:=
 nxF (vks an.vr) (thF (vks an.vr) fr' f0++thH hv qc h0) nx fr' f0 fun f2=>nxH hv (thF (vks an.vr) fr' f0++thH hv qc h0) nx h0 qc fun h2 _=>cond (fxB (thF (vks an.vr) fr' f0++thH hv qc h0) nx fx) (Ob (an.J f0 h0 f2 h2) (evK an.mu f2 h2 fun a=>evK an.mu f1 h1 fun b=>Ob (a<b/\0<b) True)) False
abbrev WK:=Exit->FR->HP->Nat->Prop
abbrev WC:=FR->HP->Nat->WK->Prop
def aEb(a b:WC):WC:=fun fs hp nx K=>a fs hp nx fun e fs hp nx=>(match e with
 |.normal=>b fs hp nx K
 |e=>K e fs hp nx)
def aSk(c:Operand)(a b:WC):WC:=fun fs hp nx K=>wop fs c fun c=>(match c with
 |.bool true=>a fs hp nx K
 |.bool false=>b fs hp nx K
 |_=>False)
def aHb(i:Nat)(a:WC):WC:=fun fs hp nx K=>a fs hp nx fun e fs hp nx=>(match e with
 |.exit j=>cond (Nat.beq j i) (K .normal fs hp nx) (K (.exit j) fs hp nx)
 |e=>K e fs hp nx)
def yK(ops:OA):Nat:=ops.size - 1
def zlB(ops:OA):Bool:=match ops.toList.drop (yK ops) with
 |[⟨_,.store _ _ _,_,_,_,none⟩]=>dO (bef ops) (uI 0 ops.toList)&&(List.range (yK ops)).all fun i=>((bef ops).getD (yK ops) 0).testBit i
 |_=>false
def bFu(n:Nat)(DR:DRs)(fx:NL)(id:Nat)(ops:OA)(d:Bool):WC:=fun fs hp nx K=>wHk (bCy id DR.hk) fs hp fun fs hp=>(match d with
 |false=>oP E T C n ⟨false,false,ops,[],[],tb,fx,aJ id DR.nb,aJ id DR.bw⟩ 0 ops.toList fs hp nx fun fs hp nx=>K .normal fs hp nx
 |true=>cond (aJ id DR.z) (Kb (cond (aGa ops) (zlB ops) false) (rG (stD fs hp (wL id DR.dr).1) fun st=>oP E T C n ⟨true,(wL id DR.dr).2,ops,uI 0 ops.toList,st,tb,fx,aJ id DR.nb,aJ id DR.bw⟩ 0 (ops.toList.take (yK ops)) fs hp nx fun fs hp nx=>
  oP E T C n ⟨false,false,ops,[],[],tb,fx,aJ id DR.nb,aJ id DR.bw⟩ (yK ops) (ops.toList.drop (yK ops)) fs hp nx fun fs hp nx=>K .normal fs hp nx)) (Kb (aGa ops) (rG (stD fs hp (wL id DR.dr).1) fun st=>oP E T C n ⟨true,(wL id DR.dr).2,ops,uI 0 ops.toList,st,tb,fx,aJ id DR.nb,aJ id DR.bw⟩ 0 ops.toList fs hp nx fun fs hp nx=>K .normal fs hp nx)))
def bBk(a:WC)(ks:NL)(n:Nat):WC:=Nat.rec (motive:=fun _=>WC) (fun _ _ _ _=>False) (fun _ ih fs hp nx K=>a fs hp nx fun e fs hp nx=>(match e with
 |.normal=>pkF fs ks fun fs=>ih fs hp nx K
 |e=>K e fs hp nx)) n
theorem aOc{a:WC}{ks:NL}{n:Nat}{fs:FR}{hp:HP}{nx:Nat}{K:WK}:bBk a ks (n+1) fs hp nx K=a fs hp nx fun e fs hp nx=>(match e with
 |.normal=>pkF fs ks fun fs=>bBk a ks n fs hp nx K
 |e=>K e fs hp nx):=rfl
def aWn(AN:List (Nat×Ann))(fx:NL)(c:Code)(a:WC):WC:=fun fs hp nx K=>match bCv (rid c) AN with
 |none=>False
 |some an=>cond (Nat.beq an.un 0) (wfz an.fz fs hp fun fs hp=>wdH an.wd fs hp fun hp=>cvB an.cb fs hp nx fun hp nx=>cvt an.vr fs hp nx fun fs hp nx=>wkn an.wk fs hp nx fun fs hp nx=>pkF fs (an.lv++vks an.vr) fun f0=>Ob (an.J f0 hp f0 hp) (aNe (vks an.vr) f0 fun f1=>aPc (hvR f0 (vks an.vr)++hvB f0 hp an.ob) hp fun h1=>HyP (an.J f0 hp f1 h1)->
  a f1 h1 nx fun e fs' qc nx'=>(match e with
    |.normal=>wkn an.wk fs' qc nx' fun fs' qc _=>aRp fx an (hvR f0 (vks an.vr)++hvB f0 hp an.ob) nx f0 hp f1 h1 fs' qc
    |e=>K e fs' qc nx'))) (pkF fs (an.lv++vks an.vr) fun fs=>bBk a (an.lv++vks an.vr) an.un fs hp nx K)
def wpC(n:Nat)(AN:List (Nat×Ann))(DR:DRs)(fx:NL)(c:Code):WC:=Code.rec (motive:=fun _=>WC)
 (skip:=fun fs hp nx K=>K .normal fs hp nx)
 (region:=fun id ops d=>bFu E T C tb n DR fx id ops d)
 (seq:=fun _ _ a b=>aEb a b)
 (cond:=fun c _ _ a b=>aSk c a b)
 (block:=fun i _ a=>aHb i a)
 (loop:=fun c a=>aWn AN fx c a)
 (rangeFunc:=fun _ _ _ _ _ _ _ _ _ _=>False)
 (exit:=fun i fs hp nx K=>K (.exit i) fs hp nx)
 (scope:=fun _ _ _ _ _ _=>False)
 (label:=fun _ fs hp nx K=>K .normal fs hp nx)
 (goto:=fun _ _ _ _ _=>False)
 (ret:=fun fs hp nx K=>K .ret fs hp nx)
 (refuse:=fun _ _ _ _ _=>False) c
mutual
def fzS(hp:HP):SV->SV
 |.ow i=>(match hget i hp with
  |some (.row b ks l)=>.row b ks l
  |_=>.ow i)
 |.agg l=>.agg (fzL hp l)
 |.tup l=>.tup l
 |.fn g l=>.fn g l
 |.ptr i o=>.ptr i o
 |.op i j o m=>.op i j o m
 |.undef=>.undef
 |.int k n=>.int k n
 |.bool b=>.bool b
 |.str s=>.str s
 |.nil=>.nil
 |.pnil=>.pnil
 |.row b ks l=>.row b ks l
 |.el ks c o=>.el ks c o
 |.gp g o=>.gp g o
 |.rng lo hi=>.rng lo hi
 |.any=>.any
 |.yl i=>.yl i
 |.xp i o m=>.xp i o m
 |.ep b ks c o l=>.ep b ks c o l
def fzL(hp:HP):SL->List SV
 |[]=>[]
 |v::r=>fzS hp v::fzL hp r
end
def aKg(fs:FR)(hp:HP)(rv:ResultVar)(ih:(List SV->Prop)->Prop)(K:SL->Prop):Prop:=match rv with
 |.tmp s=>(match bP s fs with
  |some v=>ih fun vs=>K (v::vs)
  |none=>False)
 |.cell s t=>(match bP s fs with
  |some (.ptr i o)=>(match hget i hp with
   |some (.box _ cs)=>kV T false t cs o fun v=>ih fun vs=>K (v::vs)
   |_=>False)
  |_=>False)
def sM(fs:FR)(hp:HP)(rs:List ResultVar):(List SV->Prop)->Prop:=List.rec (motive:=fun _=>(List SV->Prop)->Prop) (fun K=>K []) (fun rv _ ih=>aKg T fs hp rv ih) rs
theorem zS{fs:FR}{hp:HP}{rv:ResultVar}{r:List ResultVar}{K:SL->Prop}:sM T fs hp (rv::r) K=aKg T fs hp rv (sM T fs hp r) K:=rfl
def wret(rs:List ResultVar)(ps:List PK)(post:SL->Prop)(e:Exit)(fs:FR)(hp:HP):Prop:=match e with
 |.normal=>sM T fs hp rs fun vs=>gQ (fzL hp vs) fun vs=>xC ps vs fun vs=>Ob (post vs) True
 |.ret=>sM T fs hp rs fun vs=>gQ (fzL hp vs) fun vs=>xC ps vs fun vs=>Ob (post vs) True
 |_=>False
def ent:SL->Nat->FR->FR
 |[],_,acc=>acc
 |v::r,i,acc=>ent r (i+1) ((i,v)::acc)
def owAs:SL->List Nat
 |[]=>[]
 |v::r=>owS v++owAs r
def owH:HP->List Nat
 |[]=>[]
 |(_,.box _ cs)::r=>aTu cs++owH r
 |_::r=>owH r
def kpI(no:NL):HP->List Nat
 |[]=>[]
 |(i,.row _ _ _)::r=>cond (aJ i no) (kpI no r) (i::kpI no r)
 |(i,_)::r=>i::kpI no r
def fxW(ss:SL)(hp:HP):NL:=kpI (owAs ss++owH hp) hp
def bDi(rs:List ResultVar)(fx:NL)(K:NL->SV->HP->Nat->Prop)(e:Exit)(fs:FR)(hp:HP)(nx:Nat):Prop:=match e with
 |.normal=>sM T fs hp rs fun vs=>K fx (oB vs) hp nx
 |.ret=>sM T fs hp rs fun vs=>K fx (oB vs) hp nx
 |_=>False
def bDo(n:Nat)(AN:List (Nat×Ann))(DR:DRs)(rs:List ResultVar)(body:Code):IW:=fun fe ss hp nx K=>
 cond (Nat.ble (fV ss) n) (oE nx fun nx=>rG (fe++fxW ss hp) fun fx=>wpC E T C tb n AN DR fx body (ent ss 0 []) hp nx (bDi T rs fx K)) False
def bI(AN:List (Nat×Ann))(DR:DRs)(F:Func):IW:=match F.body with
 |some c=>bDo E T C tb F.ntmps AN DR F.results.toList c
 |none=>fun _ _ _ _ _=>False
def wfun(n:Nat)(AN:List (Nat×Ann))(DR:DRs)(c:Ctr)(rs:List ResultVar)(body:Code):Prop:=
 cond (Nat.ble c.ps.length n) (aAr c.ps fun ss=>HyP (c.pre ss)->wpC E T C tb n AN DR [] body (ent ss 0 []) [] 0 fun e fs hp nx=>wret T rs c.rs (c.post ss) e fs hp) False
end
section
variable [γ:Gam]{P:PG}{E:Env P}{T:TTb}{C:CTb}{tb:TBs}{n:Nat}{AN:List (Nat×Ann)}{DR:DRs}{fx:NL}{S He:AH}{A0 Ae:NQ}{L0:OL}{ρe:RM}
omit [γ:Gam] in
def KOK(E:Env P)(n:Nat)(fx:NL)(S:AH)(A0:NQ)(L0:OL)(ρe:RM)(Ae:NQ)(He:AH)(K:AQ)(k:Exit->FR->HP->Nat->Prop):Prop:=
 ∀e fs hp nx,k e fs hp nx->∀ρ PS A H l t,Den E ρ nx fs hp PS A H l->FxR fx ρe ρ->Gr Ae He A H->SK K e (fr n t l) S A0 H A (flt PS++L0)
theorem mF{e:Exit}{K:AQ}{y:Code}{f:Fr}{H0:AH}{A:NQ}{L:OL}(hn:e≠.normal)(h:SK K e f S A0 H0 A L):SK (xV P y K) e f S A0 H0 A L:=fun H hH=>.inr ⟨hn,h H hH⟩
theorem dX{σ:Type}{μ:σ->Nat}{I:σ->Fr->AH->Prop}{s:σ}{e:Exit}{K:AQ}{f:Fr}{H0:AH}{A:NQ}{L:OL}(hn:e≠.normal)(h:SK K e f S A0 H0 A L):SK (aLl μ I s K) e f S A0 H0 A L:=fun H hH=>.inr ⟨hn,h H hH⟩
section
variable {ρ:RM}{A:NQ}{H:AH}{nx:Nat}{th:List (Nat×Nat)}
theorem RepF.set{s:SV}:∀{f:FR} {l:LV} {k:Nat} {K:FR->Prop} {v:Value},RepF ρ A H f l->look k l=some v->Rep ρ A H s v->uH k s f K->∃f',K f'/\RepF ρ A H f' l
 |[],l,k,K,v,h,hl,hs,hK=>⟨[],hK,h⟩
 |(j,w)::r,l,k,K,v,⟨u,l',h1,h2,h3⟩,hl,hs,hK=>by
  subst h1;simp only[aNl] at hK;simp only[look] at hl;cases e:Nat.beq j k with
  |true=>
   rw[e,QT] at hK hl;cases hl;exact⟨_,hK,_,_,rfl,hs,h3⟩
  |false=>
   rw[e,QF] at hK hl;obtain⟨f',k1,k2⟩:=RepF.set h3 hl hs hK;exact⟨_,k1,_,_,rfl,h2,k2⟩
theorem aDp:∀{vr:List (Nat×Option (Nat×List Kd))} {fs:FR} {hp:HP} {nx:Nat} {K:FR->HP->Nat->Prop} {ρ:RM} {PS:PSs} {l:LV},cvt vr fs hp nx K->Den E ρ nx fs hp PS A H l->∃fs' qc nx' ρ' PS',K fs' qc nx'/\Den E ρ' nx' fs' qc PS' A H l/\RMle ρ ρ'/\flt PS'=flt PS
 |[],fs,hp,nx,K,ρ,PS,l,h,hD=>⟨fs,hp,nx,ρ,PS,h,hD,RMle.refl _,rfl⟩
 |(k,none)::r,fs,hp,nx,K,ρ,PS,l,h,hD=>aDp (vr:=r) h hD
 |(k,some (b,ks))::r,fs,hp,nx,K,ρ,PS,l,h,hD=>by
  simp only[aRn] at h;split at h
  ·rename_i hs;obtain⟨u,h1,h2⟩:=hD.fr.get hs;simp only[Rep] at h2;subst h2;have qf:=fH (x:=.slice none 0 0) (hD.no nx (Nat.le_refl _));have zk:=hD.push (x:=.slice none 0 0) (o:=.row b ks []) (La:=[]) rfl (fun _ hr=>⟨_,hr,OwS.nil⟩);obtain⟨f',k1,k2⟩:=RepF.set (s:=.ow nx) zk.fr h1 (by simp only[Rep];exact if_pos rfl) h;obtain⟨fs',qc,nx',ρ',PS',q1,q2,q3,q4⟩:=aDp (vr:=r) k1 ⟨zk.no,zk.one,k2,zk.hp⟩;exact⟨fs',qc,nx',ρ',PS',q1,q2,qf.trans q3,q4⟩
  ·exact aDp (vr:=r) h hD
theorem xU{S:AH}{A0:NQ}{L0:OL}{c:Code}{Q:AQ}{f:Fr}{ρ:RM}{l:LV}{nx:Nat}:∀{fz:List (Nat×Nat×List Kd)} {fs:FR} {hp:HP} {K:FR->HP->Prop} {PS:PSs} {A:NQ} {H:AH},wfz fz fs hp K->Den E ρ nx fs hp PS A H l->
 (∀fs' qc PS' A' H',K fs' qc->Den E ρ nx fs' qc PS' A' H' l->Gr A H A' H'->SX P c Q f S A0 H' A' (flt PS'++L0))->SX P c Q f S A0 H A (flt PS++L0)
 |[],fs,hp,K,PS,A,H,h,hD,hK=>hK _ _ _ _ _ h hD (Gr.refl _ _)
 |(k,b,ks)::r,fs,hp,K,PS,A,H,h,hD,hK=>by
  simp only[aRu] at h;split at h
  ·rename_i hs;obtain⟨u,h1,h2⟩:=hD.fr.get hs;simp only[Rep] at h2;subst h2;obtain⟨f',k1,k2⟩:=RepF.set (s:=.row b ks []) hD.fr h1 (by grind [Rep,uT]) h;exact xU (fz:=r) k1 ⟨hD.no,hD.one,k2,hD.hp⟩ hK
  ·rename_i id hs;split at h
   ·rename_i b ks rr hg;obtain⟨La,X,Y,qq,⟨x,r1,r2⟩,_,_,xc⟩:=hD.hp.get hg;obtain⟨zx,h,hh⟩:=xc _ h;subst qq;refine wS (L':=flt (X++Y)++L0) r2 (by grind [bN,flt,QA,Takes.ow]) ?_;rintro H1 A1 a g rfl rx;have hc:CellA A1 H1 (.row b ks) (.slice a rr.length rr.length) (.row rr):=rx.cell;obtain⟨fs1,h,k1⟩:=aDg r1 hc h (RepF.mono (RMle.refl _) g hD.fr);obtain⟨ze,h,k2⟩:=pP r1 hc h (RepH.mono (RMle.refl _) g hh);exact xU (fz:=r) h ⟨hD.no,hD.one,k1,k2⟩ fun fs' qc PS' A' H' q qo g'=>hK _ _ _ _ _ q qo (g.trans g')
   ·exact h.elim
  ·exact xU (fz:=r) h hD hK
theorem Reps.weak{ρ:RM}{A:NQ}{H:AH}{c d:SV}(h:∀v,Rep ρ A H c v->Rep ρ A H d v):∀{m:Nat} {us:VL},Reps ρ A H (List.replicate m c) us->Reps ρ A H (List.replicate m d) us
 |0,us,k=>k
 |m+1,[],k=>by grind [Reps]
 |m+1,u::us,k=>by
  simp only[List.replicate_succ,Reps] at k ⊢;exact⟨h _ k.1,Reps.weak h k.2⟩
theorem bDp{ρ:RM}{A:NQ}{H:AH}{lo hi:Int}{c:SV}{K:Prop}(h:inR lo hi c K):K/\∀v,Rep ρ A H c v->Rep ρ A H (.rng lo hi) v:=by
 unfold inR at h;split at h
 ·refine⟨h.t,fun v hv=>?_⟩;simp only[Rep] at hv ⊢;exact⟨_,hv.1,hv.2,h.h.1,h.h.2⟩
 ·exact h.elim
theorem aQq{ρ:RM}{A:NQ}{H:AH}{l:LV}{nx:Nat}{PS:PSs}{fs:FR}:∀{wd:List (Nat×Nat×Nat×Mu×Mu)} {hp:HP} {K:HP->Prop},wdH wd fs hp K->Den E ρ nx fs hp PS A H l->∃qc,K qc/\Den E ρ nx fs qc PS A H l
 |[],hp,K,h,hD=>⟨hp,h,hD⟩
 |(k,o,m,lo,hi)::r,hp,K,h,hD=>by
  rw[aSa] at h;split at h
  ·rename_i id off hs;split at h
   ·rename_i bt cs hg;unfold evK at h;split at h
    ·rename_i lo' wt;split at h
     ·rename_i qi vn;split at h
      ·rename_i c r' hd;obtain⟨h1,h2⟩:=h;obtain⟨h2,hw⟩:=bDp (ρ:=ρ) (A:=A) (H:=H) h2;split at h2
       ·rename_i cs' ya;have q:=nK ya;obtain⟨La,X,Y,qq,⟨N,vs,r1,r2,r3⟩,_,xd,_⟩:=hD.hp.get hg;obtain⟨qc,k1,k2⟩:=xd _ _ (cJ h2);subst qq;refine aQq k1 ⟨hD.no,hD.one,hD.fr,k2 (RMle.refl _) (Gr.refl _ _) ⟨N,vs,r1,r2,?_⟩⟩;rw[q.1,rW,List.length_replicate];have a:=(rA hd).1;have b:=(nC h1).1;have e:(cs.drop o).take m=List.replicate m c:=by grind [rW]
        have m1:Reps ρ A H (List.replicate m (.rng lo' qi)) ((vs.drop o).take m):=by
         refine Reps.weak hw ?_;rw[<-e];exact r3.drop.take
        have m2:=(r3.take (n:=o)).app (m1.app (r3.drop (n:=o+m)))
        grind [List.drop_drop,List.take_append_drop]
       ·exact h2.elim
      ·exact h.elim
     ·exact h.elim
    ·exact h.elim
   ·exact h.elim
  ·exact h.elim
theorem aBj{fs:FR}{l:LV}(hF:RepF ρ A H fs l):∀{ks:NL} {K:FR->Prop},pkF fs ks K->∃f0 l0,K f0/\RepF ρ A H f0 l0/\Picks l l0
 |[],K,h=>⟨[],[],h,rfl,.nil⟩
 |k::r,K,h=>by
  simp only[aFx] at h;split at h
  ·rename_i v hv;obtain⟨u,h1,h2⟩:=hF.get hv;obtain⟨f0,l0,k1,k2,k3⟩:=aBj hF h;exact⟨_,_,k1,⟨u,l0,rfl,h2,k2⟩,.cons h1 k3⟩
  ·exact h.elim
theorem aJb{ks:NL}{fr':FR}{l:LV}(hF:RepF ρ A H fr' l):∀{f0:FR} {K:FR->Prop},nxF ks th nx fr' f0 K->∃f2 l2,K f2/\InF ks f0 f2/\RepF (mD ρ nx th) A H f2 l2/\Picks l l2
 |[],K,h=>⟨[],[],h,.nil,rfl,.nil⟩
 |(k,v)::r,K,h=>by
  simp only[aUo] at h;split at h
  ·rename_i w hw;obtain⟨u,h1,h2⟩:=hF.get hw;cases e:aJ k ks with
   |true=>
    rw[e,QT] at h;have h:=jS h;cases eb:bdS nx (mtS v w) with
    |false=>simp_all
    |true=>
     rw[eb,QT] at h;obtain⟨f2,l2,k1,k2,k3,k4⟩:=aJb hF h.t;exact⟨_,_,k1,.turn e (bEi v w) k2,⟨u,l2,rfl,aRe eb h.h h2,k3⟩,.cons h1 k4⟩
   |false=>
    rw[e,QF] at h;cases eb:bdS nx v with
    |false=>simp_all
    |true=>
     rw[eb,QT] at h;obtain⟨f2,l2,k1,k2,k3,k4⟩:=aJb hF h.t;exact⟨_,_,k1,.stay e k2,⟨u,l2,rfl,aRe eb h.h h2,k3⟩,.cons h1 k4⟩
  ·exact h.elim
theorem ShO.refl:∀v:SJ,ShO v v
 |.box t cs=>.box (ShL.refl cs)
 |.row b ks l=>.row
 |.oth (.wk b ks l)=>.wk
 |.oth (.mp kk vk ag m)=>.mp
 |.oth (.ho b ks l j id)=>.ho
 |.oth (.vals us cs)=>.vals
 |.oth (.bl t u)=>.bl
 |.oth (.vr cs)=>.vr
theorem bEa(v w:SJ):ShO v (mtO v w):=by
 unfold mtO;split
 ·exact .box (aGv _ _)
 ·exact .row
 ·exact .wk
 ·exact .mp
 ·exact .bl
 ·exact ShO.refl _
theorem bDx{i:Nat}{v w:SJ}{La:OL}(hi:i<nx)(hb:bdO nx v=true)(h:agO th v w)(k:RepO E ρ A H (rn th i) w La):RepO E (mD ρ nx th) A H i v La:=by
 have e:mD ρ nx th i=ρ (rn th i):=if_pos hi;unfold agO at h;split at h
 ·obtain⟨rfl,h⟩:=h;obtain⟨N,vs,k1,k2,k3⟩:=k;exact⟨N,vs,e.trans k1,k2,aHj hb h k3⟩
 ·obtain⟨rfl,rfl,rfl⟩:=h;obtain⟨x,k1,k2⟩:=k;exact⟨x,e.trans k1,k2⟩
 ·rename_i o o';subst h;cases o with
  |wk b ks l=>obtain⟨x,k1,k2⟩:=k;exact⟨x,e.trans k1,k2⟩
  |ho b ks l j id=>
   obtain⟨x,y,k1,k2,k3⟩:=k;have hid:id<nx:=aJt hb;exact⟨x,y,e.trans k1,(if_pos hid).trans k2,k3⟩
  |mp kk vk ag m=>obtain⟨N,es,cl,k1,k2⟩:=k;exact⟨N,es,cl,e.trans k1,k2⟩
  |vals us cs=>obtain⟨x,k1,k2,k3⟩:=k;exact⟨x,e.trans k1,k2,rnL_ok hb k3⟩
  |bl t u=>obtain⟨N,M,k1,k2⟩:=k;exact⟨N,M,e.trans k1,k2⟩
  |vr cs=>obtain⟨M,vs,ex,k1,k2,k3⟩:=k;exact⟨M,vs,ex,e.trans k1,k2,rnL_ok hb k3⟩
 ·exact h.elim
theorem xY{fs:FR}:∀{cb:List (Nat×Nat×Nat×List Kd)} {hp:HP} {nx:Nat} {K:HP->Nat->Prop} {ρ:RM} {PS:PSs} {l:LV},cvB cb fs hp nx K->Den E ρ nx fs hp PS A H l->∃qc nx' ρ' PS',K qc nx'/\Den E ρ' nx' fs qc PS' A H l/\RMle ρ ρ'/\flt PS'=flt PS
 |[],hp,nx,K,ρ,PS,l,h,hD=>⟨hp,nx,ρ,PS,h,hD,RMle.refl _,rfl⟩
 |(k,j,b,ks)::r,hp,nx,K,ρ,PS,l,h,hD=>by
  rw[aUd] at h;split at h
  ·rename_i id o hs;split at h
   ·rename_i t cs hg;split at h
    ·rename_i hc;split at h
     ·rename_i cs' ya;have q:=nK ya;obtain⟨La,X,Y,qq,⟨N,vs,r1,r2,r3⟩,_,xd,_⟩:=hD.hp.get hg;obtain⟨qc,k1,k2⟩:=xd _ _ (cJ h);have qf:=fH (x:=.slice none 0 0) (hD.no nx (Nat.le_refl _));obtain⟨y,y1,y2⟩:=r3.at (xX hc);simp only[Rep] at y2;subst y2;have qm:=lt_of_getElem? y1;have me:vs.take j++([Value.slice none 0 0]++vs.drop (j+[Value.slice none 0 0].length))=vs:=by
       rw[List.getElem?_eq_getElem qm] at y1;have e:=Option.some.inj y1;simp only[List.length_cons,List.length_nil,Nat.zero_add,List.singleton_append]
       grind [List.drop_eq_getElem_cons,List.take_append_drop]
      have r4:Reps (lO ρ nx (.slice none 0 0)) A H cs' vs:=by
       have r5:=(Reps.mono qf (Gr.refl _ _) r3).spl (o:=j) (ys:=[.ow nx]) (vs:=[.slice none 0 0]) (by simp only[Reps,Rep];exact⟨if_pos rfl,trivial⟩)
       simp_all
      have hh:=k2 qf (Gr.refl A H) ⟨N,vs,qf _ _ r1,r2,r4⟩;rw[<-qq] at hh;have tj:Den E (lO ρ nx (.slice none 0 0)) (nx+1) fs ((nx,.row b ks [])::qc) ((nx,[])::PS) A H l:=by
       refine⟨fun i hi=>?_,fun i v e=>?_,RepF.mono qf (Gr.refl _ _) hD.fr,[],PS,rfl,⟨_,if_pos rfl,OwS.nil⟩,hh⟩
       ·unfold lO;rw[if_neg (by omega)];exact hD.no i (by omega)
       ·unfold lO at e;by_cases hi:i=nx
        ·rw[if_pos hi] at e;cases e;rfl
        ·rw[if_neg hi] at e;exact hD.one i v e
      obtain⟨ze,nx',ρ',PS',q1,q2,q3,q4⟩:=xY (cb:=r) k1 tj;exact⟨ze,nx',ρ',PS',q1,q2,qf.trans q3,q4⟩
     ·exact h.elim
    ·exact xY (cb:=r) h hD
   ·exact xY (cb:=r) h hD
  ·exact xY (cb:=r) h hD
theorem OwS.wk{A:NQ}{H:AH}{b:Nat}{ks:KL}{l:LX}{x:Value}{L:OL}(h:OwS A H b ks l x L):OwW A H b ks l x L:=.inr h
theorem sH:∀{wk:List (Nat×Nat×List Kd)} {fs:FR} {hp:HP} {nx:Nat} {K:FR->HP->Nat->Prop} {ρ:RM} {PS:PSs} {l:LV},wkn wk fs hp nx K->Den E ρ nx fs hp PS A H l->∃fs' qc nx' ρ' PS',K fs' qc nx'/\Den E ρ' nx' fs' qc PS' A H l/\RMle ρ ρ'/\flt PS'=flt PS
 |[],fs,hp,nx,K,ρ,PS,l,h,hD=>⟨fs,hp,nx,ρ,PS,h,hD,RMle.refl _,rfl⟩
 |(k,b,ks)::r,fs,hp,nx,K,ρ,PS,l,h,hD=>by
  rw[aVk] at h;have new:∀{s:SV} {u:Value},look k l=some u->(∃a n c,u=.slice a n c)->(uH k (.ow nx) fs fun fr=>wkn r fr ((nx,.oth (.wk b ks []))::hp) (nx+1) K)->∃fs' qc nx' ρ' PS',K fs' qc nx'/\Den E ρ' nx' fs' qc PS' A H l/\RMle ρ ρ'/\flt PS'=flt PS:=by
   intro s u h1 hu h;obtain⟨a,n,c,rfl⟩:=hu;have qf:=fH (x:=.slice a n c) (hD.no nx (Nat.le_refl _));have zk:=hD.push (x:=.slice a n c) (o:=.oth (.wk b ks [])) (La:=[]) rfl (fun _ hr=>⟨_,hr,OwW.lost⟩);obtain⟨f',k1,k2⟩:=RepF.set (s:=.ow nx) zk.fr h1 (by simp only[Rep];exact if_pos rfl) h;obtain⟨fs',qc,nx',ρ',PS',q1,q2,q3,q4⟩:=sH (wk:=r) k1 ⟨zk.no,zk.one,k2,zk.hp⟩;exact⟨fs',qc,nx',ρ',PS',q1,q2,qf.trans q3,q4⟩
  split at h
  ·rename_i i hs;split at h
   ·rename_i b' ks' ll hg;obtain⟨La,X,Y,qq,⟨x,r1,r2⟩,_,xd,_⟩:=hD.hp.get hg;obtain⟨qc,k1,k2⟩:=xd _ _ h;subst qq;obtain⟨fs',ze,nx',ρ',PS',q1,q2,q3,q4⟩:=sH (wk:=r) k1 ⟨hD.no,hD.one,hD.fr,k2 (RMle.refl _) (Gr.refl _ _) ⟨x,r1,r2.wk⟩⟩
    grind
   ·exact sH (wk:=r) h hD
  ·rename_i hs;obtain⟨u,h1,h2⟩:=hD.fr.get hs;simp only[Rep] at h2;exact new (s:=.nil) h1 ⟨_,_,_,h2⟩ h
  ·rename_i b' ks' ll hs;obtain⟨u,h1,h2⟩:=hD.fr.get hs;simp only[Rep] at h2;obtain⟨l',a,cap,_,e,_⟩:=h2.rowD;exact new (s:=.nil) h1 ⟨_,_,_,e⟩ h
  ·exact sH (wk:=r) h hD
theorem aYh{S:AH}{A0:NQ}{L0:OL}{c:Code}{Q:AQ}{f:Fr}{ρ:RM}{l:LV}{nx:Nat}{hk:Hk}{fs:FR}{hp:HP}{K:FR->HP->Prop}{PS:PSs}{A:NQ}{H:AH}(h:aTs hk fs hp K)(hD:Den E ρ nx fs hp PS A H l)
 (hK:∀fs' qc PS' A' H',K fs' qc->Den E ρ nx fs' qc PS' A' H' l->Gr A H A' H'->SX P c Q f S A0 H' A' (flt PS'++L0)):SX P c Q f S A0 H A (flt PS++L0):=by
 cases hk with
 |st k=>
  simp only[aTs] at h;split at h
  ·rename_i i hs;split at h
   ·rename_i b ks rr hg;obtain⟨La,X,Y,qq,⟨x,r1,r2⟩,_,xd,_⟩:=hD.hp.get hg;have r3:=r2.own (by have:=h.h;omega);obtain⟨qc,k1,k2⟩:=xd _ _ h.t;subst qq;exact hK _ _ _ _ _ k1 ⟨hD.no,hD.one,hD.fr,k2 (RMle.refl _) (Gr.refl _ _) ⟨x,r1,r3⟩⟩ (Gr.refl _ _)
   ·grind [Gr.refl]
   ·exact h.elim
  ·exact h.elim
 |fz k b ks=>exact xU (fz:=[(k,b,ks)]) h hD hK
 |as p=>exact hK _ _ _ _ _ (h.t ⟨h.h⟩) hD (Gr.refl _ _)
 |fl k=>
  simp only[aTs] at h;split at h
  ·rename_i i hs;split at h
   ·rename_i b0 ks0 rr0 j0 id hg;split at h
    ·rename_i b2 ks2 l2 wb;obtain⟨La,X,Y,qq,⟨y,r1,r2⟩,_,_,xc⟩:=hD.hp.get wb;obtain⟨zx,h,hh⟩:=xc _ h;subst qq;refine wS (L':=flt (X++Y)++L0) r2 (by grind [bN,flt,QA,Takes.ow]) ?_;rintro H1 A1 a g rfl rx;have hc:CellA A1 H1 (.row b2 ks2) (.slice a l2.length l2.length) (.row l2):=rx.cell;obtain⟨fs1,h,k1⟩:=aDg r1 hc h (RepF.mono (RMle.refl _) g hD.fr);obtain⟨ze,hq,k2⟩:=pP r1 hc h (RepH.mono (RMle.refl _) g hh);clear h;split at hq
     ·rename_i b ks rr j id' hg3;cases eid:Nat.beq id' id with
      |false=>simp_all
      |true=>
       rw[eid,QT] at hq;have eid:=QN eid;subst eid;cases ek:kdsEq ks [.row b2 ks2] with
       |false=>simp_all
       |true=>
        rw[ek,QT] at hq;have ek:=kdsEq_ok ek;subst ek;obtain⟨Lb,X',Y',bf,⟨x',y',s1,s2,o1,o2,o3,o4,o5,o6,M',cs,ex,q1,q2,q3⟩,_,xd,_⟩:=k2.get hg3;rw[r1] at s2;cases s2;obtain⟨qc,p1,p2⟩:=xd _ _ (hq _ (by simp) rfl);have hj:j.toNat<rr.length:=by omega
        have tt:=q3.setX (vs:=[.slice a l2.length l2.length]) (j:=j.toNat) (o:=0) (d:=[.row l2]) hj (by simp) (by simp only[List.drop_zero,List.length_cons,List.length_nil,Nat.zero_add,List.take_succ_cons,List.take_nil,CellsA];exact⟨hc,trivial⟩);have ed:rr[j.toNat].drop (0+[Value.slice a l2.length l2.length].length)=[]:=List.drop_eq_nil_of_le (by
         have:=(q3.2.2 j.toNat _ (List.getElem?_eq_getElem hj)).len.2;simp at this ⊢;omega)
        rw[ed,List.take_zero,List.nil_append,List.append_nil] at tt;have ow:=OwS.mk (M:=M') (ex:=ex) (A:=A1) (H:=H1) (b:=b) (by simp_all) (by simp_all) tt;rw[List.length_set] at ow;rw[bf];refine hK _ _ _ _ _ p1 ⟨hD.no,hD.one,k1,p2 (RMle.refl _) (Gr.refl _ _) ⟨x',s1,?_⟩⟩ g;rw[q1,q2];exact ow
     ·exact hq.elim
    ·exact h.elim
   grind [Gr.refl]
  ·exact h.elim
theorem aUi{S:AH}{A0:NQ}{L0:OL}{c:Code}{Q:AQ}{f:Fr}{ρ:RM}{l:LV}{nx:Nat}:∀{hs:List Hk} {fs:FR} {hp:HP} {K:FR->HP->Prop} {PS:PSs} {A:NQ} {H:AH},wHk hs fs hp K->Den E ρ nx fs hp PS A H l->
 (∀fs' qc PS' A' H',K fs' qc->Den E ρ nx fs' qc PS' A' H' l->Gr A H A' H'->SX P c Q f S A0 H' A' (flt PS'++L0))->SX P c Q f S A0 H A (flt PS++L0)
 |[],fs,hp,K,PS,A,H,h,hD,hK=>hK _ _ _ _ _ h hD (Gr.refl _ _)
 |k::r,fs,hp,K,PS,A,H,h,hD,hK=>by
  rw[aPv] at h;exact aYh h hD fun fs' qc PS' A' H' q qo g=>aUi q qo fun fs2 ze PS2 A2 H2 q2 yr g2=>hK _ _ _ _ _ q2 yr (g.trans g2)
theorem aBo{hv:NL}:∀{h0 qc:HP} {PS:PSs} {K:HP->HP->Prop},RepH E ρ A H qc PS->nxH hv th nx h0 qc K->∃h2 PS2 hr PSr,K h2 hr/\InH hv h0 h2/\RepH E (mD ρ nx th) A H h2 PS2/\RepH E ρ A H hr PSr/\(flt PS2++flt PSr).Perm (flt PS)
 |[],qc,PS,K,hH,h=>⟨[],[],qc,PS,h,.nil,rfl,hH,List.Perm.refl _⟩
 |(i,o)::r,qc,PS,K,hH,h=>by
  simp only[aQl] at h;split at h
  ·rename_i o' ho;obtain⟨La,X,Y,qq,r1,_,_,xc⟩:=hH.get ho;cases ei:Nat.blt i nx with
   |false=>simp_all
   |true=>
    rw[ei,QT] at h;have hi:=aJt ei;have fin:∀{u:SJ},(bdO nx u=true)->agO th u o'->∀{h2 PS2 rest},RepH E (mD ρ nx th) A H h2 PS2->(flt PS2++rest).Perm (flt (X++Y))->RepH E (mD ρ nx th) A H ((i,u)::h2) ((i,La)::PS2)/\(flt ((i,La)::PS2)++rest).Perm (flt PS):=by
     intro u hb ha h2 PS2 rest k1 k2;refine⟨⟨La,PS2,rfl,bDx hi hb ha r1,k1⟩,?_⟩;rw[qq,bN];simp only[flt];rw[bN] at k2;refine(List.Perm.append_left La k2 |> fun q=>(by simp_all:(La++flt PS2++rest).Perm (La++(flt X++flt Y)))).trans ?_
     grind [QA,List.Perm.append_right,List.perm_append_comm]
    cases e:aJ i hv with
    |true=>
     rw[e,QT] at h;have h:=bBf h;cases eb:bdO nx (mtO o o') with
     |false=>simp_all
     |true=>
      rw[eb,QT] at h;obtain⟨ze,h3,hh⟩:=xc _ h.t;obtain⟨h2,PS2,hr,PSr,k1,k2,k3,k5,k4⟩:=aBo hh h3;have q:=fin eb h.h k3 k4;exact⟨_,_,hr,PSr,k1,.turn e (bEa _ _) k2,q.1,k5,q.2⟩
    |false=>
     rw[e,QF] at h;cases eb:bdO nx o with
     |false=>simp_all
     |true=>
      rw[eb,QT] at h;obtain⟨ze,h3,hh⟩:=xc _ h.t;obtain⟨h2,PS2,hr,PSr,k1,k2,k3,k5,k4⟩:=aBo hh h3;have q:=fin eb h.h k3 k4;exact⟨_,_,hr,PSr,k1,.stay e k2,q.1,k5,q.2⟩
  ·exact h.elim
theorem aGt:∀{fx:NL},fxB th nx fx=true->∀i,aJ i fx=true->rn th i=i/\i<nx
 |[],_,i,h=>by cases h
 |a::r,h,i,hi=>by
  simp only[fxB] at h;cases e:Nat.beq (rn th a) a with
  |false=>rw[e] at h;cases h
  |true=>
   rw[e,QT] at h;cases e2:Nat.blt a nx with
   |false=>rw[e2] at h;cases h
   |true=>
    rw[e2,QT] at h;simp only[aJ] at hi;cases e3:Nat.beq a i with
    |true=>
     simp_all
    |false=>rw[e3,QF] at hi;exact aGt h i hi
theorem aGy:∀{l:NL},srt l=true->l.Pairwise (·<·)
 |[],_=>.nil
 |[a],_=>.cons (fun _ h=>by cases h) .nil
 |a::b::r,h=>by
  simp only[srt,QB] at h;have nv:=aJt h.1;have ih:=aGy h.2;refine .cons (fun c hc=>?_) ih;rcases List.mem_cons.1 hc with rfl|hc
  ·exact nv
  grind [List.pairwise_cons]
theorem uY{mo:NL}:∀{hp:HP} {PS:PSs} {i:Nat},RepH E ρ A H hp PS->aJ i (aTy mo hp)=true->∃v,ρ i=some v
 |[],PS,i,_,h=>by cases h
 |(j,o)::r,PS,i,⟨L,PS',h1,h2,h3⟩,h=>by
  have hj:∃v,ρ j=some v:=by
   cases o with
   |box t cs=>obtain⟨N,vs,k,_⟩:=h2;exact⟨_,k⟩
   |row b ks l=>obtain⟨x,k,_⟩:=h2;exact⟨_,k⟩
   |oth o=>
    cases o with
    |wk b ks l=>obtain⟨x,k,_⟩:=h2;exact⟨_,k⟩
    |ho b ks l j id=>obtain⟨x,y,k,_⟩:=h2;exact⟨_,k⟩
    |mp kk vk ag m=>obtain⟨N,es,cl,k,_⟩:=h2;exact⟨_,k⟩
    |vals us cs=>obtain⟨x,k,_⟩:=h2;exact⟨_,k⟩
    |bl t u=>obtain⟨N,M,k,_⟩:=h2;exact⟨_,k⟩
    |vr cs=>obtain⟨M,vs,ex,k,_⟩:=h2;exact⟨_,k⟩
  simp only[aTy] at h;cases e:aJ j mo with
  |true=>rw[e,QT] at h;exact uY h3 h
  |false=>
   rw[e,QF] at h;simp only[aJ] at h;cases e2:Nat.beq j i with
   |true=>simp_all
   |false=>rw[e2,QF] at h;exact uY h3 h
end
omit [γ:Gam] in
structure US where
 n:Nat
 f:FR
 h:HP
 l:List (Nat×Value)
 H:AH
 A:Nat->Prop
 PS:PSs
 nx:Nat
omit [γ:Gam] in
structure LS where
 f:FR
 h:HP
 l:List (Nat×Value)
 H:AH
 A:Nat->Prop
 PS:PSs
theorem fL(hm:P.follows .mixedOrders=true)(hT:dA E T)(hC:AllC E tb C)(qz:TbG S.w0 tb):∀(c:Code) {fs:FR} {hp:HP} {nx:Nat} {k:Exit->FR->HP->Nat->Prop} {K:AQ} {ρ:RM} {PS:PSs} {A:NQ} {H:AH} {l:LV} {t:Tr Value},
 wpC E T C tb n AN DR fx c fs hp nx k->KOK E n fx S A0 L0 ρe Ae He K k->Den E ρ nx fs hp PS A H l->FxR fx ρe ρ->Gr Ae He A H->SX P c K (fr n t l) S A0 H A (flt PS++L0)
 |.skip,fs,hp,nx,k,K,ρ,PS,A,H,l,t,h,hK,hD,hx,hg=>qE (hK _ _ _ _ h _ _ _ _ _ _ hD hx hg)
 |.label _,fs,hp,nx,k,K,ρ,PS,A,H,l,t,h,hK,hD,hx,hg=>aVw (hK _ _ _ _ h _ _ _ _ _ _ hD hx hg)
 |.ret,fs,hp,nx,k,K,ρ,PS,A,H,l,t,h,hK,hD,hx,hg=>pC (hK _ _ _ _ h _ _ _ _ _ _ hD hx hg)
 |.exit i,fs,hp,nx,k,K,ρ,PS,A,H,l,t,h,hK,hD,hx,hg=>uW (hK _ _ _ _ h _ _ _ _ _ _ hD hx hg)
 |.seq a b,fs,hp,nx,k,K,ρ,PS,A,H,l,t,h,hK,hD,hx,hg=>by
  replace h:aEb (wpC E T C tb n AN DR fx a) (wpC E T C tb n AN DR fx b) fs hp nx k:=h
  unfold aEb at h;refine aP (fL hm hT hC qz a h ?_ hD hx hg);intro e fs' qc nx' q ρ' PS' A' H' l' t' qo zc za;cases e with
  |normal=>exact eK (fL hm hT hC qz b q hK qo zc za)
  |exit i=>exact mF (by simp) (hK _ _ _ _ q _ _ _ _ _ _ qo zc za)
  |goto i=>exact mF (by simp) (hK _ _ _ _ q _ _ _ _ _ _ qo zc za)
  |ret=>exact mF (by simp) (hK _ _ _ _ q _ _ _ _ _ _ qo zc za)
  |panic i=>exact mF (by simp) (hK _ _ _ _ q _ _ _ _ _ _ qo zc za)
  |outgrown=>exact mF (by simp) (hK _ _ _ _ q _ _ _ _ _ _ qo zc za)
 |.cond c a b,fs,hp,nx,k,K,ρ,PS,A,H,l,t,h,hK,hD,hx,hg=>by
  replace h:aSk c (wpC E T C tb n AN DR fx a) (wpC E T C tb n AN DR fx b) fs hp nx k:=h
  unfold aSk at h;obtain⟨s,u,h1,h2,h3⟩:=aR hD.fr h;split at h3
  ·simp only[Rep] at h2;subst h2;exact nW h1 (fL hm hT hC qz a h3 hK hD hx hg)
  ·simp only[Rep] at h2;subst h2;exact iS h1 (fL hm hT hC qz b h3 hK hD hx hg)
  ·exact h3.elim
 |.block i c,fs,hp,nx,k,K,ρ,PS,A,H,l,t,h,hK,hD,hx,hg=>by
  replace h:aHb i (wpC E T C tb n AN DR fx c) fs hp nx k:=h
  unfold aHb at h;refine iW (fL hm hT hC qz c h ?_ hD hx hg);intro e fs' qc nx' q ρ' PS' A' H' l' t' qo zc za;cases e with
  |exit j=>
   simp only at q;cases ej:Nat.beq j i with
   |true=>
    rw[ej,QT] at q;have:=QN ej;subst this;exact gH (hK _ _ _ _ q _ _ _ _ _ _ qo zc za)
   |false=>
    rw[ej,QF] at q;exact tH ej (hK _ _ _ _ q _ _ _ _ _ _ qo zc za)
  |normal=>exact hK _ _ _ _ q _ _ _ _ _ _ qo zc za
  |goto i=>exact hK _ _ _ _ q _ _ _ _ _ _ qo zc za
  |ret=>exact hK _ _ _ _ q _ _ _ _ _ _ qo zc za
  |panic i=>exact hK _ _ _ _ q _ _ _ _ _ _ qo zc za
  |outgrown=>exact hK _ _ _ _ q _ _ _ _ _ _ qo zc za
 |.region id ops d,fs,hp,nx,k,K,ρ,PS,A,H,l,t,h,hK,hD,hx,hg=>by
  replace h:bFu E T C tb n DR fx id ops d fs hp nx k:=h
  unfold bFu at h;refine aUi h hD fun fs hp PS A H h hD g0=>?_
  replace hg:=hg.trans g0
  clear g0;cases d with
  |false=>
   simp only at h;refine aF (E:=E) (gY hT hC hD ⟨rfl,rfl,rfl,(fun h=>by cases h),(fun h=>by cases h),(fun h=>by cases h),qz⟩ h ?_);intro fs' qc nx' q ρ' PS' A' H' l' t' i' qo hr za;exact gA (hK _ _ _ _ q _ _ _ _ _ _ qo (hx.trans hr) (hg.trans za))
  |true=>
   simp only at h;cases ez:aJ id DR.z
   case true=>
    rw[ez,QT] at h;have hd:=h.h;have ed:aGa ops=true:=by
     simp_all
    rw[ed,QT] at hd;simp only[aGa,QB] at ed;have h:=gV h.t;obtain⟨o,ho,hq,v6,yd,hpo,zh⟩:∃o,ops.toList.drop (yK ops)=[o]/\bY E o.op=false/\o.guard=none/\(∀c,o.op≠.call c)/\dO (bef ops) (uI 0 ops.toList)=true/\((List.range (yK ops)).all fun i=>((bef ops).getD (yK ops) 0).testBit i)=true:=by
     unfold zlB at hd;split at hd
     ·rename_i e;rw[QB] at hd;exact⟨_,e,rfl,rfl,(fun c h=>by cases h),hd.1,hd.2⟩
     ·cases hd
    rw[ho] at h;refine aQa (E:=E) hm (uI 0 ops.toList) (fA (stD fs hp (wL id DR.dr).1) PS++L0) ((kJ _ _).append (List.Sublist.refl _)) ed.1 hpo (aGy ed.2.2.2) (yK ops) o ho hq v6 zh (gY hT hC hD ⟨rfl,rfl,rfl,fun _=>rfl,fun _ i hi=>?_,fun _ _=>⟨rfl,rfl⟩,qz⟩ h ?_) (.inr yd)
    ·obtain⟨v,hv⟩:=uY hD.hp hi;rcases Nat.lt_or_ge i nx with h1|h1
     ·exact h1
     ·rw[hD.no i h1] at hv;cases hv
    ·intro fs' qc nx' q ρ' PS' A' H' l' t' i' qo hr za;refine bCd (gY hT hC qo ⟨rfl,rfl,rfl,(fun h=>by cases h),(fun h=>by cases h),(fun h=>by cases h),qz⟩ q ?_);intro fs2 ze nx2 q2 ρ2 PS2 A2 H2 l2 t2 i2 yr vq wb;exact gA (hK _ _ _ _ q2 _ _ _ _ _ _ yr ((hx.trans hr).trans vq) ((hg.trans za).trans wb))
   case false=>
    rw[ez,QF] at h;have hd:=h.h;simp only[aGa,QB] at hd;have h:=gV h.t;refine aEu (E:=E) hm _ _ (fA (stD fs hp (wL id DR.dr).1) PS++L0) ((kJ _ _).append (List.Sublist.refl _)) hd.1 hd.2.1 hd.2.2.1 (aGy hd.2.2.2) (gY hT hC hD ⟨rfl,rfl,rfl,fun _=>rfl,fun _ i hi=>?_,fun _ _=>⟨rfl,rfl⟩,qz⟩ h ?_)
    ·obtain⟨v,hv⟩:=uY hD.hp hi;rcases Nat.lt_or_ge i nx with h1|h1
     ·exact h1
     ·rw[hD.no i h1] at hv;cases hv
    ·intro fs' qc nx' q ρ' PS' A' H' l' t' i' qo hr za;exact gA (hK _ _ _ _ q _ _ _ _ _ _ qo (hx.trans hr) (hg.trans za))
 |.loop c,fs,hp,nx,k,K,ρ,PS,A,H,l,t,h,hK,hD,hx,hg=>by
  replace h:aWn AN fx c (wpC E T C tb n AN DR fx c) fs hp nx k:=h
  unfold aWn at h;split at h
  ·exact h.elim
  ·rename_i an han;cases eun:Nat.beq an.un 0 with
   |false=>
    rw[eun,QF] at h;obtain⟨f0,l0,h,bg,xj⟩:=aBj hD.fr h
    refine rM (τ:=US) (fun s=>s.n) (fun s=>s.l) (fun s=>s.H) (fun s=>s.A) (fun s=>flt s.PS++L0)
     (fun s=>∃ρ,bBk (wpC E T C tb n AN DR fx c) (an.lv++vks an.vr) s.n s.f s.h s.nx k/\Den E ρ s.nx s.f s.h s.PS s.A s.H s.l/\FxR fx ρe ρ/\Gr Ae He s.A s.H)
     ⟨an.un,f0,hp,l0,H,A,PS,nx⟩ ⟨ρ,h,⟨hD.no,hD.one,bg,hD.hp⟩,hx,hg⟩ xj rfl rfl (List.Sublist.refl _) ?_
    rintro⟨m,f1,h1,l1,H1,A1,PS1,nx1⟩ ⟨ρ2,i1,i2,i3,i4⟩ t2;cases m with
    |zero=>exact(i1:False).elim
    |succ m=>
     simp only[aOc] at i1;refine fL hm hT hC qz c i1 ?_ i2 i3 i4;intro e fs' qc nx' q ρ' PS' A' H' l' t' qo zc za;cases e with
     |normal=>
      simp only at q;obtain⟨f2,l2,q,q2,q3⟩:=aBj qo.fr q;exact jY ⟨m,f2,qc,l2,H',A',PS',nx'⟩ (Nat.lt_succ_self m) ⟨ρ',q,⟨qo.no,qo.one,q2,qo.hp⟩,zc,za⟩ q3 rfl rfl (List.Sublist.refl _)
     |exit i=>exact dX (by simp) (hK _ _ _ _ q _ _ _ _ _ _ qo zc za)
     |goto i=>exact dX (by simp) (hK _ _ _ _ q _ _ _ _ _ _ qo zc za)
     |ret=>exact dX (by simp) (hK _ _ _ _ q _ _ _ _ _ _ qo zc za)
     |panic i=>exact dX (by simp) (hK _ _ _ _ q _ _ _ _ _ _ qo zc za)
     |outgrown=>exact dX (by simp) (hK _ _ _ _ q _ _ _ _ _ _ qo zc za)
   |true=>
   rw[eun,QT] at h;refine xU h hD fun fs hp PS A H h hD g0=>?_
   replace hg:=hg.trans g0
   clear g0;obtain⟨hp,h,hD⟩:=aQq h hD;obtain⟨fs1,zx,nx1,ρ1,PS1,h,zk,qf,yc⟩:∃fs1 zx nx1 ρ1 PS1,_/\Den E ρ1 nx1 fs1 zx PS1 A H l/\RMle ρ ρ1/\flt PS1=flt PS:=by
    obtain⟨uf,nxb,ρb,PSb,hb,hDb,bh,bj⟩:=xY h hD;obtain⟨fs1,zx,nx1,ρ1,PS1,h,zk,qf,yc⟩:=aDp hb hDb
    replace qf:=bh.trans qf
    replace yc:=yc.trans bj
    obtain⟨fs2,ze,nx2,ρ2,PS2,h2,yr,yb,oy⟩:=sH h zk;exact⟨fs2,ze,nx2,ρ2,PS2,h2,yr,qf.trans yb,oy.trans yc⟩
   obtain⟨f0,l0,h,bg,xj⟩:=aBj zk.fr h;rw[<-yc]
   refine rM (τ:=LS) (fun s=>((an.mu.ev s.f s.h).getD 0).toNat) (fun s=>s.l) (fun s=>s.H) (fun s=>s.A) (fun s=>flt s.PS++L0)
    (fun s=>InF (vks an.vr) f0 s.f/\InH (hvR f0 (vks an.vr)++hvB f0 zx an.ob) zx s.h/\an.J f0 zx s.f s.h/\(∃ρ,Den E ρ nx1 s.f s.h s.PS s.A s.H s.l/\FxR fx ρe ρ)/\Gr Ae He s.A s.H)
    ⟨f0,zx,l0,H,A,PS1⟩ ⟨?_,?_,h.h,⟨ρ1,⟨zk.no,zk.one,bg,zk.hp⟩,hx.le qf⟩,hg⟩ xj rfl rfl (List.Sublist.refl _) ?_
   ·have key:∀f:FR,InF (vks an.vr) f f:=by
     intro f
     induction f with
     |nil=>exact .nil
     |cons a f ih=>
      obtain⟨k,v⟩:=a;cases e:aJ k (vks an.vr) with
      |true=>
       refine .turn e ?_ ih;cases v with
       |agg l=>exact .agg (ShL.refl l)
       |_=>exact .sc .same (fun l e=>by cases e)
      |false=>exact .stay e ih
    exact key f0
   ·have key:∀f:HP,InH (hvR f0 (vks an.vr)++hvB f0 zx an.ob) f f:=by
     intro f
     induction f with
     |nil=>exact .nil
     |cons a f ih=>
      obtain⟨k,v⟩:=a;cases e:aJ k (hvR f0 (vks an.vr)++hvB f0 zx an.ob) with
      |true=>
       refine .turn e ?_ ih;exact ShO.refl v
      |false=>exact .stay e ih
    exact key zx
   ·rintro s ⟨i1,i2,i3,⟨ρ2,i4,i5⟩,i6⟩ t2;have hb:=aBq (aCg h.t i1) i2 ⟨i3⟩;refine fL hm hT hC qz c hb ?_ i4 i5 i6;intro e fs' qc nx' q ρ' PS' A' H' l' t' qo zc za;cases e with
    |normal=>
     simp only at q;obtain⟨fs',qc,nx',ρ2,PS2,q,yr,yb,oy⟩:=sH q qo
     replace zc:=zc.le yb
     rw[<-oy]
     replace qo:=yr
     simp only[aRp] at q;obtain⟨f2,l2,q,q1,q2,q3⟩:=aJb qo.fr q;obtain⟨h2,PS2,hrr,PSr,q,q4,q5,_,q6⟩:=aBo qo.hp q;cases eb:fxB (thF (vks an.vr) fs' f0++thH (hvR f0 (vks an.vr)++hvB f0 zx an.ob) qc zx) nx1 fx with
     |false=>simp_all
     |true=>
      rw[eb,QT] at q;refine aYs (L':=(flt PS2++flt PSr)++L0) (List.Perm.append_right _ q6) ?_;refine jY ⟨f2,h2,l2,H',A',PS2⟩ ?_ ⟨q1,q4,q.h,⟨_,⟨fun i hi=>if_neg (Nat.not_lt.2 hi),fun i v hv=>?_,q2,q5⟩,fun i hi v hv=>?_⟩,za⟩ q3 rfl rfl ?_
      ·have q7:=q.t;unfold evK at q7;split at q7
       ·rename_i a ha;split at q7
        ·rename_i b wv;have:=q7.h
         grind
        ·exact q7.elim
       ·exact q7.elim
      ·split at hv
       ·exact qo.one _ _ hv
       ·cases hv
      ·obtain⟨e1,e2⟩:=aGt eb i hi;exact(if_pos e2).trans (by rw[e1];exact zc i hi v hv)
      simp_all
    |exit i=>exact dX (by simp) (hK _ _ _ _ q _ _ _ _ _ _ qo zc za)
    |goto i=>exact dX (by simp) (hK _ _ _ _ q _ _ _ _ _ _ qo zc za)
    |ret=>exact dX (by simp) (hK _ _ _ _ q _ _ _ _ _ _ qo zc za)
    |panic i=>exact dX (by simp) (hK _ _ _ _ q _ _ _ _ _ _ qo zc za)
    |outgrown=>exact dX (by simp) (hK _ _ _ _ q _ _ _ _ _ _ qo zc za)
 |.goto _,fs,hp,nx,k,K,ρ,PS,A,H,l,t,h,hK,hD,hx,hg=>(h:False).elim
 |.scope _,fs,hp,nx,k,K,ρ,PS,A,H,l,t,h,hK,hD,hx,hg=>(h:False).elim
 |.refuse _,fs,hp,nx,k,K,ρ,PS,A,H,l,t,h,hK,hD,hx,hg=>(h:False).elim
 |.rangeFunc _ _ _ _,fs,hp,nx,k,K,ρ,PS,A,H,l,t,h,hK,hD,hx,hg=>(h:False).elim
end
end Go.AM
namespace Go.AM
open Go.RowKit
variable [σ:Sg]
def yJ:VL->Nat->List (Nat×Value)->List (Nat×Value)
 |[],_,acc=>acc
 |v::r,i,acc=>yJ r (i+1) ((i,v)::acc)
theorem aMb(n:Nat):∀(vs:VL) (i:Nat) (acc:LV),(fr n .nil (yJ vs i acc)).tr=aIn vs i (fr n .nil acc).tr
 |[],i,acc=>rfl
 |v::r,i,acc=>by simp only[yJ,aMb n r,aIn];rfl
theorem lY{vs:VL}{n:Nat}(h:vs.length<=n):rC vs n=fr n .nil (yJ vs 0 []):=by
 have e1:=aMb n vs 0 [];have e2:=aBw n .nil (yJ vs 0 []);unfold rC;rw[show vs.length+(n - vs.length)=n by omega];cases hf:fr n .nil (yJ vs 0 []) with
 |mk a b=>
  rw[hf] at e1 e2;simp only at e1 e2;subst e1;subst e2;rfl
section
variable {P:PG}{E:Env P}{T:TTb}{C:CTb}{tb:TBs}{n:Nat}{AN:List (Nat×Ann)}{DR:DRs}{S:AH}{A0:NQ}{L0:OL}
section
variable {ρ:RM}{A A1:NQ}{H H1:AH}{nx:Nat}{fs:FR}{hp:HP}{PS:PSs}{l:LV}
theorem tF:∀{ss:SL} {vs:VL} {i:Nat} {fa:FR} {la:LV},Reps ρ A H ss vs->RepF ρ A H fa la->RepF ρ A H (ent ss i fa) (yJ vs i la)
 |[],[],i,fa,la,_,h=>h
 |s::ss,v::vs,i,fa,la,h,k=>by simp only[Reps] at h;exact tF (ss:=ss) (vs:=vs) (fa:=(i,s)::fa) (la:=(i,v)::la) h.2 ⟨v,la,rfl,h.1,k⟩
 |[],_::_,_,_,_,h,_=>by simp only[Reps] at h
 |_::_,[],_,_,_,h,_=>by simp only[Reps] at h
theorem aEc:∀{ps:List PK} {ss:SL},AreP ps ss->ss.length=ps.length
 |_,_,.nil=>rfl
 |_,_,.cons h t=>by simp[aEc t]
theorem kF:∀{hp:HP} {PS:PSs} {A:NQ} {H0 H:AH},RepH E ρ A H0 hp PS->HS S H0 A0 A (flt PS++L0) H->∃A1 H1,Gr A H0 A1 H1/\HS S H1 A0 A1 L0 H/\∀i b ks r,hget i hp=some (.row b ks r)->∃x,ρ i=some x/\CellA A1 H1 (.row b ks) x (.row r)
 |[],PS,A,H0,H,h,hH=>by
  have h:PS=[]:=h;subst h;exact⟨A,H0,Gr.refl _ _,hH,fun i b ks r e=>by simp[hget] at e⟩
 |(j,.oth o)::r,PS,A,H0,H,⟨L,PS',h1,h2,h3⟩,hH=>by
  subst h1;have gv:HS S H0 A0 A (flt PS'++L0) H:=hH.subl (by grind [flt,QA,List.sublist_append_right]);obtain⟨A1,H1,g,q,f⟩:=kF h3 gv;refine⟨A1,H1,g,q,fun i b ks rr e=>?_⟩;simp only[hget] at e
  grind
 |(j,.box t cs)::r,PS,A,H0,H,⟨L,PS',h1,h2,h3⟩,hH=>by
  subst h1;have gv:HS S H0 A0 A (flt PS'++L0) H:=hH.subl (by grind [flt,QA,List.sublist_append_right]);obtain⟨A1,H1,g,q,f⟩:=kF h3 gv;refine⟨A1,H1,g,q,fun i b ks rr e=>?_⟩;simp only[hget] at e
  grind
 |(j,.row b ks rr)::r,PS,A,H0,H,⟨L,PS',h1,⟨x,h2,xe⟩,h3⟩,hH=>by
  subst h1;obtain⟨A2,g2,q2,a,rfl,rx⟩:=hH.freezeS xe (by simp only[flt,QA];exact Takes.ow xe [] _);obtain⟨A1,H1,g,q,f⟩:=kF (RepH.mono (RMle.refl _) g2 h3) q2;refine⟨A1,H1,g2.trans g,q,fun i b' ks' rr' e=>?_⟩;simp only[hget] at e;cases eb:Nat.beq j i with
  |true=>
   rw[eb,QT] at e;cases e;have:=QN eb;subst this;exact⟨_,h2,CellA.gr g _ _ _ rx.cell⟩
  |false=>simp_all
mutual
theorem aTj(g:Gr A H A1 H1)(f:∀i b ks r,hget i hp=some (.row b ks r)->∃x,ρ i=some x/\CellA A1 H1 (.row b ks) x (.row r)):∀{s:SV} {v:Value},Rep ρ A H s v->Rep ρ A1 H1 (fzS hp s) v
 |.ow i,v,h=>by
  grind [fzS,Rep,Rep.mono,RMle.refl]
 |.agg l,v,h=>by simp only[Rep,fzS] at h ⊢;obtain⟨vs,h1,h2⟩:=h;exact⟨vs,h1,fzL_ok g f h2⟩
 |.tup l,v,h=>Rep.mono (RMle.refl _) g h
 |.fn _ l,v,h=>Rep.mono (RMle.refl _) g h
 |.ptr _ _,v,h=>Rep.mono (RMle.refl _) g h
 |.op _ _ _ _,v,h=>Rep.mono (RMle.refl _) g h
 |.undef,v,h=>Rep.mono (RMle.refl _) g h
 |.int _ _,v,h=>Rep.mono (RMle.refl _) g h
 |.bool _,v,h=>Rep.mono (RMle.refl _) g h
 |.str _,v,h=>Rep.mono (RMle.refl _) g h
 |.nil,v,h=>Rep.mono (RMle.refl _) g h
 |.pnil,v,h=>Rep.mono (RMle.refl _) g h
 |.row _ _ _,v,h=>Rep.mono (RMle.refl _) g h
 |.el _ _ _,v,h=>Rep.mono (RMle.refl _) g h
 |.gp _ _,v,h=>Rep.mono (RMle.refl _) g h
 |.rng _ _,v,h=>Rep.mono (RMle.refl _) g h
 |.any,v,h=>Rep.mono (RMle.refl _) g h
 |.yl _,v,h=>Rep.mono (RMle.refl _) g h
 |.xp _ _ _,v,h=>Rep.mono (RMle.refl _) g h
 |.ep _ _ _ _ _,v,h=>Rep.mono (RMle.refl _) g h
theorem fzL_ok(g:Gr A H A1 H1)(f:∀i b ks r,hget i hp=some (.row b ks r)->∃x,ρ i=some x/\CellA A1 H1 (.row b ks) x (.row r)):∀{s:SL} {v:VL},Reps ρ A H s v->Reps ρ A1 H1 (fzL hp s) v
 |[],[],h=>by simp only[fzL,Reps]
 |s::t,v::vs,h=>by simp only[fzL,Reps] at h ⊢;exact⟨aTj g f h.1,fzL_ok g f h.2⟩
 |[],_::_,h=>by simp only[Reps] at h
 |_::_,[],h=>by simp only[Reps] at h
end
theorem kY(hT:dA E T)(hD:Den E ρ nx fs hp PS A H l):∀{rs:List ResultVar} {K:SL->Prop},sM T fs hp rs K->∃ss us,K ss/\Reps ρ A H ss us/\ResOk E S H A0 A (flt PS++L0) l rs us
 |[],K,h=>⟨[],[],h,by simp only[Reps],.nil⟩
 |.tmp s::r,K,h=>by
  rw[zS] at h;simp only[aKg] at h;split at h
  ·rename_i v hv;obtain⟨u,h1,h2⟩:=hD.fr.get hv;obtain⟨ss,us,k1,k2,k3⟩:=kY hT hD h;exact⟨_,_,k1,by grind [Reps],.tmp h1 k3⟩
  ·exact h.elim
 |.cell s ty::r,K,h=>by
  rw[zS] at h;simp only[aKg] at h;split at h
  ·rename_i i o hv;obtain⟨u,h1,h2⟩:=hD.fr.get hv;simp only[Rep] at h2;obtain⟨N,e1,rfl⟩:=h2;split at h
   ·rename_i bt cs hg;obtain⟨La,X,Y,qq,⟨N',vs,r1,r2,r3⟩,_⟩:=hD.hp.get hg;rw[e1] at r1;simp only[Option.some.injEq,Value.pointer.injEq,Addr.mk.injEq] at r1;have eN:N'=N:=by omega
    subst eN;subst r2;obtain⟨s',v,k1,k2,k3⟩:=nF hT h r3;obtain⟨ss,us,q1,q2,q3⟩:=kY hT hD k1;refine⟨_,_,q1,by grind [Reps],.cell h1 (CellsAt.own k3 (sz:=dV E bt) (ex:=true) ?_) q3⟩
    grind [bN,flt,List.mem_append_left,List.mem_append_right,List.mem_cons_self]
   ·exact h.elim
  ·exact h.elim
end
theorem aC(hm:P.follows .mixedOrders=true)(hT:dA E T)(hC:AllC E tb C){g:FuncId}{c:Ctr}{rs:List ResultVar}{body:Code}(hg:E.fn g=some ⟨n,rs,body⟩)(h:wfun E T C tb n AN DR c rs body):CtrOk P tb g c:=by
 intro S H0 A0 A L0 ss vs qz ap hr qp H hH;unfold wfun at h;cases en:Nat.ble c.ps.length n with
 |false=>simp_all
 |true=>
  rw[en,QT] at h;have qe:vs.length<=n:=by rw[hr.len,aEc ap];simp_all
  have h:=qJ h ap ⟨qp⟩;refine vJ (l:=yJ vs 0 []) (L:=L0) hg (lY qe) ?_ hH;have:=fL (S:=S) (A0:=A0) (L0:=L0) (ρe:=noR) (Ae:=A) (He:=H0) (ρ:=noR) (PS:=[]) (t:=.nil) (K:=uE E rs fun u H'=>∃H1 A1,Gr A H0 A1 H1/\HS S H1 A0 A1 L0 H'/\∃rs us,AreP c.rs rs/\Reps noR A1 H1 rs us/\u=bG us/\c.post ss rs) hm hT hC ⟨qz,fun e=>by cases e⟩ body h ?_ ⟨fun _ _=>rfl,(fun i v e=>by cases e),tF hr rfl,rfl⟩ (fun i hi=>by cases hi) (Gr.refl _ _)
  ·exact this
  ·intro e fs hp nx q ρ PS A' H' l t hD hx za;have key:∀q:sM T fs hp rs fun vs=>gQ (fzL hp vs) fun vs=>xC c.rs vs fun vs=>Ob (c.post ss vs) True,∀K,HS S H' A0 A' (flt PS++L0) K->∃us,bS E (fr n t l) K rs=some us/\∃H1 A1,Gr A H0 A1 H1/\HS S H1 A0 A1 L0 K/\∃rs us',AreP c.rs rs/\Reps noR A1 H1 rs us'/\bG us=bG us'/\c.post ss rs:=by
    intro q K hK;obtain⟨ss',us,k1,k2,k3⟩:=kY (S:=S) (A0:=A0) (L0:=L0) hT hD q;obtain⟨A1,H1,g1,g2,g3⟩:=kF hD.hp hK;have r1:=fzL_ok g1 g3 k2;obtain⟨ss2,q1,q2,q3⟩:=aCx (cJ k1) r1;exact⟨us,k3.ok hK,H1,A1,za.trans g1,g2,ss2,us,q2,mY q2 q3,rfl,q1.h⟩
   cases e with
   |normal=>
    intro K hK;obtain⟨us,a,b⟩:=key q K hK;exact⟨.inl rfl,us,a,b⟩
   |ret=>
    intro K hK;obtain⟨us,a,b⟩:=key q K hK;exact⟨.inr rfl,us,a,b⟩
   |exit i=>exact q.elim
   |goto i=>exact q.elim
   |panic i=>exact q.elim
   |outgrown=>exact q.elim
theorem iw_of(hm:P.follows .mixedOrders=true)(hT:dA E T)(hC:AllC E tb C){g:FuncId}{rs:List ResultVar}{body:Code}(hg:E.fn g=some ⟨n,rs,body⟩):bW E tb g (bDo E T C tb n AN DR rs body):=by
 intro fe S H0 A0 A L0 ρ PS ss vs hp nx K qz yh zp hr hh h H hH;unfold bDo at h;cases en:Nat.ble (fV ss) n with
 |false=>simp_all
 |true=>
  rw[en,QT] at h;have h:=gV (fD h);have qe:vs.length<=n:=by rw[hr.len,<-dQ];simp_all
  refine vJ (l:=yJ vs 0 []) (L:=flt PS++L0) hg (lY qe) ?_ hH;refine fL (ρe:=ρ) (Ae:=A) (He:=H0) hm hT hC ⟨qz,fun e=>by cases e⟩ body h ?_ ⟨yh,zp,tF hr rfl,hh⟩ (fun i _ v hv=>hv) (Gr.refl _ _);intro e fs hp nx q ρ1 PS1 A' H' l t hD hx za;have main:∀{fx:NL},FxR fx ρ ρ1->∀q:sM T fs hp rs fun vs=>K fx (oB vs) hp nx,∀K',HS S H' A0 A' (flt PS1++L0) K'->∃us,bS E (fr n t l) K' rs=some us/\∃H1 A1 ρ' PS' fx s qc nx',Gr A H0 A1 H1/\HS S H1 A0 A1 (flt PS'++L0) K'/\K fx s qc nx'/\FxR fx ρ ρ'/\(∀i,nx'<=i->ρ' i=none)/\(∀i v,ρ' i=some v->v.oneCell'=true)/\RepH E ρ' A1 H1 qc PS'/\Rep ρ' A1 H1 s (bG us):=by
   intro fx hx q K' hK;obtain⟨ss',us,k1,k2,k3⟩:=kY (S:=S) (A0:=A0) (L0:=L0) hT hD q;exact⟨us,k3.ok hK,H',A',ρ1,PS1,_,_,hp,nx,za,hK,k1,hx,hD.no,hD.one,hD.hp,rB k2⟩
  cases e with
  |normal=>
   intro K' hK;obtain⟨us,a,b⟩:=main hx q K' hK;exact⟨.inl rfl,us,a,b⟩
  |ret=>
   intro K' hK;obtain⟨us,a,b⟩:=main hx q K' hK;exact⟨.inr rfl,us,a,b⟩
  |exit i=>exact q.elim
  |goto i=>exact q.elim
  |panic i=>exact q.elim
  |outgrown=>exact q.elim
theorem aS(hm:P.follows .mixedOrders=true)(hT:dA E T)(hC:AllC E tb C){g:FuncId}{F:Func}(hg:∀c,F.body=some c->E.fn g=some ⟨F.ntmps,F.results.toList,c⟩):bW E tb g (bI E T C tb AN DR F):=by
 unfold bI;cases e:F.body with
 |none=>intro fe S H0 A0 A L0 ρ PS ss vs hp nx K qz yh zp hr hh h;exact h.elim
 |some c=>grind [iw_of]
theorem AllC.nil:AllC E tb []:=fun g c h=>by cases h
theorem AllC.gam(h:AllC E tb C)(γ:Gam):AllC (γ:=γ) E tb C:=fun g c e=>⟨(h g c e).1,(h g c e).2.1,(h g c e).2.2.1,(h g c e).2.2.2.1,fun W hW=>by cases((h g c e).2.2.2.2 W hW).1⟩
theorem AllC.yld{γ:Gam}{W:Nat->IW}(hy:γ.y=true)(hw:bBz (γ:=γ) E tb W)(h:AllC (γ:=γ) E tb C):AllC (γ:=γ) E tb ((1000000,⟨[],[],fun _=>True,fun _ _=>True,0,some (.yld W)⟩)::C):=fun g' c' e=>by
 simp only[oF] at e;cases eb:Nat.beq 1000000 g' with
 |true=>
  grind
 |false=>rw[eb,QF] at e;exact h g' c' e
theorem AllC.cons'{g:Nat}{c:Ctr}(h:(c.ext=0->c.io=none->CtrOk P tb g c/\∃fn,E.fn g=some fn)/\(c.ext≠0->aAj P g c.ext)/\(∀ci,c.io=some (.ctr ci)->aU E tb g ci/\∃fn,E.fn g=some fn)/\(∀W,c.io=some (.inl W)->bW E tb g W/\∃fn,E.fn g=some fn)/\∀W,c.io≠some (.yld W))(k:AllC E tb C):AllC E tb ((g,c)::C):=fun g' c' e=>by
 simp only[oF] at e;cases eb:Nat.beq g g' with
 |true=>
  simp_all
 |false=>rw[eb,QF] at e;exact k g' c' e
theorem AllC.cons{g:Nat}{c:Ctr}(h:CtrOk P tb g c)(hf:∃fn,E.fn g=some fn)(k:AllC E tb C)(e:c.ext=0:=by rfl)(e2:c.io=none:=by rfl):AllC E tb ((g,c)::C):=.cons' ⟨fun _ _=>⟨h,hf⟩,fun h=>absurd e h,(fun ci h=>by rw[e2] at h;cases h),(fun ci h=>by rw[e2] at h;cases h),fun W h=>by rw[e2] at h;cases h⟩ k
theorem AllC.ext{g:Nat}{c:Ctr}(h:aAj P g c.ext)(k:AllC E tb C)(e:c.ext≠0:=by decide)(e2:c.io=none:=by rfl):AllC E tb ((g,c)::C):=.cons' ⟨fun h=>absurd h e,fun _=>h,(fun ci h=>by rw[e2] at h;cases h),(fun ci h=>by rw[e2] at h;cases h),fun W h=>by rw[e2] at h;cases h⟩ k
theorem AllC.io{g:Nat}{ci:CtrI}(h:aU E tb g ci)(hf:∃fn,E.fn g=some fn)(k:AllC E tb C):AllC E tb ((g,⟨[],[],fun _=>True,fun _ _=>True,0,some (.ctr ci)⟩)::C):=.cons' ⟨fun _ h=>(by cases h),fun h=>absurd rfl h,(fun ci' e=>by simp_all),(fun W e=>by cases e),fun W h=>by cases h⟩ k
theorem AllC.inl{g:Nat}{W:IW}(h:bW E tb g W)(hf:∃fn,E.fn g=some fn)(k:AllC E tb C):AllC E tb ((g,⟨[],[],fun _=>True,fun _ _=>True,0,some (.inl W)⟩)::C):=.cons' ⟨fun _ h=>(by cases h),fun h=>absurd rfl h,(fun ci' e=>by cases e),(fun W' e=>by simp_all),fun W h=>by cases h⟩ k
end
end Go.AM
namespace Go.AM
open Go.RowKit
variable [σ:Sg]
def zB(s:SV)(v:Value):Bool:=match s,v with
 |.int k n,.int k' m=>kEq k k'&&(decide (n=m)&&wfB k n)
 |.bool b,.bool c=>b==c
 |.str a,.string b=>decide (a.data.toList=b.data.toList)&&Nat.ble a.size maxLen
 |.nil,.slice none 0 0=>true
 |.pnil,.pointer none=>true
 |.any,_=>true
 |_,_=>false
def zsB:SL->List Value->Bool
 |[],[]=>true
 |s::r,v::q=>zB s v&&zsB r q
 |_,_=>false
section
variable {ρ:RM}{A:NQ}{H:AH}
theorem zB_ok{s:SV}{v:Value}(h:zB s v=true):Rep ρ A H s v:=by
 unfold zB at h;split at h
 ·rename_i k n k' m;simp only[QB,decide_eq_true_eq] at h;obtain⟨h1,h2,h3⟩:=h;have:=fR h1;subst this;subst h2;simp only[Rep];exact⟨trivial,aXn h3⟩
 ·rw[beq_iff_eq] at h;grind [Rep]
 ·rename_i a b;simp only[QB,decide_eq_true_eq] at h;have:a=b:=by
   cases a with|mk x=>simp_all
  subst this;simp only[Rep];simp_all
 ·simp only[Rep]
 ·simp only[Rep]
 ·simp only[Rep]
 ·cases h
theorem aSl:∀{s:SL} {v:VL},zsB s v=true->Reps ρ A H s v
 |[],[],_=>by simp only[Reps]
 |s::r,v::q,h=>by
  simp only[zsB,QB] at h;simp only[Reps];exact⟨zB_ok h.1,aSl h.2⟩
 |[],_::_,h=>by simp[zsB] at h
 |_::_,[],h=>by simp[zsB] at h
end
section
variable {P:PG}(E:Env P)
def plB:List (Nat×Nat×Nat)->List (Nat×Nat)->Bool
 |[],[]=>true
 |(o,_,s)::r,(o',s')::q=>Nat.beq o o'&&(Nat.beq s s'&&plB r q)
 |_,_=>false
def fdB:List (Nat×Nat×Nat)->List Field->Bool
 |[],_=>true
 |(o,t,_)::r,fd::q=>Nat.beq fd.offset o&&(Nat.beq fd.type t&&((match E.inf t with
  |some ii=>!(Nat.beq ii.size 0)
  |none=>false)&&fdB r q))
 |_::_,[]=>false
def smB(t:Nat)(m:Sm)(u:TypeDesc):Bool:=match m,u with
 |.int k,.int k'=>kEq k k'
 |.bool,.bool=>true
 |.str,.string=>true
 |.slice e,.slice e'=>Nat.beq e e'
 |.struct fs,.struct F=>(match wJ E t with
  |some pl=>plB fs pl
  |none=>false)&&fdB E fs F.toList
 |.array n e,.array n' e'=>Nat.beq n n'&&Nat.beq e e'
 |.ptr e,.pointer e'=>Nat.beq e e'
 |.map k e,.map k' e'=>Nat.beq k k'&&Nat.beq e e'
 |.bld,.struct _=>true
 |.oth,_=>true
 |_,_=>false
def tyB(t:Nat)(i:TyI):Bool:=match E.inf t,E.und t with
 |some ii,some u=>Nat.beq ii.size i.size&&(Nat.beq ii.bytes i.bytes&&((match ii.zero with
  |some z=>zsB i.zs (ext z).cells.toList&&zAg i.agg z
  |none=>false)&&((cW u==i.agg)&&smB E t i.sm u)))
 |_,_=>false
variable {E}
theorem aWt:∀{fs:List (Nat×Nat×Nat)} {pl:List (Nat×Nat)},plB fs pl=true->pl=fs.map fun x=>(x.1,x.2.2)
 |[],[],_=>rfl
 |(o,t,s)::r,(o',s')::q,h=>by
  simp only[plB,QB] at h;have h1:=QN h.1;have h2:=QN h.2.1;subst h1;subst h2;rw[aWt h.2.2];rfl
 |[],_::_,h=>by simp[plB] at h
 |_::_,[],h=>by simp[plB] at h
theorem aSh:∀{fs:List (Nat×Nat×Nat)} {F:List Field},fdB E fs F=true->∀f o ft s,atF fs f=some (o,ft,s)->∃fd ii,F[f]?=some fd/\fd.offset=o/\fd.type=ft/\E.inf ft=some ii/\Nat.beq ii.size 0=false
 |[],F,_,f,o,ft,s,e=>by simp[atF] at e
 |(o',t,s')::r,fd::q,h,f,o,ft,s,e=>by
  simp only[fdB,QB] at h;cases f with
  |zero=>
   simp only[atF,Option.some.injEq,Prod.mk.injEq] at e;obtain⟨rfl,rfl,rfl⟩:=e;have h3:=h.2.2.1;split at h3
   ·simp_all
   ·cases h3
  |succ f=>
   simp only[atF] at e;exact aSh h.2.2.2 f o ft s e
 |_::_,[],h,_,_,_,_,_=>by simp[fdB] at h
theorem bEb{t:Nat}{m:Sm}{u:TypeDesc}(h5:smB E t m u=true):cM E t m u:=by
 unfold smB at h5;split at h5
 ·have:=fR h5;subst this;rfl
 ·rfl
 ·rfl
 ·have:=QN h5;subst this;rfl
 ·rename_i fs F;rw[QB] at h5;have h6:=h5.1;split at h6
  ·rename_i pl r9;refine⟨F,rfl,by rw[r9,aWt h6],fun f o ft s e=>?_⟩
   grind [aSh]
  ·cases h6
 ·rw[QB] at h5;have a:=QN h5.1;have b:=QN h5.2;subst a;subst b;rfl
 ·have:=QN h5;subst this;rfl
 ·rw[QB] at h5;have a:=QN h5.1;have b:=QN h5.2;subst a;subst b;rfl
 ·exact⟨_,rfl⟩
 ·trivial
 ·cases h5
theorem bFh{t:Nat}{i:TyI}(h:tyB E t i=true):TyOk E t i:=by
 unfold tyB at h;split at h
 ·rename_i ii u hi hu;simp only[QB] at h;obtain⟨h1,h2,h3,h4,h5⟩:=h
  replace h1:=QN h1
  replace h2:=QN h2
  split at h3
  ·rename_i z hz;rw[QB] at h3;refine⟨⟨z,?_,fun ρ A H=>aSl h3.1⟩,⟨u,hu,by simpa using h4,bEb h5⟩,fun ii' z' e1 e2=>by simp_all⟩;rw[hi];cases ii with|mk a b c=>simp_all
  ·cases h3
 ·cases h
def ttB(E:Env P):TTb->Bool
 |[]=>true
 |(t,i)::r=>tyB E t i&&ttB E r
theorem aRk:∀{T:TTb},ttB E T=true->dA E T
 |[],_,t,i,e=>by cases e
 |(t',i')::r,h,t,i,e=>by
  simp only[ttB,QB] at h;simp only[bA] at e;cases eb:Nat.beq t' t with
  |true=>
   rw[eb,QT] at e
   grind [QN,bFh]
  |false=>rw[eb,QF] at e;exact aRk h.2 t i e
end
def gI(k:Nat)(fr:FR)(K:Int->Prop):Prop:=match bP k fr with
 |some (.int _ n)=>K n
 |_=>False
def gL(k:Nat)(fr:FR)(hp:HP)(K:Int->Prop):Prop:=match bP k fr with
 |some v=>(match aLi v hp with
  |some n=>K n
  |none=>False)
 |none=>False
def gB(k j:Nat)(fr:FR)(hp:HP)(K:Int->Prop):Prop:=match aVm k j fr hp with
 |some (.int _ n)=>K n
 |_=>False
def gBL(k j:Nat)(fr:FR)(hp:HP)(K:Int->Prop):Prop:=match aVm k j fr hp with
 |some v=>(match aLi v hp with
  |some n=>K n
  |none=>False)
 |none=>False
def tc(ps rs:List PK):Ctr:=⟨ps,rs,fun _=>Pr True,fun _ _=>Pr True,0,none⟩
def tx(k:Nat):Ctr:=⟨[],[],fun _=>Pr True,fun _ _=>Pr True,k,none⟩
end Go.AM
namespace Go.AM
open Go.RowKit
variable [σ:Sg]
def thR:List PI->List SV->Nat->TH
 |.own _ _ _::r,.ow j::vs,nx=>(nx,j)::thR r vs (nx+1)
 |.own _ _ _::r,_::vs,nx=>thR r vs (nx+1)
 |_::r,_::vs,nx=>thR r vs nx
 |_,_,_=>[]
def aRg(th:TH)(no:Nat)(hr:HP)(rs:List PI):SL->Nat->(List SV->Prop)->Prop:=List.rec (motive:=fun _=>List SV->Nat->(List SV->Prop)->Prop) (fun vs _ K=>match vs with
 |[]=>K []
 |_::_=>False) (fun p _ ih vs nx K=>match vs with
 |[]=>False
 |v::vs=>(match p with
  |.d p=>coP p (fzS hr v) fun v=>ih vs nx fun r=>K (v::r)
  |.own _ _ _=>Ag (agC th (.ow nx) v) (cond (Nat.blt nx no) (ih vs (nx+1) fun r=>K (.ow nx::r)) False)
  |_=>False)) rs
def cvR(rs:List PI):SL->HP->Nat->(List SV->HP->Nat->Prop)->Prop:=List.rec (motive:=fun _=>List SV->HP->Nat->(List SV->HP->Nat->Prop)->Prop) (fun vs hp nx K=>K vs hp nx) (fun p _ ih vs hp nx K=>match vs with
 |[]=>K [] hp nx
 |v::vs=>(match p,v with
  |.own b ks _,.nil=>ih vs ((nx,.row b ks [])::hp) (nx+1) fun vs hp nx'=>K (.ow nx::vs) hp nx'
  |_,v=>ih vs hp nx fun vs hp nx=>K (v::vs) hp nx)) rs
section
variable {P:PG}(E:Env P)(T:TTb)(C:CTb)(tb:TBs)
def bCx(ci:CtrI)(ss:SL)(hl:HP)(nl:Nat)(rs:List ResultVar)(e:Exit)(fs:FR)(hp:HP)(nx:Nat):Prop:=
 cond (match e with
  |.normal=>true
  |.ret=>true
  |_=>false) (sM T fs hp rs fun vs=>cvR ci.rs vs hp nx fun vs hp _=>
  nxH (rU (lT ci.ps 0) (lQ (plc ci.rs nl (iI (cA ci.ps 0).2 hl)))) (thR ci.rs vs nl++thH (rU (lT ci.ps 0) (lQ (plc ci.rs nl (iI (cA ci.ps 0).2 hl)))) hp (plc ci.rs nl (iI (cA ci.ps 0).2 hl))) (nxR ci.rs nl) (plc ci.rs nl (iI (cA ci.ps 0).2 hl)) hp fun h2 hr=>
   aRg (thR ci.rs vs nl++thH (rU (lT ci.ps 0) (lQ (plc ci.rs nl (iI (cA ci.ps 0).2 hl)))) hp (plc ci.rs nl (iI (cA ci.ps 0).2 hl))) (nxR ci.rs nl) hr ci.rs vs nl fun rv=>
    cond (fxB (thR ci.rs vs nl++thH (rU (lT ci.ps 0) (lQ (plc ci.rs nl (iI (cA ci.ps 0).2 hl)))) hp (plc ci.rs nl (iI (cA ci.ps 0).2 hl))) (nxR ci.rs nl) (cA ci.ps 0).1) (Ob (ci.post ss hl rv h2) True) False) False
def wfunI(n:Nat)(AN:List (Nat×Ann))(DR:DRs)(ci:CtrI)(rs:List ResultVar)(body:Code):Prop:=
 aLo ci.ps [] 0 fun ss hl nl=>cond (Nat.ble (fV ss) n) (HyP (ci.pre ss hl)->wpC E T C tb n AN DR (cA ci.ps 0).1 body (ent ss 0 []) hl nl fun e fs hp nx=>bCx T ci ss hl nl rs e fs hp nx) False
end
section
variable {P:PG}{E:Env P}{T:TTb}{C:CTb}{tb:TBs}{n:Nat}{AN:List (Nat×Ann)}{DR:DRs}
theorem aAi{ro:NL}{p:Nat×SJ}{r:HP}{K:HP->Prop}:wZ ro (p::r) K=cond (aJ p.1 ro) (wZ ro r fun r=>K (p::r)) (match p with
 |(i,.box t cs)=>aNd aHs cs fun cs=>wZ ro r fun r=>K ((i,.box t cs)::r)
 |(i,.row b ks _)=>∀l,wZ ro r fun r=>K ((i,.row b ks l)::r)
 |(_,.oth _)=>False):=rfl
theorem sL{q:NL}{i:Nat}:∀{l:NL},aJ i (rU q l)=true->aJ i q=false
 |[],h=>by cases h
 |j::r,h=>by
  simp only[rU] at h;cases e:aJ j q with
  |true=>rw[e,QT] at h;exact sL h
  |false=>
   rw[e,QF] at h;simp only[aJ] at h;cases e2:Nat.beq j i with
   |true=>simp_all
   |false=>rw[e2,QF] at h;exact sL h
theorem nQ{hv ro:NL}(hd:∀i,aJ i hv=true->aJ i ro=false):∀{f g:HP} {K:HP->Prop},wZ ro f K->InH hv f g->K g
 |[],[],K,h,.nil=>h
 |(i,v)::r,(_,w)::q,K,h,.turn hk hs tt=>by
  rw[aAi,show aJ (i,v).1 ro=false from hd i hk,QF] at h;cases hs with
  |box s=>exact nQ hd (f:=r) (g:=q) (K:=fun r=>K ((i,.box _ _)::r)) (rN (K:=fun cs=>wZ ro r fun r=>K ((i,.box _ cs)::r)) h s) tt
  |row=>exact nQ hd (f:=r) (g:=q) (K:=fun r=>K ((i,.row _ _ _)::r)) (h _) tt
  |wk=>exact(h:False).elim
  |mp=>exact(h:False).elim
  |ho=>exact(h:False).elim
  |vals=>exact(h:False).elim
  |bl=>exact(h:False).elim
  |vr=>exact(h:False).elim
 |(i,v)::r,(_,_)::q,K,h,.stay hk tt=>by
  rw[aAi] at h;cases e:aJ (i,v).1 ro with
  |true=>rw[e,QT] at h;exact nQ hd (f:=r) (g:=q) (K:=fun r=>K ((i,v)::r)) h tt
  |false=>
   rw[e,QF] at h;cases v with
   |box t cs=>exact nQ hd (f:=r) (g:=q) (K:=fun r=>K ((i,.box t cs)::r)) (rN (K:=fun cs=>wZ ro r fun r=>K ((i,.box t cs)::r)) h (ShL.refl cs)) tt
   |row b ks l=>exact nQ hd (f:=r) (g:=q) (K:=fun r=>K ((i,.row b ks l)::r)) (h l) tt
   |oth o=>exact(h:False).elim
section
variable {ρ:RM}{A A1:NQ}{H H1:AH}{hr:HP}{th:TH}{no:Nat}
theorem aCn(g:Gr A H A1 H1)(f:∀i b ks r,hget i hr=some (.row b ks r)->∃x,ρ i=some x/\CellA A1 H1 (.row b ks) x (.row r)):∀{rs:List PI} {vs:SL} {us:VL} {nx:Nat} {K:SL->Prop},aRg th no hr rs vs nx K->Reps ρ A H vs us->∃rv,K rv/\Reps (mD ρ no th) A1 H1 rv us/\∀KK,aOr rs nx KK->KK rv
 |[],[],[],nx,K,h,_=>⟨[],h,by simp only[Reps],fun KK hK=>hK⟩
 |.d p::rs,v::vs,u::us,nx,K,h,hv=>by
  simp only[Reps] at hv;have h:coP p (fzS hr v) fun v=>aRg th no hr rs vs nx fun r=>K (v::r):=h;obtain⟨v',h1,h2,h3⟩:=tB h (aTj g f hv.1);obtain⟨rv,k1,k2,k3⟩:=aCn g f h1 hv.2;exact⟨v'::rv,k1,by grind [Reps,uR],fun KK hK=>k3 (fun vs=>KK (v'::vs)) (aCh (K:=fun v=>aOr rs nx fun vs=>KK (v::vs)) hK h2)⟩
 |.own b ks bk::rs,v::vs,u::us,nx,K,h,hv=>by
  simp only[Reps] at hv;have h:Ag (agC th (.ow nx) v) (cond (Nat.blt nx no) (aRg th no hr rs vs (nx+1) fun r=>K (.ow nx::r)) False):=h;have h2:=h.t;cases e:Nat.blt nx no with
  |false=>simp_all
  |true=>
   rw[e,QT] at h2;obtain⟨rv,k1,k2,k3⟩:=aCn g f h2 hv.2;exact⟨.ow nx::rv,k1,by simp only[Reps];exact⟨aHn (s:=.ow nx) e h.h (Rep.mono (RMle.refl _) g hv.1),k2⟩,fun KK hK=>k3 (fun vs=>KK (.ow nx::vs)) hK⟩
 |.bx _ _::_,_::_,_::_,_,_,h,_=>(h:False).elim
 |.bxr _ _ _::_,_::_,_::_,_,_,h,_=>(h:False).elim
 |.fn _ _::_,_::_,_::_,_,_,h,_=>(h:False).elim
 |[],_::_,_,_,_,h,_=>(h:False).elim
 |_::_,[],_,_,_,h,_=>(h:False).elim
 |[],[],_::_,_,_,_,h=>by simp only[Reps] at h
 |_::_,_::_,[],_,_,_,h=>by simp only[Reps] at h
theorem aIx:∀{rs:List PI} {vs:SL} {us:VL} {hp:HP} {nx:Nat} {fs:FR} {PS:PSs} {l:LV} {ρ:RM} {K:SL->HP->Nat->Prop},cvR rs vs hp nx K->Den E ρ nx fs hp PS A H l->Reps ρ A H vs us->∃vs' qc nx' ρ' PS',K vs' qc nx'/\Den E ρ' nx' fs qc PS' A H l/\RMle ρ ρ'/\Reps ρ' A H vs' us/\flt PS'=flt PS
 |[],vs,us,hp,nx,fs,PS,l,ρ,K,h,hD,hv=>⟨vs,hp,nx,ρ,PS,h,hD,RMle.refl _,hv,rfl⟩
 |p::rs,[],us,hp,nx,fs,PS,l,ρ,K,h,hD,hv=>⟨[],hp,nx,ρ,PS,h,hD,RMle.refl _,hv,rfl⟩
 |p::rs,v::vs,[],hp,nx,fs,PS,l,ρ,K,h,hD,hv=>by simp only[Reps] at hv
 |p::rs,v::vs,u::us,hp,nx,fs,PS,l,ρ,K,h,hD,hv=>by
  simp only[Reps] at hv;have keep:∀h:cvR rs vs hp nx fun vs hp nx=>K (v::vs) hp nx,∃vs' qc nx' ρ' PS',K vs' qc nx'/\Den E ρ' nx' fs qc PS' A H l/\RMle ρ ρ'/\Reps ρ' A H vs' (u::us)/\flt PS'=flt PS:=fun h=>by
   obtain⟨vs',qc,nx',ρ',PS',k1,k2,k3,k4,k5⟩:=aIx h hD hv.2;exact⟨v::vs',qc,nx',ρ',PS',k1,k2,k3,by simp only[Reps];exact⟨Rep.mono k3 (Gr.refl _ _) hv.1,k4⟩,k5⟩
  cases p with
  |own b ks bk=>
   cases v with
   |nil=>
    have h:cvR rs vs ((nx,.row b ks [])::hp) (nx+1) fun vs hp nx'=>K (.ow nx::vs) hp nx':=h;have h1:=hv.1;simp only[Rep] at h1;subst h1;have qf:=fH (x:=.slice none 0 0) (hD.no nx (Nat.le_refl _));have zk:=hD.push (x:=.slice none 0 0) (o:=.row b ks []) (La:=[]) rfl (fun _ hr=>⟨_,hr,OwS.nil⟩);obtain⟨vs',qc,nx',ρ',PS',k1,k2,k3,k4,k5⟩:=aIx h zk (Reps.mono qf (Gr.refl _ _) hv.2);exact⟨.ow nx::vs',qc,nx',ρ',PS',k1,k2,qf.trans k3,by simp only[Reps,Rep];exact⟨k3 _ _ (if_pos rfl),k4⟩,k5⟩
   |_=>exact keep h
  |_=>exact keep h
end
theorem aT(hm:P.follows .mixedOrders=true)(hT:dA E T)(hC:AllC E tb C){g:FuncId}{ci:CtrI}{rs:List ResultVar}{body:Code}(hg:E.fn g=some ⟨n,rs,body⟩)(h:wfunI E T C tb n AN DR ci rs body):aU E tb g ci:=by
 intro S H0 A0 A L0 ρ PS ss vs hl nl qz og yh zp hr hh qp H hH;have h:=og _ h;cases en:Nat.ble (fV ss) n with
 |false=>simp_all
 |true=>
  rw[en,QT] at h;have qe:vs.length<=n:=by rw[hr.len,<-dQ];simp_all
  have h:=h ⟨qp⟩;refine vJ (l:=yJ vs 0 []) (L:=flt PS++L0) hg (lY qe) ?_ hH;refine fL (ρe:=ρ) (Ae:=A) (He:=H0) hm hT hC ⟨qz,fun e=>by cases e⟩ body h ?_ ⟨yh,zp,tF hr rfl,hh⟩ (fun i _ v hv=>hv) (Gr.refl _ _);intro e fs hp nx q ρ1 PS1 A' H' l t hD hx za;unfold bCx at q
  have main:∀K,HS S H' A0 A' (flt PS1++L0) K->(e=.normal\/e=.ret)/\∃us,bS E (fr n t l) K rs=some us/\∃H1 A1 ρ' PS' ho rv us',Gr A H0 A1 H1/\HS S H1 A0 A1 (flt PS'++L0) K/\
   (∀K:SL->HP->Prop,(wZ (lT ci.ps 0) (plc ci.rs nl (iI (cA ci.ps 0).2 hl)) fun ho=>aOr ci.rs nl fun rs=>K rs ho)->K rv ho)/\(∀i,aJ i (cA ci.ps 0).1=true->∀v,ρ i=some v->ρ' i=some v)/\(∀i,nxR ci.rs nl<=i->ρ' i=none)/\(∀i v,ρ' i=some v->v.oneCell'=true)/\
   Reps ρ' A1 H1 rv us'/\RepH E ρ' A1 H1 ho PS'/\bG us=bG us'/\ci.post ss hl rv ho:=by
   intro K hK;have he:(e=.normal\/e=.ret)/\(sM T fs hp rs fun vs=>cvR ci.rs vs hp nx fun vs hp _=>
  nxH (rU (lT ci.ps 0) (lQ (plc ci.rs nl (iI (cA ci.ps 0).2 hl)))) (thR ci.rs vs nl++thH (rU (lT ci.ps 0) (lQ (plc ci.rs nl (iI (cA ci.ps 0).2 hl)))) hp (plc ci.rs nl (iI (cA ci.ps 0).2 hl))) (nxR ci.rs nl) (plc ci.rs nl (iI (cA ci.ps 0).2 hl)) hp fun h2 hr=>
   aRg (thR ci.rs vs nl++thH (rU (lT ci.ps 0) (lQ (plc ci.rs nl (iI (cA ci.ps 0).2 hl)))) hp (plc ci.rs nl (iI (cA ci.ps 0).2 hl))) (nxR ci.rs nl) hr ci.rs vs nl fun rv=>
    cond (fxB (thR ci.rs vs nl++thH (rU (lT ci.ps 0) (lQ (plc ci.rs nl (iI (cA ci.ps 0).2 hl)))) hp (plc ci.rs nl (iI (cA ci.ps 0).2 hl))) (nxR ci.rs nl) (cA ci.ps 0).1) (Ob (ci.post ss hl rv h2) True) False):=by
    grind
   obtain⟨he,q⟩:=he;refine⟨he,?_⟩;obtain⟨vs1,us,q,r2,r3⟩:=kY (S:=S) (A0:=A0) (L0:=L0) hT hD q;obtain⟨vs2,ze,nx2,ρ2,PS2,q,yr,qf,r4,yc⟩:=aIx q hD r2;obtain⟨h2,PS3,hr,PSr,q,i1,i2,i3,i4⟩:=aBo yr.hp q;have ml:HS S H' A0 A' (flt PSr++(flt PS3++L0)) K:=hK.perm (by
    have e1:(flt PSr++(flt PS3++L0)).Perm ((flt PS3++flt PSr)++L0):=by
     grind [QA,List.Perm.append_right,List.perm_append_comm]
    rw[<-yc];exact e1.trans (List.Perm.append_right _ i4))
   obtain⟨A1,H1,g1,g2,g3⟩:=kF i3 ml;obtain⟨rv,q,k2,k3⟩:=aCn g1 g3 q r4;cases eb:fxB (thR ci.rs vs2 nl++thH (rU (lT ci.ps 0) (lQ (plc ci.rs nl (iI (cA ci.ps 0).2 hl)))) ze (plc ci.rs nl (iI (cA ci.ps 0).2 hl))) (nxR ci.rs nl) (cA ci.ps 0).1 with
   |false=>simp_all
   |true=>
    rw[eb,QT] at q;refine⟨us,r3.ok hK,H1,A1,_,PS3,h2,rv,us,za.trans g1,g2,fun KK hKK=>k3 _ (nQ (fun i hi=>sL hi) hKK i1),fun i hi v hv=>?_,fun i hi=>if_neg (Nat.not_lt.2 hi),fun i v hv=>?_,k2,RepH.mono (RMle.refl _) g1 i2,rfl,q.h⟩
    ·obtain⟨e1,e2⟩:=aGt eb i hi;exact(if_pos e2).trans (by rw[e1];exact qf _ _ (hx i hi v hv))
    ·unfold mD at hv;split at hv
     ·exact yr.one _ _ hv
     ·cases hv
  intro K hK;obtain⟨he,us,a,b⟩:=main K hK;exact⟨he,us,a,b⟩
end
def oL(i:Nat)(hp:HP)(K:Int->Prop):Prop:=match hget i hp with
 |some (.row _ _ l)=>K ((l.length:Nat):Int)
 |_=>False
def oI(i j:Nat)(hp:HP)(K:Int->Prop):Prop:=match hget i hp with
 |some (.box _ cs)=>(match atS cs j with
  |some (.int _ n)=>K n
  |_=>False)
 |_=>False
def rI(j:Nat)(l:SL)(K:Int->Prop):Prop:=match atS l j with
 |some (.int _ n)=>K n
 |_=>False
def AllB(f:CL->Prop)(l:LX)(i:Int):Prop:=∀j:Int,0<=j->j<i->f (elC l j)
theorem AllB.zero{f:CL->Prop}{l:LX}:AllB f l 0:=fun j a b=>absurd b (by omega)
theorem AllB.step{f:CL->Prop}{l:LX}{i:Int}(h:AllB f l i)(hi:f (elC l i)):AllB f l (i+1):=fun j a b=>by
 by_cases e:j=i
 ·rw[e];exact hi
 ·exact h j a (by omega)
theorem AllB.mono{f:CL->Prop}{l:LX}{i k:Int}(h:AllB f l i)(e:k<=i):AllB f l k:=fun j a b=>h j a (by omega)
def AllF(f:CL->Prop)(l:LX)(i:Int):Prop:=0<i->f (elC l 0)
theorem AllF.zero{f:CL->Prop}{l:LX}:AllF f l 0:=fun h=>absurd h (by omega)
theorem AllF.step{f:CL->Prop}{l:LX}{i:Int}(h:AllF f l i)(h0:0<=i)(k:i=0->f (elC l i)):AllF f l (i+1):=fun _=>by
 by_cases e:i=0
 ·simp_all
 ·exact h (by omega)
theorem AllF.dis{f:CL->Prop}{l:LX}{i n:Int}(h:AllF f l i)(k:n<=i):n<=0\/f (elC l 0):=by
 by_cases e:n<=0
 ·exact .inl e
 ·exact .inr (h (by omega))
def rcI(k j:Nat)(l:SL)(K:Int->Prop):Prop:=match atS l k with
 |some (.agg cs)=>rI j cs K
 |some (.ep _ _ _ _ cs)=>rI j cs K
 |_=>False
def rR(j:Nat)(l:SL)(K:LX->Prop):Prop:=match atS l j with
 |some (.row _ _ m)=>K m
 |_=>False
def gR(k:Nat)(fr:FR)(hp:HP)(K:LX->Prop):Prop:=match bP k fr with
 |some (.row _ _ m)=>K m
 |some (.nil)=>K []
 |some (.ow i)=>(match hget i hp with
  |some (.row _ _ l)=>K l
  |some (.oth (.wk _ _ l))=>K l
  |some (.oth (.ho _ _ l _ _))=>K l
  |_=>False)
 |_=>False
def gHL(k:Nat)(fr:FR)(hp:HP)(K:Int->Prop):Prop:=match bP k fr with
 |some (.ow i)=>(match hget i hp with
  |some (.oth (.ho _ _ _ _ id))=>(match hget id hp with
   |some (.row _ _ l)=>K ((l.length:Nat):Int)
   |_=>False)
  |_=>False)
 |_=>False
def gM(k:Nat)(fr:FR)(hp:HP)(K:(Int->Option CL)->Prop):Prop:=match bP k fr with
 |some (.ow i)=>(match hget i hp with
  |some (.oth (.mp _ _ _ m))=>K m
  |_=>False)
 |_=>False
def rS(j:Nat)(l:SL)(K:Int->Prop):Prop:=match atS l j with
 |some (.str s)=>K ((s.data.toList.length:Nat):Int)
 |_=>False
def gS(k:Nat)(fr:FR)(K:Int->Prop):Prop:=match bP k fr with
 |some (.str s)=>K ((s.data.toList.length:Nat):Int)
 |_=>False
def rL(j:Nat)(l:SL)(K:Int->Prop):Prop:=match atS l j with
 |some (.row _ _ m)=>K ((m.length:Nat):Int)
 |_=>False
def rcL(k j:Nat)(l:SL)(K:Int->Prop):Prop:=match atS l k with
 |some (.agg cs)=>rL j cs K
 |some (.ep _ _ _ _ cs)=>rL j cs K
 |_=>False
def oR(i:Nat)(hp:HP)(K:LX->Prop):Prop:=match hget i hp with
 |some (.row _ _ l)=>K l
 |_=>False
def oCL(i j:Nat)(hp:HP)(K:Int->Prop):Prop:=match hget i hp with
 |some (.box _ cs)=>rL j cs K
 |_=>False
def oG(i j:Nat)(hp:HP)(K:Int->Int->Prop):Prop:=match hget i hp with
 |some (.box _ cs)=>(match atS cs j with
  |some (.rng lo hi)=>K lo hi
  |_=>False)
 |_=>False
theorem aEx{P:PG}{E:Env P}{tb:TBs}{g:FuncId}{c:Nat->CtrI}(h0:∀ss hl,¬(c 0).pre ss hl)(h:∀k,aU E tb g (c k)->aU E tb g (c (k+1))):∀k,aU E tb g (c k)
 |0=>fun S H0 A0 A L0 ρ PS ss vs hl nl _ _ _ _ _ _ hp=>absurd hp (h0 ss hl)
 |k+1=>h k (aEx h0 h k)
end Go.AM
namespace Go.AM
open Go.RowKit
variable [σ:Sg]
abbrev pL(π:Pins)(b:Nat)(o:Option Obj):Pins:=⟨⟨fun k=>if k=b then o else π.pin k,π.ds⟩⟩
abbrev pds(π:Pins)(ds:List Deferred):Pins:=⟨⟨π.pin,ds⟩⟩
theorem Rel.ds{π:Pins}{φ:PL}{H:AH}{w:World}(R: @Rel σ π φ H w)(ds:List Deferred): @Rel σ (pds π ds) φ H w:=
 @Rel.mk σ (pds π ds) _ _ _ (@Rel.below σ π _ _ _ R) (@Rel.len σ π _ _ _ R) (@Rel.obj σ π _ _ _ R) (@Rel.inj σ π _ _ _ R) (@Rel.pin σ π _ _ _ R) (@Rel.lt σ π _ _ _ R) (@Rel.ro σ π _ _ _ R)
theorem Rel.unds{π:Pins}{ds:List Deferred}{φ:PL}{H:AH}{w:World}(R: @Rel σ (pds π ds) φ H w): @Rel σ π φ H w:=
 @Rel.mk σ π _ _ _ (@Rel.below σ (pds π ds) _ _ _ R) (@Rel.len σ (pds π ds) _ _ _ R) (@Rel.obj σ (pds π ds) _ _ _ R) (@Rel.inj σ (pds π ds) _ _ _ R) (@Rel.pin σ (pds π ds) _ _ _ R) (@Rel.lt σ (pds π ds) _ _ _ R) (@Rel.ro σ (pds π ds) _ _ _ R)
theorem Rel.turn{π:Pins}{φ:PL}{H:AH}{w:World}(R: @Rel σ π φ H w){b:Nat}{x:Obj}(o:Obj)(hb:H.w0.heap.size<=b)(hp:π.pin b=some x)(hc:∀C e f,x≠.cells C e f): @Rel σ (pL π b (some o)) φ H (w.putObj b o):=by
 have hx:=(@Rel.pin σ π _ _ _ R b x hp);have qm:b<w.heap.size:=(Array.getElem?_eq_some_iff.1 hx.1).1;refine @Rel.mk σ (pL π b (some o)) _ _ _ ?_ (@Rel.len σ π _ _ _ R) ?_ (@Rel.inj σ π _ _ _ R) ?_ ?_ ?_
 ·have B:= @Rel.below σ π _ _ _ R;exact⟨B.os,B.tape,B.output,by grind [World.putObj_size],fun k hk=>by rw[World.putObj_heap_other (by omega)];exact B.block k hk⟩
 ·grind [Rel.obj,Rel.rdN,World.putObj_heap_other]
 ·intro k y hk
  replace hk:(if k=b then some o else π.pin k)=some y:=hk
  by_cases e:k=b
  ·subst e;rw[if_pos rfl] at hk;grind [World.putObj_heap_same]
  ·rw[if_neg e] at hk
   grind [Rel.pin,World.putObj_heap_other]
 ·intro i p hi;rw[World.putObj_size];exact @Rel.lt σ π _ _ _ R i p hi
 ·intro i c hi;obtain⟨h1,p,y,h2,h3,h4⟩:= @Rel.ro σ π _ _ _ R i c hi;refine⟨h1,p,y,h2,?_,h4⟩;show(if p.blk=b then some o else π.pin p.blk)=some y;rw[if_neg];exact h3;intro e;rw[e,hp] at h3;cases h3;obtain⟨C,e',lo,qi,e9,_⟩:=h4;exact hc _ _ _ e9
theorem Rel.allocPin{π:Pins}{φ:PL}{H:AH}{w:World}(R: @Rel σ π φ H w)(o:Obj): @Rel σ (pL π w.heap.size (some o)) φ H (w.alloc o):=by
 have hs:∀k,k<w.heap.size->(w.alloc o).heap[k]?=w.heap[k]?:=fun k hk=>Below.heap_alloc _ _ _ hk;refine @Rel.mk σ (pL π w.heap.size (some o)) _ _ _ ((@Rel.below σ π _ _ _ R).alloc (@Rel.below σ π _ _ _ R).size o) (@Rel.len σ π _ _ _ R) ?_ (@Rel.inj σ π _ _ _ R) ?_ ?_ ?_
 ·grind [Rel.obj,Rel.lt]
 ·intro k y hk
  replace hk:(if k=w.heap.size then some o else π.pin k)=some y:=hk
  by_cases e:k=w.heap.size
  ·subst e;rw[if_pos rfl] at hk;cases hk;exact⟨World.alloc_heap_new _ _,fun i p hi _=>Nat.ne_of_lt (@Rel.lt σ π _ _ _ R _ _ hi)⟩
  ·rw[if_neg e] at hk
   grind [Rel.pin,Array.getElem?_eq_some_iff]
 ·intro i p hi;rw[World.size_alloc];exact Nat.lt_succ_of_lt (@Rel.lt σ π _ _ _ R i p hi)
 ·intro i c hi;obtain⟨h1,p,y,h2,h3,h4⟩:= @Rel.ro σ π _ _ _ R i c hi;refine⟨h1,p,y,h2,?_,h4⟩;show(if p.blk=w.heap.size then some o else π.pin p.blk)=some y;rw[if_neg];exact h3;exact Nat.ne_of_lt (@Rel.lt σ π _ _ _ R _ _ h2)
theorem Rel.forget{π π':Pins}{φ:PL}{H:AH}{w:World}(R: @Rel σ π' φ H w)(h:∀b x,π.pin b=some x->π'.pin b=some x)(h2:∀b x,π'.pin b=some x->π.pin b=some x\/(∀C e f,x≠.cells C e f)): @Rel σ π φ H w:=by
 refine @Rel.mk σ π _ _ _ (@Rel.below σ π' _ _ _ R) (@Rel.len σ π' _ _ _ R) (@Rel.obj σ π' _ _ _ R) (@Rel.inj σ π' _ _ _ R) (fun k y hk=> @Rel.pin σ π' _ _ _ R k y (h _ _ hk)) (@Rel.lt σ π' _ _ _ R) fun i c hi=>?_;obtain⟨h1,p,y,h3,h4,h5⟩:= @Rel.ro σ π' _ _ _ R i c hi;refine⟨h1,p,y,h3,?_,h5⟩;rcases h2 _ _ h4 with h4|h4
 ·exact h4
 ·obtain⟨C,e',lo,qi,e9,_⟩:=h5
  simp_all
theorem Rel.place{π:Pins}{φ:PL}{H:AH}{w:World}(R: @Rel σ π φ H w){i0:Nat}{o0:AObj}{p0:Place}(h0:H.tr.get i0=some o0)(xj:φ[i0]?=some p0)(q:Place)(hq:q.blk=p0.blk): @Rel σ π (φ++[q]) {H with nx:=H.nx+1} w:=by
 have qp:φ <+: φ++[q]:=⟨_,rfl⟩;have at_:∀{i:Nat} {p:Place},(φ++[q])[i]?=some p->φ[i]?=some p\/(i=φ.length/\p=q):=by
  grind
 have old:∀{i:Nat} {o:AObj},H.tr.get i=some o->i<φ.length:=fun h=>by
  grind [Rel.obj,lt_of_getElem?]
 have up:∀{i:Nat} {p:Place},φ[i]?=some p->(φ++[q])[i]?=some p:=fun h=>by
  grind
 refine @Rel.mk σ π _ _ _ (@Rel.below σ π φ H w R) ?_ ?_ ?_ ?_ ?_ ?_
 ·grind [List.length_append,Rel.len]
 ·grind [Rel.obj,ORel.mono]
 ·grind [Rel.inj]
 ·intro b x hb;have:= @Rel.pin σ π _ _ _ R b x hb;refine⟨this.1,fun i p hi hr=>?_⟩;rcases at_ hi with hi|⟨_,rfl⟩
  ·exact this.2 i p hi hr
  grind [Rel.rdN]
 ·intro i p hi;rcases at_ hi with hi|⟨_,rfl⟩
  ·exact @Rel.lt σ π _ _ _ R i p hi
  ·rw[hq];exact @Rel.lt σ π _ _ _ R i0 p0 xj
 grind [Rel.ro,RoR.mono]
def YRec(n0:Nat)(p:Tmp)(asg bd:Code)(f1:Fr)(N:Nat)(π:Pins)(φ:PL):Prop:=
 ∃q r,φ[N]?=some q/\n0<=q.tot/\π.pin q.tot=some (.loop r)/\r.state=.ready/\r.pending=none/\r.params= #[p]/\r.assign=asg/\r.body=bd/\r.tmps.size=f1.n/\∀t,VR φ (aK f1 (.tmp t)) (r.tmps.getD t undef)
abbrev aVy(n0:Nat)(p:Tmp)(asg bd:Code)(f1:Fr)(N:Nat):Gam:=⟨⟨true,n0,fun π _ φ=>YRec n0 p asg bd f1 N π φ,fun π ro φ φ' h ⟨q,r,h1,h2,h3,h4,h5,h6,h7,h8,h9,jo⟩=>
 ⟨q,r,(by obtain⟨t,rfl⟩:=h;grind),h2,h3,h4,h5,h6,h7,h8,h9,fun t=>(jo t).mono h⟩⟩⟩
abbrev yZ:Gam:=⟨⟨false,0,fun _ ro _=>ro=none,fun _ _ _ _ _ h=>h⟩⟩
section
variable {P:PG}
theorem AYield.round{n0 N:Nat}{p:Tmp}{asg bd:Code}{f1 fa g1 g2:Fr}{H K1 K2:AH}{o:Oper}{c:Call}{z x:Operand}{f:Fr}{v:Value}(qg:o.op=.call c)(hc:c.callee=.value z)(hz:aK f z=.func (.yield (2*N+1)) ⟨[]⟩ ⟨[]⟩)(ha:c.args.toList=[x])(hx:aK f x=v)
 (hp:f1.put (some p) v=some fa)(hn:H.w0.heap.size=n0)(h1:pF (γ:=allG) P asg .normal g1 K1 fa H)(h2:pF (γ:=allG) P bd .normal g2 K2 g1 K1):AYield (γ:=aVy n0 p asg bd f1 N) P o f H (.bool true) K2:=by
 refine⟨rfl,⟨c,qg⟩,fun π ro φ a w hg hf hR next Q hk=>?_⟩;obtain⟨q,r,y1,y2,y3,y4,y5,y6,y7,y8,y9,y10⟩:=hg;obtain⟨vr,ov⟩:∃u,a.eval x=u:=⟨_,rfl⟩;have hv:VR φ v vr:=by grind
 have gc:=hf z;rw[hz] at gc;have hae:c.args.map a.eval= #[vr]:=by rw[<-Array.toList_inj];simp[ha,ov]
 have hl:=(@Rel.pin σ π _ _ _ hR _ _ y3).1;have qt:(o.semAt (cL ro).round a.eval).run P w=.ok (.round q.tot r.fn (r.tmps.setIfInBounds p vr) asg bd) w:=by
  rw[Oper.semAt_eq _ _ _ (fun c e=>by rw[qg] at e;cases e)];generalize zd:a.eval z=cc at gc;cases gc with
  |func fn hy q1 q2 q3 q4=>cases hy
  |yl hy q1 q2 q3 q4=>
   rename_i r' a' b';have ea:a'=[]:=List.eq_nil_of_length_eq_zero q1.symm;have eb:b'=[]:=List.eq_nil_of_length_eq_zero q2.symm;subst ea;subst eb;have er:r'=q.tot:=by
    rcases hy with⟨e,_⟩|⟨_,p',qc,rfl⟩
    ·omega
    grind
   subst er;have n4:=run_yield (P:=P) (args:= #[vr]) hl (by rw[y6];rfl);rw[y6,y7,y8] at n4;simp only[execOp,qg,resolve,hc,zd,Deferred.ofValue,invoke,hae];simpa using n4
 refine⟨fun _ _=>trivial,?_⟩;rw[qt];refine⟨fun e=>by simp[cL,Fence.wide] at e,roundIn_of_wpIn trivial ?_⟩;show Code.wpIn (cL (some q.tot)) 0 P asg _ _ _;have hF: @FRel σ (pds π []) φ fa {tmps:=r.tmps.setIfInBounds p vr,defers:=[]}:=by
  have: @FRel σ (pds π []) φ f1 {tmps:=r.tmps,defers:=[]}:=⟨rfl,y9,y10⟩;exact @FRel.put σ (pds π []) _ _ _ _ this _ _ _ hv hp
 refine wpIn_mono (h1.2 (pds π []) (some q.tot) φ _ w trivial hF (hR.ds [])) ?_;rintro e a1 w1 ⟨φ1,f',H',e1,e2,e3,e4,rfl,rfl,rfl⟩;have wg:=e3.unds;have ut:=(@Rel.pin σ π _ _ _ wg _ _ y3).1;have m3:H'.w0.heap.size<=q.tot:=by rw[h1.1,hn];exact y2
 refine⟨_,run_beginRound ut y4,?_⟩;have xk:=wg.turn (.loop {r with state:=.busy}) m3 y3 (fun _ _ _ h=>by cases h);show Code.wpIn (cL (some q.tot)) 0 P bd _ _ _;refine wpIn_mono (h2.2 (pds (pL π q.tot (some (.loop {r with state:=.busy}))) []) (some q.tot) φ1 _ _ trivial e2 (xk.ds [])) ?_;rintro e a2 w2 ⟨φ2,f',H'',d1,d2,d3,d4,rfl,rfl,rfl⟩;have jp:=d3.unds;have fv:H''.w0.heap.size<=q.tot:=by rw[d4];exact m3
 have bm:(pL π q.tot (some (.loop {r with state:=.busy}))).pin q.tot=some (.loop {r with state:=.busy}):=if_pos rfl;have fm:=(@Rel.pin σ (pL π q.tot (some (.loop {r with state:=.busy}))) _ _ _ jp _ _ bm).1;have hR4:=jp.turn (.loop r) fv bm (fun _ _ _ h=>by cases h);have er:({r with state:=.ready,pending:=none}:Loop)=r:=by
  cases r;simp_all
 have wh:=run_endRound (P:=P) none fm;simp only[Option.isNone_none,if_true] at wh;have er2:({({r with state:=.busy}:Loop) with state:=.ready,pending:=none}:Loop)=r:=by rw[<-er]
 rw[er2] at wh;refine⟨_,_,wh,?_⟩;refine hk φ2 _ _ (e1.trans d1) (.bool true) ?_;have ot:pL (pL π q.tot (some (.loop {r with state:=.busy}))) q.tot (some (.loop r))=π:=by
  cases π with|mk d=>
  cases d with|mk pin ds=>
  unfold pL;congr 2;funext k;by_cases e:k=q.tot
  ·subst e;exact(if_pos rfl).trans y3.symm
  ·exact(if_neg e).trans (if_neg e)
 grind
end
end Go.AM
namespace Go.AM
open Go.RowKit
variable [σ:Sg]
def pcs:Code->List Code
 |.seq a b=>pcs a++pcs b
 |c=>[c]
def wpL(F:Fence)(P:PG)(Q:Exit->Act->World->Prop):List Code->Act->World->Prop
 |[]=>Q .normal
 |c::r=>c.wpIn F 0 P (Exit.then (wpL F P Q r) Q)
theorem aHk{F:Fence}{P:PG}:∀{c:Code} {r:List Code} {Q:Exit->Act->World->Prop} {a:Act} {w:World},wpL F P Q (pcs c++r) a w->c.wpIn F 0 P (Exit.then (wpL F P Q r) Q) a w
 |.seq x y,r,Q,a,w,h=>by
  simp only[pcs,QA] at h;refine wpIn_seq (wpIn_mono (aHk h) fun e a w k=>?_);cases e with
  |normal=>exact aHk (c:=y) k
  |_=>exact k
 |.skip,r,Q,a,w,h=>h
 |.region _ _ _,r,Q,a,w,h=>h
 |.cond _ _ _,r,Q,a,w,h=>h
 |.block _ _,r,Q,a,w,h=>h
 |.loop _,r,Q,a,w,h=>h
 |.rangeFunc _ _ _ _,r,Q,a,w,h=>h
 |.exit _,r,Q,a,w,h=>h
 |.scope _,r,Q,a,w,h=>h
 |.label _,r,Q,a,w,h=>h
 |.goto _,r,Q,a,w,h=>h
 |.ret,r,Q,a,w,h=>h
 |.refuse _,r,Q,a,w,h=>h
section
variable [γ:Gam]{P:PG}
def XLs(P:PG):List Code->AQ->Fr->AH->Prop
 |[],K,f,H=>K .normal f H
 |c::r,K,f,H=>XC P c (fun e f H=>(e=.normal/\XLs P r K f H)\/(e≠.normal/\K e f H)) f H
theorem XLs.says:∀{l:List Code} {K:AQ} {f:Fr} {H:AH},XLs P l K f H->∃e g K',K e g K'/\K'.w0=H.w0/\∀(π:Pins) (ro:Option Nat) φ a w,γ.ok π ro φ->FRel φ f a->Rel φ H w->∀(r:List Code) (Q:Exit->Act->World->Prop),
 (∀φ' a' w',φ <+: φ'->γ.ok π ro φ'->FRel φ' g a'->Rel φ' K' w'->Exit.then (wpL (cL ro) P Q r) Q e a' w')->wpL (cL ro) P Q (l++r) a w
 |[],K,f,H,h=>⟨.normal,f,H,h,rfl,fun π ro φ a w hg hf hR r Q k=>k φ a w (List.prefix_refl _) hg hf hR⟩
 |c::l,K,f,H,h=>by
  obtain⟨e,g,K1,hk,zj,hc⟩:=h;rcases hk with⟨rfl,hk⟩|⟨qr,hk⟩
  ·obtain⟨e2,g2,K2,q1,q2,q3⟩:=XLs.says hk;refine⟨e2,g2,K2,q1,q2.trans zj,fun π ro φ a w hg hf hR r Q k=>?_⟩;refine wpIn_mono (hc π ro φ a w hg hf hR) ?_;rintro e a' w' ⟨φ',f',H',e1,e2,e3,e4,rfl,rfl,rfl⟩;exact q3 π ro φ' a' w' (γ.mono e1 hg) e2 e3 r Q fun φ2 a2 w2 p1=>k φ2 a2 w2 (e1.trans p1)
  ·refine⟨e,g,K1,hk,zj,fun π ro φ a w hg hf hR r Q k=>?_⟩;refine wpIn_mono (hc π ro φ a w hg hf hR) ?_;rintro e' a' w' ⟨φ',f',H',e1,e2,e3,e4,rfl,rfl,rfl⟩;have:=k φ' a' w' e1 (γ.mono e1 hg) e2 e3;cases e' with
   |normal=>exact absurd rfl qr
   |_=>exact this
end
section
variable {P:PG}(E:Env P)
def RestX(x:AFn)(z:Operand)(p:Tmp)(asg bd:Code)(post:List Code)(R:Value->AH->Prop)(f1:Fr)(H1:AH):Prop:=
 ∃gi vs xi,aK f1 z=.func (.func gi) ⟨[]⟩ ⟨vs⟩/\E.fn gi=some xi/\(∃i0 o0,H1.tr.get i0=some o0)/\
  XC (γ:=aVy H1.w0.heap.size p asg bd f1 H1.nx) P xi.body (fun e f2 H2=>(e=.normal\/e=.ret)/\(∃us,bS E f2 H2 xi.results=some us)/\XLs (γ:=yZ) P post (uE E x.results R) f1 H2) (rC (.func (.yield (2*H1.nx+1)) ⟨[]⟩ ⟨[]⟩::vs) xi.ntmps) {H1 with nx:=H1.nx+1}
theorem XCall.range{g:FuncId}{x:AFn}(hg:E.fn g=some x){args:VL}{H:AH}{R:Value->AH->Prop}{pre post:List Code}{i:Nat}{z:Operand}{p:Tmp}{asg bd:Code}(hb:pcs x.body=pre++(.block i (.rangeFunc z #[p] asg bd)::post))
 (h:XLs (γ:=yZ) P pre (fun e f1 H1=>e=.normal/\RestX E x z p asg bd post R f1 H1) (rC args x.ntmps) H):XCall P g args H R:=by
 obtain⟨e1,f1,H1,⟨rfl,gi,vs,xi,hz,jq,⟨i0,o0,h0⟩,hX⟩,w1,s1⟩:=XLs.says (γ:=yZ) h;obtain⟨e2,f2,H2,⟨jr,⟨us2,bo⟩,hP⟩,w2,s2⟩:=hX;obtain⟨e3,f3,H3,⟨bp,us3,bq,br⟩,w3,s3⟩:=XLs.says (γ:=yZ) hP;refine⟨bG us3,H3,br,(w3.trans w2).trans w1,?_⟩;intro π φ args' w hv hR;obtain⟨F,hF,hbF,hn,hr,_⟩:=E.fn_ok _ _ hg;obtain⟨Fi,zq,jt,hni,cw,gq⟩:=E.fn_ok _ _ jq;obtain⟨QE,hQE⟩:∃QE:Ending->World->Prop,QE=fun e w'=>∃φ' v v' H'',φ <+: φ'/\e=.returned v'/\VR φ' v v'/\@Rel σ π φ' H'' w'/\H''.w0=H.w0/\v=bG us3/\H''=H3:=⟨_,rfl⟩
 suffices tl:Calls P g ⟨args'⟩ w QE by simp_all
 refine(callsIn_wide (n:=0)).1 (callsIn_of_wp_marks hF hbF trivial ?_);have hf:=aDb (π:=π) hv x.ntmps;rw[hn];have hR0: @Rel σ (pds π []) φ H w:=hR.ds []
 suffices tl:wpL Fence.wide P (bodyPostM Fence.wide 0 P F QE) (pcs x.body++[]) {tmps:=⟨args'⟩++Array.replicate (x.ntmps - (⟨args'⟩:Array Value).size) undef,defers:=[]} w by
  refine wpIn_mono (aHk tl) ?_;intro e a w k;cases e<;>exact k
 rw[List.append_nil,hb];refine s1 (pds π []) none φ _ w rfl hf hR0 _ _ fun φ1 a1 wa p1 _ mq wg=>?_;have om:a1.defers=[]:=mq.1;show Code.wpIn _ 0 P _ _ _ _;refine wpIn_block (wpIn_rangeFunc fun fn _=>?_)
 -- the two blocks
 have ww:= @FRel.eval σ (pds π []) _ _ _ mq z;rw[hz] at ww;obtain⟨bs,pp,me⟩:∃bs,a1.eval z=.func (.func gi) ⟨[]⟩ ⟨bs⟩/\VRs φ1 vs bs:=by
  generalize zd:a1.eval z=cc at ww;cases ww with
  |func fn hy q1 q2 q3 q4=>
   rename_i a' b';have ea:a'=[]:=List.eq_nil_of_length_eq_zero q1.symm;subst ea;exact⟨b',rfl,q2,q4⟩
 obtain⟨rec,yu⟩:∃r:Loop,r={state:=.ready,pending:=none,fn,tmps:=a1.tmps,params:= #[p],assign:=asg,body:=bd,defers:=wa.heap.size}:=⟨_,rfl⟩;have xk:=(wg.allocPin (.deferred (some []))).allocPin (.loop rec);obtain⟨D,bu⟩:∃D,wa.heap.size=D:=⟨_,rfl⟩;have nu:(wa.alloc (.deferred (some []))).heap.size=D+1:=by simp_all
 obtain⟨W1,n5⟩:∃W1,(wa.alloc (.deferred (some []))).alloc (.loop rec)=W1:=⟨_,rfl⟩;rw[nu,bu,n5] at xk;obtain⟨π2,hπ2⟩:∃π2,pL (pL (pds π []) D (some (.deferred (some [])))) (D+1) (some (.loop rec))=π2:=⟨_,rfl⟩;rw[hπ2] at xk;have pl:π2.pin (D+1)=some (.loop rec):=by rw[<-hπ2];exact if_pos rfl
 have pD:π2.pin D=some (.deferred (some [])):=by rw[<-hπ2];exact(if_neg (by omega)).trans (if_pos rfl)
 have po:∀b,b≠D->b≠D+1->π2.pin b=π.pin b:=fun b h1 h2=>by rw[<-hπ2];exact(if_neg h2).trans (if_neg h1)
 have rj:H1.w0.heap.size<=D:=by rw[<-bu];exact(@Rel.below σ (pds π []) _ _ _ wg).size
 have vg:∀b x,π.pin b=some x->b<D:=fun b x hb=>by
  have:=(@Rel.pin σ (pds π []) _ _ _ wg b x hb).1
  grind
 obtain⟨q0,di,_,_⟩:= @Rel.obj σ π2 _ _ _ xk _ _ h0;have jp:=xk.place h0 di ⟨q0.blk,q0.base,D+1,q0.sz⟩ rfl;have qe:φ1.length=H1.nx:= @Rel.len σ π2 _ _ _ xk;obtain⟨q,hq⟩:∃q:Place,⟨q0.blk,q0.base,D+1,q0.sz⟩=q:=⟨_,rfl⟩;have sj:q.tot=D+1:=by rw[<-hq]
 rw[hq] at jp;have ve:(φ1++[q])[H1.nx]?=some q:=by rw[<-qe];simp
 have qp:φ1 <+: φ1++[q]:=⟨_,rfl⟩;obtain⟨yv,lb⟩:∃yv:Value,yv=.func (.yield (D+1)) ⟨[]⟩ ⟨[]⟩:=⟨_,rfl⟩;have eg:∀args w,(callFunc gi args).run P w=.ok (.enter gi args) w:=fun args w=>by
  have rc:¬Fi.name= "runtime.NumGoroutine":=by simpa using gq
  simp[callFunc,zq,rc,jt]
 refine⟨D+1,[{target:=.collected D,args:= #[]}],W1,{target:=.fn (.func gi) ⟨bs⟩,args:= #[yv]},W1,gi,⟨yv::bs⟩,W1,?_,?_,fun _ _=>trivial,?_,fun e=>by simp[cL,Fence.wide] at e,?_⟩
 ·rw[<-n5,<-bu,yu];exact run_enterLoop_outer _ _ _ _ _
 ·simp only[resolve,pp];simp[go_sem,lb]
 ·grind [invoke]
 refine(callsIn_wide (n:=0)).2 (calls_of_wp zq jt ?_);rw[hni];have hyr:VRs (φ1++[q]) (.func (.yield (2*H1.nx+1)) ⟨[]⟩ ⟨[]⟩::vs) (yv::bs):=by
  refine VRs.cons ?_ (me.mono qp);rw[lb];refine VR.yl (a:=[]) (a':=[]) (b:=[]) (b':=[]) ?_ rfl rfl (fun _ _ _ h=>by cases h) (fun _ _ _ h=>by cases h);exact .inr ⟨by omega,q,by grind,sj.symm⟩
 have wb:(aVy H1.w0.heap.size p asg bd f1 H1.nx).ok (pds π2 []) none (φ1++[q]):=by
  refine⟨q,rec,ve,by rw[sj];omega,by rw[sj];exact pl,by rw[yu],by rw[yu],by rw[yu],by rw[yu],by rw[yu],by rw[yu];exact mq.2.1,fun t=>?_⟩;rw[yu];exact(mq.2.2 t).mono qp
 refine wp_mono (wpIn_wide.1 (s2 (pds π2 []) none (φ1++[q]) _ W1 wb (aDb (π:=π2) hyr xi.ntmps) (jp.ds []))) ?_;rintro e a2 w5 ⟨φ2,f',H',r1,r2,r3,r4,rfl,rfl,rfl⟩;have lg:=r3.unds;obtain⟨v2,_,lh⟩:= @mW σ _ E (pds π2 []) _ _ _ _ _ r2 r3 _ _ cw _ bo;have hl5:=(@Rel.pin σ π2 _ _ _ lg _ _ pl).1;have wh:=run_endLoop (P:=P) hl5 (by rw[yu];simp);have oz:H'.w0.heap.size<=D:=by rw[w2];exact rj
 have li:=lg.turn (.loop {rec with state:=.exhausted}) (by omega) pl (fun _ _ _ h=>by cases h);obtain⟨π3,hπ3⟩:∃π3,pL π2 (D+1) (some (.loop {rec with state:=.exhausted}))=π3:=⟨_,rfl⟩;rw[hπ3] at li;have p3D:π3.pin D=some (.deferred (some [])):=by rw[<-hπ3];exact(if_neg (by omega)).trans pD
 have p3l:π3.pin (D+1)=some (.loop {rec with state:=.exhausted}):=by rw[<-hπ3];exact if_pos rfl
 have p3o:∀b,b≠D->b≠D+1->π3.pin b=π.pin b:=fun b h1 h2=>by rw[<-hπ3];exact(if_neg h2).trans (po b h1 h2)
 have fin:rangePost (cL none) 0 P (D+1) (Exit.inBlock i (Exit.then (wpL (cL none) P (bodyPostM Fence.wide 0 P F QE) post) (bodyPostM Fence.wide 0 P F QE))) {a1 with defers:=[{target:=.collected D,args:= #[]}]++a1.defers} (.returned v2) w5:=by
  have epe:rec.pending=none:=by rw[yu]
  refine⟨none,w5.putObj (D+1) (.loop {rec with state:=.exhausted}),wh.trans (by rw[epe]),?_⟩;show wpL (cL none) P _ post _ _;have hf6: @FRel σ (pds π3 [{target:=.collected D,args:= #[]}]) φ2 f1 {a1 with defers:=[{target:=.collected D,args:= #[]}]++a1.defers}:=by
   refine⟨?_,mq.2.1,fun t=>(mq.2.2 t).mono (qp.trans r1)⟩;show [{target:=.collected D,args:= #[]}]++a1.defers=[{target:=.collected D,args:= #[]}];rw[om];rfl
  have:=s3 (pds π3 [{target:=.collected D,args:= #[]}]) none φ2 _ _ rfl hf6 (li.ds _) [] (bodyPostM Fence.wide 0 P F QE) ?_
  ·simp_all
  intro φ3 a3 w7 t1 _ t2 t3;have lj:=t3.unds;have hD7:=(@Rel.pin σ π3 _ _ _ lj _ _ p3D).1;have lk:=lj.turn (.deferred none) (by rw[w3];exact oz) p3D (fun _ _ _ h=>by cases h);have ht8: @FRel σ (pds (pL π3 D (some (.deferred none))) [{target:=.collected D,args:= #[]}]) φ3 f3 a3:=t2;obtain⟨v3,hv3,hr3⟩:= @mW σ _ E (pds (pL π3 D (some (.deferred none))) [{target:=.collected D,args:= #[]}]) _ _ _ _ _ ht8 (lk.ds _) _ _ hr _ bq;have leave:LeavesInM Fence.wide 0 P F a3.tmps QE a3.defers .returning w7:=by
   rw[show a3.defers=[{target:=.collected D,args:= #[]}] from t2.1];refine⟨by simp,.inl ⟨D,_,rfl,run_takeDeferred hD7,v3,hr3,?_⟩⟩;rw[hQE];refine⟨φ3,_,v3,H3,p1.trans (qp.trans (r1.trans t1)),rfl,hv3,?_,(w3.trans w2).trans w1,rfl,rfl⟩;refine Rel.forget lk (fun b x hb=>?_) (fun b x hb=>?_)
   ·have:=vg b x hb;exact(if_neg (by omega)).trans ((p3o b (by omega) (by omega)).trans hb)
   ·replace hb:(if b=D then some (.deferred none) else π3.pin b)=some x:=hb
    grind
  rcases bp with rfl|rfl
  ·exact leave
  ·exact leave
 rcases jr with rfl|rfl
 ·exact⟨r2.1,v2,lh,fin⟩
 ·exact⟨r2.1,v2,lh,fin⟩
end
end Go.AM
