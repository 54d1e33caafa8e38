/-
  An abstract machine that runs a program of the given form, and its soundness, part 14.
-/
import Derived.Test.YtlikijmihbgloaaGreatDoorAb13
set_option linter.unusedVariables false
set_option linter.unusedSimpArgs false
set_option linter.unusedSectionVars false
noncomputable section
namespace Go.AM
open Go.RowKit
variable [σ:Sg]
def pcs:Code->List Code
 |.seq a b=>pcs a++pcs b
 |c=>[c]
def wpL(F:Fence)(P:PG)(Q:Exit->Act->World->Prop):List Code->Act->World->Prop
 |[]=>Q .normal
 |c::r=>c.wpIn F 0 P (Exit.then (wpL F P Q r) Q)
theorem bAe{F:Fence}{P:PG}:∀{c:Code} {r:List Code} {Q:Exit->Act->World->Prop} {a:Act} {w:World},wpL F P Q (pcs c++r) a w->c.wpIn F 0 P (Exit.then (wpL F P Q r) Q) a w
 |.seq x y,r,Q,a,w,h=>by
  simp only[pcs,QA] at h;refine wpIn_seq (wpIn_mono (bAe h) fun e a w k=>?_);cases e with
  |normal=>exact bAe (c:=y) k
  |_=>exact k
 |.skip,r,Q,a,w,h=>h
 |.region _ _ _,r,Q,a,w,h=>h
 |.cond _ _ _,r,Q,a,w,h=>h
 |.block _ _,r,Q,a,w,h=>h
 |.loop _,r,Q,a,w,h=>h
 |.rangeFunc _ _ _ _,r,Q,a,w,h=>h
 |.exit _,r,Q,a,w,h=>h
 |.scope _,r,Q,a,w,h=>h
 |.label _,r,Q,a,w,h=>h
 |.goto _,r,Q,a,w,h=>h
 |.ret,r,Q,a,w,h=>h
 |.refuse _,r,Q,a,w,h=>h
section
variable [γ:Gam]{P:PG}
def XLs(P:PG):List Code->AQ->Fr->AH->Prop
 |[],K,f,H=>K .normal f H
 |c::r,K,f,H=>XC P c (fun e f H=>(e=.normal/\XLs P r K f H)\/(e≠.normal/\K e f H)) f H
theorem XLs.says:∀{l:List Code} {K:AQ} {f:Fr} {H:AH},XLs P l K f H->∃e g K',K e g K'/\K'.w0=H.w0/\∀(π:Pins) (ro:Option Nat) φ a w,γ.ok π ro φ->FRel φ f a->Rel φ H w->∀(r:List Code) (Q:Exit->Act->World->Prop),
 (∀φ' a' w',φ <+: φ'->γ.ok π ro φ'->FRel φ' g a'->Rel φ' K' w'->Exit.then (wpL (cM ro) P Q r) Q e a' w')->wpL (cM ro) P Q (l++r) a w
 |[],K,f,H,h=>⟨.normal,f,H,h,rfl,fun π ro φ a w hg hf hR r Q k=>k φ a w (List.prefix_refl _) hg hf hR⟩
 |c::l,K,f,H,h=>by
  obtain⟨e,g,K1,hk,zo,hc⟩:=h;rcases hk with⟨rfl,hk⟩|⟨qn,hk⟩
  ·obtain⟨e2,g2,K2,q1,q2,q3⟩:=XLs.says hk;refine⟨e2,g2,K2,q1,q2.trans zo,fun π ro φ a w hg hf hR r Q k=>?_⟩;refine wpIn_mono (hc π ro φ a w hg hf hR) ?_;rintro e a' w' ⟨φ',f',H',e1,e2,e3,e4,rfl,rfl,rfl⟩;exact q3 π ro φ' a' w' (γ.mono e1 hg) e2 e3 r Q fun φ2 a2 w2 p1=>k φ2 a2 w2 (e1.trans p1)
  ·refine⟨e,g,K1,hk,zo,fun π ro φ a w hg hf hR r Q k=>?_⟩;refine wpIn_mono (hc π ro φ a w hg hf hR) ?_;rintro e' a' w' ⟨φ',f',H',e1,e2,e3,e4,rfl,rfl,rfl⟩;have:=k φ' a' w' e1 (γ.mono e1 hg) e2 e3;cases e' with
   |normal=>exact absurd rfl qn
   |_=>exact this
end
section
variable {P:PG}(E:Env P)
def RestX(x:AFn)(z:Operand)(p:Tmp)(asg bd:Code)(post:List Code)(R:Value->AH->Prop)(f1:Fr)(H1:AH):Prop:=
 ∃gi vs xi,aN f1 z=.func (.func gi) ⟨[]⟩ ⟨vs⟩/\E.fn gi=some xi/\(∃i0 o0,H1.tr.get i0=some o0)/\
  XC (γ:=bGi H1.w0.heap.size p asg bd f1 H1.nx) P xi.body (fun e f2 H2=>(e=.normal\/e=.ret)/\(∃us,bP E f2 H2 xi.results=some us)/\XLs (γ:=bGh) P post (vL E x.results R) f1 H2) (sI (.func (.yield (2*H1.nx+1)) ⟨[]⟩ ⟨[]⟩::vs) xi.ntmps) {H1 with nx:=H1.nx+1}
theorem XCall.range{g:FuncId}{x:AFn}(hg:E.fn g=some x){args:VL}{H:AH}{R:Value->AH->Prop}{pre post:List Code}{i:Nat}{z:Operand}{p:Tmp}{asg bd:Code}(hb:pcs x.body=pre++(.block i (.rangeFunc z #[p] asg bd)::post))
 (h:XLs (γ:=bGh) P pre (fun e f1 H1=>e=.normal/\RestX E x z p asg bd post R f1 H1) (sI args x.ntmps) H):XCall P g args H R:=by
 obtain⟨e1,f1,H1,⟨rfl,gi,vs,xi,hz,gz,⟨i0,o0,h0⟩,hX⟩,w1,s1⟩:=XLs.says (γ:=bGh) h;obtain⟨e2,f2,H2,⟨he2,⟨us2,ad⟩,hP⟩,w2,s2⟩:=hX;obtain⟨e3,f3,H3,⟨he3,us3,ae,ew⟩,w3,s3⟩:=XLs.says (γ:=bGh) hP;refine⟨bK us3,H3,ew,(w3.trans w2).trans w1,?_⟩;intro π φ args' w hv hR;obtain⟨F,hF,hbF,hn,hr,_⟩:=E.fn_ok _ _ hg;obtain⟨Fi,z4,g5,hni,bq,fu⟩:=E.fn_ok _ _ gz;obtain⟨QE,lb⟩:∃QE:Ending->World->Prop,QE=fun e w'=>∃φ' v v' H'',φ <+: φ'/\e=.returned v'/\VR φ' v v'/\@Rel σ π φ' H'' w'/\H''.w0=H.w0/\v=bK us3/\H''=H3:=⟨_,rfl⟩
 suffices yz:Calls P g ⟨args'⟩ w QE by rw[lb] at yz;exact yz
 refine(callsIn_wide (n:=0)).1 (callsIn_of_wp_marks hF hbF trivial ?_);have hf:=aCy (π:=π) hv x.ntmps;rw[hn];have hR0: @Rel σ (pds π []) φ H w:=hR.ds []
 suffices yz:wpL Fence.wide P (bodyPostM Fence.wide 0 P F QE) (pcs x.body++[]) {tmps:=⟨args'⟩++Array.replicate (x.ntmps - (⟨args'⟩:Array Value).size) undef,defers:=[]} w by
  refine wpIn_mono (bAe yz) ?_;intro e a w k;cases e<;>exact k
 rw[List.append_nil,hb];refine s1 (pds π []) none φ _ w rfl hf hR0 _ _ fun φ1 a1 wa p1 _ ko vn=>?_;have ml:a1.defers=[]:=ko.1;show Code.wpIn _ 0 P _ _ _ _;refine wpIn_block (wpIn_rangeFunc fun fn _=>?_)
 -- the two blocks
 have vo:= @FRel.eval σ (pds π []) _ _ _ ko z;rw[hz] at vo;obtain⟨bs,oy,o8⟩:∃bs,a1.eval z=.func (.func gi) ⟨[]⟩ ⟨bs⟩/\VRs φ1 vs bs:=by
  generalize zj:a1.eval z=cc at vo;cases vo with
  |func fn hy q1 q2 q3 q4=>
   rename_i a' b';have ea:a'=[]:=List.eq_nil_of_length_eq_zero q1.symm;subst ea;exact⟨b',rfl,q2,q4⟩
 obtain⟨rec,xf⟩:∃r:Loop,r={state:=.ready,pending:=none,fn,tmps:=a1.tmps,params:= #[p],assign:=asg,body:=bd,defers:=wa.heap.size}:=⟨_,rfl⟩;have x6:=(vn.allocPin (.deferred (some []))).allocPin (.loop rec);obtain⟨D,g7⟩:∃D,wa.heap.size=D:=⟨_,rfl⟩;have nw:(wa.alloc (.deferred (some []))).heap.size=D+1:=by rw[World.size_alloc,g7]
 obtain⟨W1,lg⟩:∃W1,(wa.alloc (.deferred (some []))).alloc (.loop rec)=W1:=⟨_,rfl⟩;rw[nw,g7,lg] at x6;obtain⟨π2,hπ2⟩:∃π2,bGg (bGg (pds π []) D (some (.deferred (some [])))) (D+1) (some (.loop rec))=π2:=⟨_,rfl⟩;rw[hπ2] at x6;have pl:π2.pin (D+1)=some (.loop rec):=by rw[<-hπ2];exact if_pos rfl
 have pD:π2.pin D=some (.deferred (some [])):=by rw[<-hπ2];exact(if_neg (by omega)).trans (if_pos rfl)
 have po:∀b,b≠D->b≠D+1->π2.pin b=π.pin b:=fun b h1 h2=>by rw[<-hπ2];exact(if_neg h2).trans (if_neg h1)
 have pj:H1.w0.heap.size<=D:=by rw[<-g7];exact(@Rel.below σ (pds π []) _ _ _ vn).size
 have ub:∀b x,π.pin b=some x->b<D:=fun b x hb=>by
  have:=(@Rel.pin σ (pds π []) _ _ _ vn b x hb).1;rw[<-g7];exact(Array.getElem?_eq_some_iff.1 this).1
 obtain⟨q0,cd,_,_⟩:= @Rel.obj σ π2 _ _ _ x6 _ _ h0;have gy:=x6.place h0 cd ⟨q0.blk,q0.base,D+1,q0.sz⟩ rfl;have qe:φ1.length=H1.nx:= @Rel.len σ π2 _ _ _ x6;obtain⟨q,hq⟩:∃q:Place,⟨q0.blk,q0.base,D+1,q0.sz⟩=q:=⟨_,rfl⟩;have rk:q.tot=D+1:=by rw[<-hq]
 rw[hq] at gy;have vx:(φ1++[q])[H1.nx]?=some q:=by rw[<-qe];simp
 have qo:φ1 <+: φ1++[q]:=⟨_,rfl⟩;obtain⟨yv,lh⟩:∃yv:Value,yv=.func (.yield (D+1)) ⟨[]⟩ ⟨[]⟩:=⟨_,rfl⟩;have eg:∀args w,(callFunc gi args).run P w=.ok (.enter gi args) w:=fun args w=>by
  have ra:¬Fi.name= "runtime.NumGoroutine":=by simpa using fu
  simp[callFunc,z4,ra,g5]
 refine⟨D+1,[{target:=.collected D,args:= #[]}],W1,{target:=.fn (.func gi) ⟨bs⟩,args:= #[yv]},W1,gi,⟨yv::bs⟩,W1,?_,?_,fun _ _=>trivial,?_,fun e=>by simp[cM,Fence.wide] at e,?_⟩
 ·rw[<-lg,<-g7,xf];exact run_enterLoop_outer _ _ _ _ _
 ·simp only[resolve,oy];simp[go_sem,lh]
 ·simp[invoke,go_sem,eg]
 refine(callsIn_wide (n:=0)).2 (calls_of_wp z4 g5 ?_);rw[hni];have hyr:VRs (φ1++[q]) (.func (.yield (2*H1.nx+1)) ⟨[]⟩ ⟨[]⟩::vs) (yv::bs):=by
  refine VRs.cons ?_ (o8.mono qo);rw[lh];refine VR.yl (a:=[]) (a':=[]) (b:=[]) (b':=[]) ?_ rfl rfl (fun _ _ _ h=>by cases h) (fun _ _ _ h=>by cases h);exact .inr ⟨by omega,q,by rw[show(2*H1.nx+1) / 2=H1.nx by omega];exact vx,rk.symm⟩
 have vj:(bGi H1.w0.heap.size p asg bd f1 H1.nx).ok (pds π2 []) none (φ1++[q]):=by
  refine⟨q,rec,vx,by rw[rk];omega,by rw[rk];exact pl,by rw[xf],by rw[xf],by rw[xf],by rw[xf],by rw[xf],by rw[xf];exact ko.2.1,fun t=>?_⟩;rw[xf];exact(ko.2.2 t).mono qo
 refine wp_mono (wpIn_wide.1 (s2 (pds π2 []) none (φ1++[q]) _ W1 vj (aCy (π:=π2) hyr xi.ntmps) (gy.ds []))) ?_;rintro e a2 w5 ⟨φ2,f',H',r1,r2,r3,r4,rfl,rfl,rfl⟩;have li:=r3.unds;obtain⟨v2,_,lj⟩:= @nT σ _ E (pds π2 []) _ _ _ _ _ r2 r3 _ _ bq _ ad;have hl5:=(@Rel.pin σ π2 _ _ _ li _ _ pl).1;have xu:=run_endLoop (P:=P) hl5 (by rw[xf];simp);have my:H'.w0.heap.size<=D:=by rw[w2];exact pj
 have lk:=li.turn (.loop {rec with state:=.exhausted}) (by omega) pl (fun _ _ _ h=>by cases h);obtain⟨π3,hπ3⟩:∃π3,bGg π2 (D+1) (some (.loop {rec with state:=.exhausted}))=π3:=⟨_,rfl⟩;rw[hπ3] at lk;have p3D:π3.pin D=some (.deferred (some [])):=by rw[<-hπ3];exact(if_neg (by omega)).trans pD
 have p3l:π3.pin (D+1)=some (.loop {rec with state:=.exhausted}):=by rw[<-hπ3];exact if_pos rfl
 have p3o:∀b,b≠D->b≠D+1->π3.pin b=π.pin b:=fun b h1 h2=>by rw[<-hπ3];exact(if_neg h2).trans (po b h1 h2)
 have fin:rangePost (cM none) 0 P (D+1) (Exit.inBlock i (Exit.then (wpL (cM none) P (bodyPostM Fence.wide 0 P F QE) post) (bodyPostM Fence.wide 0 P F QE))) {a1 with defers:=[{target:=.collected D,args:= #[]}]++a1.defers} (.returned v2) w5:=by
  have epe:rec.pending=none:=by rw[xf]
  refine⟨none,w5.putObj (D+1) (.loop {rec with state:=.exhausted}),xu.trans (by rw[epe]),?_⟩;show wpL (cM none) P _ post _ _;have hf6: @FRel σ (pds π3 [{target:=.collected D,args:= #[]}]) φ2 f1 {a1 with defers:=[{target:=.collected D,args:= #[]}]++a1.defers}:=by
   refine⟨?_,ko.2.1,fun t=>(ko.2.2 t).mono (qo.trans r1)⟩;show [{target:=.collected D,args:= #[]}]++a1.defers=[{target:=.collected D,args:= #[]}];rw[ml];rfl
  have:=s3 (pds π3 [{target:=.collected D,args:= #[]}]) none φ2 _ _ rfl hf6 (lk.ds _) [] (bodyPostM Fence.wide 0 P F QE) ?_
  ·rw[List.append_nil] at this;exact this
  intro φ3 a3 w7 t1 _ t2 t3;have lm:=t3.unds;have hD7:=(@Rel.pin σ π3 _ _ _ lm _ _ p3D).1;have lp:=lm.turn (.deferred none) (by rw[w3];exact my) p3D (fun _ _ _ h=>by cases h);have ht8: @FRel σ (pds (bGg π3 D (some (.deferred none))) [{target:=.collected D,args:= #[]}]) φ3 f3 a3:=t2;obtain⟨v3,hv3,hr3⟩:= @nT σ _ E (pds (bGg π3 D (some (.deferred none))) [{target:=.collected D,args:= #[]}]) _ _ _ _ _ ht8 (lp.ds _) _ _ hr _ ae;have leave:LeavesInM Fence.wide 0 P F a3.tmps QE a3.defers .returning w7:=by
   rw[show a3.defers=[{target:=.collected D,args:= #[]}] from t2.1];refine⟨by simp,.inl ⟨D,_,rfl,run_takeDeferred hD7,v3,hr3,?_⟩⟩;rw[lb];refine⟨φ3,_,v3,H3,p1.trans (qo.trans (r1.trans t1)),rfl,hv3,?_,(w3.trans w2).trans w1,rfl,rfl⟩;refine Rel.forget lp (fun b x hb=>?_) (fun b x hb=>?_)
   ·have:=ub b x hb;exact(if_neg (by omega)).trans ((p3o b (by omega) (by omega)).trans hb)
   ·replace hb:(if b=D then some (.deferred none) else π3.pin b)=some x:=hb
    by_cases e:b=D
    ·rw[if_pos e] at hb;cases hb;exact .inr fun _ _ _ h=>by cases h
    ·rw[if_neg e] at hb;by_cases e2:b=D+1
     ·rw[e2,p3l] at hb;cases hb;exact .inr fun _ _ _ h=>by cases h
     ·rw[p3o b e e2] at hb;exact .inl hb
  rcases he3 with rfl|rfl
  ·exact leave
  ·exact leave
 rcases he2 with rfl|rfl
 ·exact⟨r2.1,v2,lj,fin⟩
 ·exact⟨r2.1,v2,lj,fin⟩
end
end Go.AM
namespace Go.AM
open Go.RowKit
variable [σ:Sg]
section
variable {P:PG}(E:Env P)(T:TTb)(C:CTb)(tb:TBs)
def bEr(n:Nat)(AN:List (Nat×Ann))(DR:DRs)(fx:NL)(l:List Code):WC:=List.rec (motive:=fun _=>WC) (fun fs hp nx K=>K .normal fs hp nx) (fun c _ ih=>aEz (wpC E T C tb n AN DR fx c) ih) l
theorem bDj{n:Nat}{AN:List (Nat×Ann)}{DR:DRs}{fx:NL}{c:Code}{l:List Code}:bEr E T C tb n AN DR fx (c::l)=aEz (wpC E T C tb n AN DR fx c) (bEr E T C tb n AN DR fx l):=rfl
def bBf:NL->List SV->FR
 |[],_=>[]
 |_::_,[]=>[]
 |k::r,c::q=>(k,c)::bBf r q
def bAo:NL->List Value->List (Nat×Value)
 |[],_=>[]
 |_::_,[]=>[]
 |k::r,c::q=>(k,c)::bAo r q
def bBq:FR->List SV
 |[]=>[]
 |(_,v)::r=>v::bBq r
def wYl(n:Nat)(AN:List (Nat×Ann))(DR:DRs)(p:Nat)(asg bd:Code)(ks:NL)(us:VL)(N idv:Nat):Nat->IW:=fun M fe ss hp nx K=>Ag (M=N) (match ss with
 |[s]=>(match hget idv hp with
  |some (.oth (.vals us' cs))=>Ag (us'=us) (cond (Nat.ble (p+1) n) (xD (fe++fxW [] hp) fun fx=>aEz (wpC E T C tb n AN DR fx asg) (wpC E T C tb n AN DR fx bd) ((p,s)::bBf ks cs) hp nx fun e _ hp nx=>(match e with
   |.normal=>K fx (.bool true) hp nx
   |_=>(Bad 201))) (Bad 202))
  |_=>(Bad 203))
 |_=>(Bad 204))
def cYl(W:Nat->IW):Ctr:=⟨[],[],fun _=>True,fun _ _=>True,0,some (.yld W)⟩
def bGe(n:Nat)(AN:List (Nat×Ann))(DR:DRs)(rs:List ResultVar)(post:List Code)(ks:NL)(us:VL)(idv:Nat)(rsi:List ResultVar)(fx:NL)(K:NL->SV->HP->Nat->Prop)(fs:FR)(hp:HP)(nx:Nat):Prop:=
 uD T fs hp rsi fun _=>(match hget idv hp with
  |some (.oth (.vals us' cs))=>Ag (us'=us) (mX idv hp fun hp=>bEr E T C tb n AN DR fx post (bBf ks cs) hp nx (bCa T rs fx K))
  |_=>(Bad 221))
def wRF(n:Nat)(AN:List (Nat×Ann))(DR:DRs)(rs:List ResultVar)(z:Operand)(p:Nat)(asg bd:Code)(post:List Code)(ks:NL)(gi ni:Nat)(ANi:List (Nat×Ann))(DRi:DRs)(rsi:List ResultVar)(bi:Code)(fx:NL)(K:NL->SV->HP->Nat->Prop)(fs:FR)(hp:HP)(nx:Nat):Prop:=
 wop fs z fun v=>(match v with
  |.fn gj caps=>cond (Nat.beq gj gi) (cond (Nat.ble (iJ caps+1) ni) (cond (hasBox hp) (pkF fs ks fun f0=>∀(us:VL) (N:Nat),
   qW (nx+1) fun nx1=>wpC E T ((1000000,cYl (wYl E T C tb n AN DR p asg bd ks us N nx))::C) tb ni ANi DRi fx bi (ent (.yl N::caps) 0 []) ((nx,.oth (.vals us (bBq f0)))::hp) nx1 fun e fs2 zk nx2=>(match e with
    |.normal=>bGe E T C tb n AN DR rs post ks us nx rsi fx K fs2 zk nx2
    |.ret=>bGe E T C tb n AN DR rs post ks us nx rsi fx K fs2 zk nx2
    |_=>(Bad 241))) (Bad 242)) (Bad 243)) (Bad 244)
  |_=>(Bad 245))
where hasBox:HP->Bool
 |[]=>false
 |(_,.box _ _)::_=>true
 |_::r=>hasBox r
def bDr(n:Nat)(AN:List (Nat×Ann))(DR:DRs)(rs:List ResultVar)(pre:List Code)(z:Operand)(p:Nat)(asg bd:Code)(post:List Code)(ks:NL)(gi ni:Nat)(ANi:List (Nat×Ann))(DRi:DRs)(rsi:List ResultVar)(bi:Code):IW:=fun fe ss hp nx K=>
 cond (Nat.ble (iJ ss) n) (xD (fe++fxW ss hp) fun fx=>bEr E T C tb n AN DR fx pre (ent ss 0 []) hp nx fun e fs hp nx=>(match e with
  |.normal=>wRF E T C tb n AN DR rs z p asg bd post ks gi ni ANi DRi rsi bi fx K fs hp nx
  |_=>(Bad 261))) (Bad 262)
end
section
variable {P:PG}{E:Env P}{T:TTb}{C:CTb}{tb:TBs}{n:Nat}{AN:List (Nat×Ann)}{DR:DRs}{fx:NL}{S He:AH}{A0 Ae:NQ}{L0:OL}{ρe:RM}
theorem sZ [γ:Gam](hm:P.follows .mixedOrders=true)(hT:dM E T)(hC:AllC E tb C)(zp:TbG S.w0.toWorld tb):∀(c:List Code) {fs:FR} {hp:HP} {nx:Nat} {k:Exit->FR->HP->Nat->Prop} {K:AQ} {ρ:RM} {PS:PSs} {A:NQ} {H:AH} {l:LV} {t:Tr Value},
 bEr E T C tb n AN DR fx c fs hp nx k->KOK E n fx S A0 L0 ρe Ae He K k->Den E ρ nx fs hp PS A H l->FxR fx ρe ρ->Gr Ae He A H->∀H',HS S H A0 A (flt PS++L0) H'->XLs P c K (fr n t l) H'
 |[],fs,hp,nx,k,K,ρ,PS,A,H,l,t,h,hK,hD,hx,hg,H',hH=>hK _ _ _ _ h _ _ _ _ _ _ hD hx hg H' hH
 |c::r,fs,hp,nx,k,K,ρ,PS,A,H,l,t,h,hK,hD,hx,hg,H',hH=>by
  rw[bDj] at h;unfold aEz at h;refine gN hm hT hC zp c h (K:=fun e f H=>(e=.normal/\XLs P r K f H)\/(e≠.normal/\K e f H)) ?_ hD hx hg H' hH;intro e fs' qc nx' q ρ' PS' A' H'' l' t' qt zi ze H3 oc;cases e with
  |normal=>exact .inl ⟨rfl,sZ hm hT hC zp r q hK qt zi ze H3 oc⟩
  |exit i=>exact .inr ⟨by simp,hK _ _ _ _ q _ _ _ _ _ _ qt zi ze H3 oc⟩
  |goto i=>exact .inr ⟨by simp,hK _ _ _ _ q _ _ _ _ _ _ qt zi ze H3 oc⟩
  |ret=>exact .inr ⟨by simp,hK _ _ _ _ q _ _ _ _ _ _ qt zi ze H3 oc⟩
  |panic i=>exact .inr ⟨by simp,hK _ _ _ _ q _ _ _ _ _ _ qt zi ze H3 oc⟩
  |outgrown=>exact .inr ⟨by simp,hK _ _ _ _ q _ _ _ _ _ _ qt zi ze H3 oc⟩
theorem aAk{ρ:RM}{A:NQ}{H:AH}:∀{ks:NL} {cs:SL} {us:VL},Reps ρ A H cs us->RepF ρ A H (bBf ks cs) (bAo ks us)
 |[],_,_,_=>rfl
 |_::_,[],[],_=>rfl
 |k::r,c::q,u::v,h=>by simp only[Reps] at h;exact⟨u,bAo r v,rfl,h.1,aAk h.2⟩
 |_::_,[],_::_,h=>by simp only[Reps] at h
 |_::_,_::_,[],h=>by simp only[Reps] at h
theorem pkFK{ρ:RM}{A:NQ}{H:AH}{fs:FR}{l:LV}(hF:RepF ρ A H fs l):∀{ks:NL} {K:FR->Prop},pkF fs ks K->∃f0 us,K f0/\Reps ρ A H (bBq f0) us/\Picks l (bAo ks us)
 |[],K,h=>⟨[],[],h,by simp only[bBq,Reps],.nil⟩
 |k::r,K,h=>by
  simp only[aXh] at h;split at h
  ·rename_i v hv;obtain⟨u,h1,h2⟩:=hF.get hv;obtain⟨f0,us,k1,k2,k3⟩:=pkFK hF h;exact⟨_,u::us,k1,by simp only[bBq,Reps];exact⟨h2,k2⟩,.cons h1 k3⟩
  ·exact h.elim
theorem mK{n p:Nat}{t:Tr Value}{l:LV}{v:Value}{k:Nat}:bV (fr n t ((p,v)::l)) k=cond (Nat.beq p k) v (bV (fr n t l) k):=by
 rw[mL,mL];simp only[AM.look];cases Nat.beq p k<;>rfl
theorem yw_of(hm:P.follows .mixedOrders=true)(hT:dM E T)(hC:AllC E tb C){p:Nat}{asg bd:Code}{ks:NL}{us:VL}{N n0 idv:Nat}{t1:Tr Value}{l1:LV}(ya:Picks l1 (bAo ks us)):bGd (γ:=bGi n0 p asg bd (fr n t1 l1) N) E tb (wYl E T C tb n AN DR p asg bd ks us N idv):=by
 intro fe S H0 A0 A L0 ρ PS ss vs hp nx M K zp zy zw hr hh h H hH;unfold wYl at h;obtain⟨hMN,h⟩:=h;subst hMN;split at h
 ·rename_i s;split at h
  ·rename_i us' cs hg;obtain⟨ah,h⟩:=h;subst ah;cases en:Nat.ble (p+1) n with
   |false=>rw[en] at h;exact h.elim
   |true=>
    rw[en,QT] at h;have h:=lI h;obtain⟨v,rfl,hv⟩:∃v,vs=[v]/\Rep ρ A H0 s v:=by
     cases vs with
     |nil=>simp only[Reps] at hr
     |cons v r=>
      cases r with
      |nil=>simp only[Reps] at hr;exact⟨v,rfl,hr.1⟩
      |cons _ _=>simp only[Reps] at hr;exact hr.2.elim
    obtain⟨La,X,Y,qs,⟨x,c1,c2,c3⟩,_⟩:=hh.get hg;unfold aEz at h
    have key:=gN (γ:=allG) (S:=S) (A0:=A0) (L0:=L0) (ρe:=ρ) (Ae:=A) (He:=H0) (ρ:=ρ) (PS:=PS) (A:=A) (H:=H0) (l:=(p,v)::bAo ks us') (t:=(fr n t1 l1).tr)
     (K:=fun e g K1=>e=.normal/\XC P bd (fun e2 g2 K2=>e2=.normal/\∃H1 A1 ρ' PS' fx s qc nx',Gr A H0 A1 H1/\HS S H1 A0 A1 (flt PS'++L0) K2/\K fx s qc nx'/\FxR fx ρ ρ'/\(∀i,nx'<=i->ρ' i=none)/\(∀i v,ρ' i=some v->v.oneCell'=true)/\RepH E ρ' A1 H1 qc PS'/\Rep ρ' A1 H1 s (.bool true)) g K1) hm hT hC ⟨zp.1,fun e=>by cases e⟩ asg h ?_ ⟨zy,zw,⟨v,_,rfl,hv,aAk c3⟩,hh⟩ (fun i _ v hv=>hv) (Gr.refl _ _) H hH
    ·obtain⟨e1,g1,K1,⟨rfl,hb⟩,s1⟩:=key;obtain⟨e2,g2,K2,⟨rfl,g9⟩,s2⟩:=hb;refine⟨.bool true,K2,g9,s2.1.trans s1.1,fun o c z f ho hc hz qh=>?_⟩;obtain⟨x,hx1,sw⟩:∃x,c.args.toList=[x]/\aN f x=v:=by
      cases e:c.args.toList with
      |nil=>rw[e] at qh;simp at qh
      |cons x r=>
       rw[e] at qh;cases r with
       |nil=>exact⟨x,rfl,by simpa using qh⟩
       |cons _ _=>simp at qh
     have zo:H.w0=S.w0:=hH.kept.w0;have s1':pM (γ:=allG) P asg .normal g1 K1 (fr n t1 ((p,v)::l1)) H:=by
      refine⟨s1.1,ACode.congr (γ:=allG) (by rw[aDi,aDi]) (fun k=>?_) s1.2⟩;rw[mK,mK];cases Nat.beq p k with
      |true=>rfl
      |false=>exact ya.frame n t1 k
     exact AYield.round ho hc hz hx1 sw (nV (QL en) t1 l1 v) (by rw[zo];exact zp.2 rfl) s1' s2
    ·intro e fs' qc nx' q ρ' PS' A' H' l' t' qt zi ze H3 oc;cases e with
     |normal=>
      refine⟨rfl,?_⟩;refine gN (γ:=allG) (S:=S) (A0:=A0) (L0:=L0) (ρe:=ρ) (Ae:=A) (He:=H0) hm hT hC ⟨zp.1,fun e=>by cases e⟩ bd q ?_ qt zi ze H3 oc;intro e fs2 zk nx2 q2 ρ2 PS2 A2 H2 l2 t2 xe sw vj H4 ba;cases e with
      |normal=>exact⟨rfl,H2,A2,ρ2,PS2,_,_,zk,nx2,vj,ba,q2,sw,xe.no,xe.one,xe.hp,by simp only[Rep]⟩
      |exit i=>exact q2.elim
      |goto i=>exact q2.elim
      |ret=>exact q2.elim
      |panic i=>exact q2.elim
      |outgrown=>exact q2.elim
     |exit i=>exact q.elim
     |goto i=>exact q.elim
     |ret=>exact q.elim
     |panic i=>exact q.elim
     |outgrown=>exact q.elim
  ·exact h.elim
 ·exact h.elim
theorem kV{ρ:RM}{A:NQ}{H H':AH}:∀{hp:HP} {PS:PSs},wRF.hasBox hp=true->RepH E ρ A H hp PS->(∀p∈flt PS,H'.tr.get p.1=some p.2)->∃i0 o0,H'.tr.get i0=some o0
 |[],PS,h,_,_=>by cases h
 |(i,.box t cs)::r,PS,_,⟨La,PS',h1,⟨N,vs,e1,e2,e3⟩,h3⟩,hk=>by
  subst h1;subst e2;exact⟨_,_,hk _ (List.mem_append_left _ (List.mem_cons_self ..))⟩
 |(i,.row b ks l)::r,PS,h,⟨La,PS',h1,h2,h3⟩,hk=>by
  subst h1;exact kV (hp:=r) h h3 fun p hp=>hk p (List.mem_append_right _ hp)
 |(i,.oth o)::r,PS,h,⟨La,PS',h1,h2,h3⟩,hk=>by
  subst h1;exact kV (hp:=r) h h3 fun p hp=>hk p (List.mem_append_right _ hp)
theorem bGf(hm:P.follows .mixedOrders=true)(hT:dM E T)(hC:AllC E tb C){g:FuncId}{rs:List ResultVar}{body:Code}(hg:E.fn g=some ⟨n,rs,body⟩){pre post:List Code}{c0:Code}{i:Nat}{z:Operand}{p:Nat}{asg bd:Code}(hb:pcs body=pre++(.block i (.rangeFunc z #[p] asg bd)::c0::post))
 {gi ni:Nat}{rsi:List ResultVar}{bi:Code}(gz:E.fn gi=some ⟨ni,rsi,bi⟩){ks:NL}{ANi:List (Nat×Ann)}{DRi:DRs}:fC E tb g (bDr E T C tb n AN DR rs pre z p asg bd (c0::post) ks gi ni ANi DRi rsi bi):=by
 intro fe S H0 A0 A L0 ρ PS ss vs hp nx K zp zy zw hr hh h H hH;unfold bDr at h;cases en:Nat.ble (iJ ss) n with
 |false=>rw[en] at h;exact h.elim
 |true=>
  rw[en,QT] at h;have h:=lI h;generalize fe++fxW ss hp=fx0 at h;obtain⟨RR,ew⟩:∃RR:Value->AH->Prop,RR=fun u H'=>∃H1 A1 ρ' PS' fx s qc nx',Gr A H0 A1 H1/\HS S H1 A0 A1 (flt PS'++L0) H'/\K fx s qc nx'/\FxR fx ρ ρ'/\(∀i,nx'<=i->ρ' i=none)/\(∀i v,ρ' i=some v->v.oneCell'=true)/\RepH E ρ' A1 H1 qc PS'/\Rep ρ' A1 H1 s u:=⟨_,rfl⟩
  suffices yz:XCall P g vs H RR by rw[ew] at yz;exact yz
  have qe:vs.length<=n:=by rw[hr.len,<-dY];exact QL en
  refine XCall.range E hg hb ?_;rw[nL qe];refine sZ (γ:=bGh) (ρe:=ρ) (Ae:=A) (He:=H0) hm hT (hC.gam bGh) ⟨zp,fun e=>by cases e⟩ pre h ?_ ⟨zy,zw,tH hr rfl,hh⟩ (fun i _ v hv=>hv) (Gr.refl _ _) H hH;intro e fs hp nx q ρ1 PS1 A' H' l t hD hx ze H1 ai;cases e with
  |normal=>
   refine⟨rfl,?_⟩;unfold wRF at q;obtain⟨sz,uz,z1,z2,q1⟩:=aT hD.fr q;clear q;split at q1
   ·rename_i gj caps;cases eg:Nat.beq gj gi with
    |false=>rw[eg] at q1;exact q1.elim
    |true=>
     rw[eg,QT] at q1;have:=QN eg;subst this;cases el:Nat.ble (iJ caps+1) ni with
     |false=>rw[el] at q1;exact q1.elim
     |true=>
      rw[el,QT] at q1;cases ebx:wRF.hasBox hp with
      |false=>rw[ebx] at q1;exact q1.elim
      |true=>
       rw[ebx,QT] at q1;simp only[Rep] at z2;obtain⟨vc,rfl,m6⟩:=z2;obtain⟨f0,us,q3,u1,u2⟩:=pkFK hD.fr q1;have q4:=iH (q3 us H1.nx);refine⟨gj,vc,_,aI z1,gz,kV ebx hD.hp (fun p hp=>(ai.own p (List.mem_append_left _ hp)).1),?_⟩;have fc:(Value.func (.yield (2*H1.nx+1)) ⟨[]⟩ ⟨[]⟩::vc).length<=ni:=by
        have:=QL el;rw[List.length_cons,m6.len,<-dY];exact this
       rw[nL fc];have zr:=hD.push (x:=.bool true) (o:=.oth (.vals us (bBq f0))) (La:=[]) rfl (fun qf hr=>⟨_,hr,rfl,Reps.mono qf (Gr.refl _ _) u1⟩);have qf:=gV (x:=.bool true) (hD.no nx (Nat.le_refl _));have hry:Reps (mV ρ1 nx (.bool true)) A' H' (.yl H1.nx::caps) (Value.func (.yield (2*H1.nx+1)) ⟨[]⟩ ⟨[]⟩::vc):=by
        simp only[Reps,Rep];exact⟨trivial,Reps.mono qf (Gr.refl _ _) m6⟩
       have hS1:HS S H' A0 A' (flt ((nx,[])::PS1)++L0) {H1 with nx:=H1.nx+1}:=ai.later ⟨rfl,Nat.le_succ _,fun _ _=>rfl⟩;have qu:S.w0.toWorld.heap.size=H1.w0.heap.size:=by rw[ai.kept.w0]
       refine gN (γ:=bGi H1.w0.heap.size p asg bd (fr n t l) H1.nx) (ρe:=ρ) (Ae:=A) (He:=H0) hm hT (AllC.yld rfl (yw_of hm hT hC u2) (hC.gam _)) ⟨zp,fun _=>qu⟩ bi q4 ?_ ⟨zr.no,zr.one,tH hry rfl,zr.hp⟩ (hx.le qf) ze _ hS1;intro e2 fs2 zk nx2 q2 ρ2 PS2 A2 H2 l2 t2 xe sw vj K2 mw;have main:∀q:bGe E T C tb n AN DR rs (c0::post) ks us nx rsi fx0 K fs2 zk nx2,(∃us,bP E (fr ni t2 l2) K2 rsi=some us)/\XLs (γ:=bGh) P (c0::post) (vL E rs RR) (fr n t l) K2:=by
        intro q;unfold bGe at q;obtain⟨ss',us',k1,k2,k3⟩:=mG (S:=S) (A0:=A0) (L0:=L0) hT xe q;refine⟨⟨us',k3.ok mw⟩,?_⟩;split at k1
        ·rename_i us'' cs hgv;obtain⟨ah,k1⟩:=k1;subst ah;obtain⟨La,X,Y,qs,⟨x,c1,c2,c3⟩,_,_,xd⟩:=xe.hp.get hgv;obtain⟨ab,k1,d9⟩:=xd _ k1;subst c2;have da:HS S H2 A0 A2 (flt (X++Y)++L0) K2:=by
          have:=mw;rw[qs,bH] at this;simp only[flt,List.nil_append] at this;rw[bH];exact this
         have:=sZ (γ:=bGh) (ρe:=ρ) (Ae:=A) (He:=H0) (l:=bAo ks us'') (t:=(fr n t l).tr) (K:=vL E rs RR) hm hT (hC.gam bGh) ⟨zp,fun e=>by cases e⟩ (c0::post) k1 ?_ ⟨xe.no,xe.one,aAk c3,d9⟩ sw vj K2 da
         ·exact XC.congr (γ:=bGh) (by rw[aDi,aDi]) (u2.frame n t) this
         ·intro e fs4 aj nx4 q4 ρ4 PS4 A4 H4 l4 t4 db lq hg4;have fin:∀{fx:NL},FxR fx ρ ρ4->∀q:uD T fs4 aj rs fun vs=>K fx (sX vs) aj nx4,∀K',HS S H4 A0 A4 (flt PS4++L0) K'->∃us,bP E (fr n t4 l4) K' rs=some us/\RR (bK us) K':=by
           rw[ew];intro fx hx q K' hK;obtain⟨ss',us,k1,k2,k3⟩:=mG (S:=S) (A0:=A0) (L0:=L0) hT db q;exact⟨us,k3.ok hK,H4,A4,ρ4,PS4,_,_,aj,nx4,hg4,hK,k1,hx,db.no,db.one,db.hp,vP k2⟩
          cases e with
          |normal=>
           intro K' hK;obtain⟨us,a,b⟩:=fin lq q4 K' hK;exact⟨.inl rfl,us,a,b⟩
          |ret=>
           intro K' hK;obtain⟨us,a,b⟩:=fin lq q4 K' hK;exact⟨.inr rfl,us,a,b⟩
          |exit i=>exact q4.elim
          |goto i=>exact q4.elim
          |panic i=>exact q4.elim
          |outgrown=>exact q4.elim
        ·exact k1.elim
       cases e2 with
       |normal=>obtain⟨a,b⟩:=main q2;exact⟨.inl rfl,a,b⟩
       |ret=>obtain⟨a,b⟩:=main q2;exact⟨.inr rfl,a,b⟩
       |exit i=>exact q2.elim
       |goto i=>exact q2.elim
       |panic i=>exact q2.elim
       |outgrown=>exact q2.elim
   ·exact q1.elim
  |exit i=>exact q.elim
  |goto i=>exact q.elim
  |ret=>exact q.elim
  |panic i=>exact q.elim
  |outgrown=>exact q.elim
def bFz:List Code->Option (List Code×Nat×Operand×Nat×Code×Code×Code×List Code)
 |.block i (.rangeFunc z ps asg bd)::c0::r=>(match ps with
  |⟨[p]⟩=>some ([],i,z,p,asg,bd,c0,r)
  |_=>none)
 |c::r=>(match bFz r with
  |some (pre,q)=>some (c::pre,q)
  |none=>none)
 |[]=>none
theorem bAu:∀{l:List Code} {pre post:List Code} {i p:Nat} {z:Operand} {asg bd c0:Code},bFz l=some (pre,i,z,p,asg,bd,c0,post)->l=pre++(.block i (.rangeFunc z #[p] asg bd)::c0::post)
 |[],_,_,_,_,_,_,_,_,h=>by cases h
 |c::r,pre,post,i,p,z,asg,bd,c0,h=>by
  unfold bFz at h;split at h
  ·rename_i e;cases e;split at h
   ·cases h;rfl
   ·cases h
  ·rename_i e;cases e;split at h
   ·rename_i hq;cases h;rw[bAu hq];rfl
   ·cases h
  ·rename_i e;cases e
def aIq(E:Env P)(T:TTb)(C:CTb)(tb:TBs)(AN:List (Nat×Ann))(DR:DRs)(F:Func)(ks:NL)(gi:Nat)(ANi:List (Nat×Ann))(DRi:DRs)(Fi:Func):IW:=match F.body,Fi.body with
 |some c,some ci=>(match bFz (pcs c) with
  |some (pre,_,z,p,asg,bd,c0,post)=>bDr E T C tb F.ntmps AN DR F.results.toList pre z p asg bd (c0::post) ks gi Fi.ntmps ANi DRi Fi.results.toList ci
  |none=>fun _ _ _ _ _=>False)
 |_,_=>fun _ _ _ _ _=>False
theorem bGc(hm:P.follows .mixedOrders=true)(hT:dM E T)(hC:AllC E tb C){g gi:FuncId}{F Fi:Func}{ks:NL}{ANi:List (Nat×Ann)}{DRi:DRs}(hg:∀c,F.body=some c->E.fn g=some ⟨F.ntmps,F.results.toList,c⟩)(gz:∀c,Fi.body=some c->E.fn gi=some ⟨Fi.ntmps,Fi.results.toList,c⟩):fC E tb g (aIq E T C tb AN DR F ks gi ANi DRi Fi):=by
 unfold aIq;split
 ·rename_i c ci hb hbi;split
  ·rename_i hs;exact bGf hm hT hC (hg c hb) (bAu hs) (gz ci hbi)
  ·intro fe S H0 A0 A L0 ρ PS ss vs hp nx K zp zy zw hr hh h;exact h.elim
 ·intro fe S H0 A0 A L0 ρ PS ss vs hp nx K zp zy zw hr hh h;exact h.elim
end
end Go.AM
namespace Go.AM
open Go.RowKit
variable [σ:Sg]
def cSl(c:CL):Int:=(((cS c 0).data.toList.length:Nat):Int)
def gBR(k j:Nat)(fr:FR)(hp:HP)(K:LX->Prop):Prop:=match aWr k j fr hp with
 |some (.row _ _ m)=>K m
 |some (.nil)=>K []
 |some (.ow i)=>(match hget i hp with
  |some (.row _ _ l)=>K l
  |some (.oth (.wk _ _ l))=>K l
  |some (.oth (.ho _ _ l _ _))=>K l
  |_=>False)
 |_=>False
theorem uE{x y:CL}{s:BA}:cSl (List.take 0 x++(List.map cSV [SV.str s]++y))=((s.data.toList.length:Nat):Int):=rfl
theorem aXe{s:BA}:cSl (List.map cSV [SV.str s])=((s.data.toList.length:Nat):Int):=rfl
theorem cI_hd{k:IntKind}{z:Int}{r:SL}:cI (List.map cSV (SV.int k z::r)) 0=z:=rfl
theorem aSa{k:IntKind}{z:Int}:cI (List.map cSV [SV.int k z]) 0=z:=rfl
theorem bFh{l:LX}{i:Int}{c:CL}(h0:0<=i)(h:i<((l.length:Nat):Int)):elC (l.set i.toNat c) i=c:=by
 unfold elC;rw[List.getElem?_set_self (by omega)];rfl
theorem bFg{l:LX}{i j:Int}{c:CL}(h0:0<=i)(h1:0<=j)(h:i≠j):elC (l.set i.toNat c) j=elC l j:=by
 unfold elC;rw[List.getElem?_set_ne (by omega)]
theorem AllB.set{f:CL->Prop}{l:LX}{i:Int}{c:CL}(h:AllB f l i)(h0:0<=i)(hl:i<((l.length:Nat):Int))(hc:f c):AllB f (l.set i.toNat c) (i+1):=fun j a b=>by
 by_cases e:j=i
 ·rw[e,bFh h0 hl];exact hc
 ·rw[bFg h0 a (fun q=>e q.symm)];exact h j a (by omega)
theorem AllB.take{f:CL->Prop}{l:LX}{i:Int}{n:Nat}(h:AllB f l i)(hn:i<=((n:Nat):Int)):AllB f (l.take n) i:=fun j a b=>by
 have:=h j a b;unfold elC at this ⊢
 rwa [List.getElem?_take_of_lt (by omega)]
theorem AllB.drop{f:CL->Prop}{l:LX}{i k:Int}{n:Nat}(h:AllB f l i)(hn:k+((n:Nat):Int)<=i):AllB f (l.drop n) k:=fun j a b=>by
 have:=h (j+n) (by omega) (by omega);unfold elC at this ⊢;rw[List.getElem?_drop]
 rwa [show n+j.toNat=(j+n).toNat by omega]
theorem AllB.app{f:CL->Prop}{l:LX}{c:CL}(h:AllB f l ((l.length:Nat):Int))(hc:f c):AllB f (l++[c]) (((l++[c]).length:Nat):Int):=fun j a b=>by
 rw[List.length_append] at b;simp only[List.length_cons,List.length_nil] at b;unfold elC;by_cases e:j.toNat<l.length
 ·rw[List.getElem?_append_left e];exact h j a (by omega)
 ·have:j.toNat=l.length:=by omega
  rw[this,List.getElem?_append_right (Nat.le_refl _)];simpa using hc
theorem AllB.elt{f:CL->Prop}{l:LX}{n j:Int}{c:CL}(h:elC l j=c)(k:AllB f l n)(a:0<=j)(b:j<n):f c:=h▸k j a b
theorem AllB.dropE{f:CL->Prop}{l l':LX}{i n:Int}(h:l'=List.drop n.toNat l)(k:AllB f l i)(h0:0<=n)(e:((l'.length:Nat):Int)+n<=i):AllB f l' ((l'.length:Nat):Int):=by
 subst h;exact AllB.drop k (by omega)
theorem AllB.nil{f:CL->Prop}:AllB f [] 0:=fun j a b=>absurd b (by omega)
structure PlaceOk (R:LX) (M:Int->Option CL) (i:Int):Prop where
 at':∀id c,M id=some c->1<=id/\0<=cI c 0/\cI c 0<i/\cI (elC R (cI c 0)) 0=id
 has:∀j,0<=j->j<i->∃c,M (cI (elC R j) 0)=some c/\cI c 0=j
 par:∀j,0<=j->j<i->cI (elC R j) 2=0\/∃c,M (cI (elC R j) 2)=some c/\cI c 0<j
def aTs(M:Int->Option CL)(z:Int):Prop:=∃c,M z=some c
section
variable {R:LX}{M:Int->Option CL}{i n z:Int}{c:CL}
theorem PlaceOk.zero:PlaceOk R (fun _=>none) 0:=⟨(fun _ _ h=>by cases h),fun j a b=>absurd b (by omega),fun j a b=>absurd b (by omega)⟩
theorem PlaceOk.last(h:PlaceOk R M i)(k:1<=i):cI (elC R (i - 1)) 0=0\/aTs M (cI (elC R (i - 1)) 0):=by
 obtain⟨c,h1,_⟩:=h.has (i - 1) (by omega) (by omega);exact .inr ⟨c,h1⟩
theorem PlaceOk.next(h:PlaceOk R M i)(k:M z=some c):cI (elC R (cI c 0)) 2=0\/aTs M (cI (elC R (cI c 0)) 2):=by
 obtain⟨_,h1,h2,_⟩:=h.at' _ _ k;rcases h.par _ h1 h2 with e|⟨d,e,_⟩
 ·exact .inl e
 ·exact .inr ⟨d,e⟩
theorem PlaceOk.mu(h:PlaceOk R M i)(k:M z=some c):muM M (cI (elC R (cI c 0)) 2)<muM M z/\0<muM M z:=by
 obtain⟨_,h1,h2,_⟩:=h.at' _ _ k;have e1:muM M z=cI c 0+1:=by unfold muM;rw[k]
 rw[e1];rcases h.par _ h1 h2 with e|⟨d,e,e2⟩
 ·rw[e];have:muM M 0=0:=by
   unfold muM;cases e3:M 0 with
   |none=>rfl
   |some d=>have:=(h.at' _ _ e3).1;omega
  omega
 ·have e3:muM M (cI (elC R (cI c 0)) 2)=cI d 0+1:=by unfold muM;rw[e]
  omega
theorem PlaceOk.step(h:PlaceOk R M i)(h0:0<=i)(hn:M (cI (elC R i) 0)=none)(h1:1<=cI (elC R i) 0)(hp:cI (elC R i) 2=0\/aTs M (cI (elC R i) 2))(hc:cI c 0=i):PlaceOk R (wP M (cI (elC R i) 0) c) (i+1):=by
 have other:∀{z:Int} {d:CL},M z=some d->wP M (cI (elC R i) 0) c z=some d:=fun {z d} e=>by
  unfold wP;rw[if_neg];exact e;intro q;rw[q,hn] at e;cases e
 refine⟨fun id d e=>?_,fun j a b=>?_,fun j a b=>?_⟩
 ·unfold wP at e;by_cases q:id=cI (elC R i) 0
  ·rw[if_pos q] at e;cases e;subst q;rw[hc];exact⟨h1,h0,by omega,rfl⟩
  ·rw[if_neg q] at e;have:=h.at' _ _ e;exact⟨this.1,this.2.1,by omega,this.2.2.2⟩
 ·by_cases q:j=i
  ·subst q;exact⟨c,by unfold wP;rw[if_pos rfl],hc⟩
  ·obtain⟨d,e1,e2⟩:=h.has j a (by omega);exact⟨d,other e1,e2⟩
 ·by_cases q:j=i
  ·subst q;rcases hp with e|⟨d,e⟩
   ·exact .inl e
   ·exact .inr ⟨d,other e,(h.at' _ _ e).2.2.1⟩
  ·rcases h.par j a (by omega) with e|⟨d,e,e2⟩
   ·exact .inl e
   ·exact .inr ⟨d,other e,e2⟩
end
theorem AllB.appE{f:CL->Prop}{l l' c':LX}{c:CL}(h:l'=l++c')(h2:c'=[c])(k:AllB f l ((l.length:Nat):Int))(hc:f c):AllB f l' ((l'.length:Nat):Int):=by
 subst h;subst h2;exact AllB.app k hc
theorem AllB.one{f:CL->Prop}{c:CL}(hc:f c):AllB f [c] ((([c]:LX).length:Nat):Int):=AllB.app (l:=[]) AllB.nil hc
theorem aYw{l:LX}:((sH l:Nat):Int)<=((l.length:Nat):Int):=Int.ofNat_le.2 List.countP_le_length
theorem aWf{l:LX}{n:Int}(h:((l.length:Nat):Int)<n):((sH l:Nat):Int)<n:=Int.lt_of_le_of_lt aYw h
theorem aOk{l l':LX}{j:Int}{c c0:CL}(h:l'=l.set j.toNat c)(h0:0<=j)(h1:j<((l.length:Nat):Int))(he:elC l j=c0)(hf:¬cB c0 0=true)(hc:cB c 0=true):((sH l':Nat):Int)+1=((sH l:Nat):Int):=by
 subst h;have:=aPd (l:=l) (c:=c) h0 h1 (by rw[he];simpa using hf) hc;omega
def spc(n:Nat):Int:=if n=32\/(9<=n/\n<=13) then 1 else 0
theorem aTd(n:Nat):spc n=0\/spc n=1:=by
 unfold spc;split
 ·exact .inr rfl
 ·exact .inl rfl
def spW(s:BA)(i:Int):Int:=spc (sBt s i).toNat
def aNp(s:BA):Nat->Int
 |0=>1
 |i+1=>spW s ((i:Nat):Int)
def aDb(s:BA):Nat->Int
 |0=>0
 |i+1=>aDb s i+if spW s ((i:Nat):Int)=0 then aNp s i else 0
def mY(s:BA)(i:Int):Int:=aNp s i.toNat
def gZ(s:BA)(i:Int):Int:=aDb s i.toNat
theorem aQk{s:BA}:∀i:Nat,0<=aNp s i/\aNp s i<=1
 |0=>⟨by show(0:Int)<=1;omega,by show(1:Int)<=1;omega⟩
 |i+1=>by rcases aTd (sBt s i).toNat with h|h<;>simp only[aNp,spW,h]<;>decide
theorem aMg{s:BA}(i:Nat):aDb s i<=aDb s (i+1):=by
 have:=aQk (s:=s) i;simp only[aDb];split<;>omega
theorem aKc{s:BA}{i:Nat}:∀{j:Nat},i<=j->aDb s i<=aDb s j
 |0,h=>by have:i=0:=by omega
          subst this;exact Int.le_refl _
 |j+1,h=>by
  rcases Nat.lt_or_ge i (j+1) with h1|h1
  ·exact Int.le_trans (aKc (by omega)) (aMg j)
  ·have:i=j+1:=by omega
   subst this;exact Int.le_refl _
def AscS(s:BA):Prop:=∀i:Int,0<=i->i<((s.data.toList.length:Nat):Int)->sBt s i<=127
theorem AscS.of{s:BA}(h:(s.data.toList.all fun b=>Nat.ble b.toNat 127)=true):AscS s:=fun i h0 h1=>by
 have hb:i.toNat<s.data.toList.length:=by omega
 simp only[sBt,List.getElem?_eq_getElem hb,Option.getD_some];have:=QL (List.all_eq_true.1 h _ (List.getElem_mem hb));omega
theorem fldA{s:BA}{i z:Int}(h:z=sBt s i)(ha:AscS s)(h0:0<=i)(h1:i<((s.data.toList.length:Nat):Int)):z<=127:=h▸ha _ h0 h1
theorem fldS{s:BA}{i z y:Int}(h:y=spc z.toNat)(hz:z=sBt s i)(h0:0<=i)(h1:i<((s.data.toList.length:Nat):Int)):
 (y=0/\gZ s (i+1)=gZ s i+mY s i/\mY s (i+1)=0/\spW s i=0/\gZ s (i+1)<=gZ s ((s.data.toList.length:Nat):Int)/\0<=mY s i/\mY s i<=1)\/
 (y=1/\gZ s (i+1)=gZ s i/\mY s (i+1)=1/\spW s i=1/\gZ s (i+1)<=gZ s ((s.data.toList.length:Nat):Int)/\0<=mY s i/\mY s i<=1):=by
 subst hz;obtain⟨a,rfl⟩:∃a:Nat,i=((a:Nat):Int):=⟨i.toNat,by omega⟩;have e:(((a:Nat):Int)+1).toNat=a+1:=by omega
 have hl:gZ s (((a:Nat):Int)+1)<=gZ s ((s.data.toList.length:Nat):Int):=by
  simp only[gZ,e,Int.toNat_natCast];exact aKc (by omega)
 have hw:mY s (((a:Nat):Int)+1)=spW s ((a:Nat):Int):=by simp only[mY,e,aNp]
 rcases aTd (sBt s ((a:Nat):Int)).toNat with q|q
 ·have q':spW s ((a:Nat):Int)=0:=q;refine .inl ⟨h.trans q,?_,hw.trans q',q',hl,aQk _⟩;simp only[gZ,mY,e,Int.toNat_natCast,aDb,q',if_true]
 ·have q':spW s ((a:Nat):Int)=1:=q;refine .inr ⟨h.trans q,?_,hw.trans q',q',hl,aQk _⟩;simp only[gZ,e,Int.toNat_natCast,aDb,q'];rw[if_neg (by decide)];omega
theorem fldN{s:BA}{i:Int}(h:¬i<((s.data.toList.length:Nat):Int))(e:i<=((s.data.toList.length:Nat):Int)):gZ s i=gZ s ((s.data.toList.length:Nat):Int)/\spW s i=0:=by
 have:i=((s.data.toList.length:Nat):Int):=by omega
 subst this;refine⟨rfl,?_⟩;simp only[spW,sBt,Int.toNat_natCast,List.getElem?_eq_none (Nat.le_refl _),Option.getD_none];rfl
theorem bDx{n:Nat}{z:Int}(h0:0<=z)(h:Nat.ble n z.toNat=true):((n:Nat):Int)<=z:=by
 have:=QL h;omega
theorem cntW0{s:BA}:gZ s 0=0:=rfl
theorem wspW0{s:BA}:mY s 0=1:=rfl
def gT(k:Nat)(fr:FR)(K:BA->Prop):Prop:=match bT k fr with
 |some (.str s)=>K s
 |_=>False
def rT(j:Nat)(l:SL)(K:BA->Prop):Prop:=match atS l j with
 |some (.str s)=>K s
 |_=>False
def rcR(k j:Nat)(l:SL)(K:LX->Prop):Prop:=match atS l k with
 |some (.agg cs)=>rR j cs K
 |_=>False
end Go.AM
namespace Go.AM
open Go.RowKit
variable [σ:Sg]
section
variable {ρ:RM}{A:NQ}{H:AH}
theorem aJy:∀{ks:KL} {c:CL} {j:Nat} {xs:VL},Reps ρ A H (bI ks c j) xs->CellsA A H ks xs ((bI ks c j).map cSV)
 |[],c,j,[],h=>by simp[bI,CellsA]
 |[],c,j,_::_,h=>by simp only[bI,Reps] at h
 |_::_,c,j,[],h=>by simp only[bI,Reps] at h
 |k::ks,c,j,x::xs,h=>by
  simp only[bI,Reps] at h;simp only[bI,List.map_cons,CellsA];refine⟨?_,aJy h.2⟩;have h1:=h.1;cases k with
  |int k=>simp only[kSV,Rep] at h1;obtain⟨rfl,hn⟩:=h1;exact .mkI hn
  |bool=>simp only[kSV,Rep] at h1;subst h1;exact .mkB
  |str=>simp only[kSV,Rep] at h1;obtain⟨rfl,hb⟩:=h1;exact .mkS hb
  |row b q=>simp only[kSV,Rep] at h1;exact h1
end
theorem bFo{k:Kd}{c:CL}{j:Nat}{d:CL}(h:d[j]?=some (cSV (kSV k c j))):kSV k d j=kSV k c j:=by
 cases k<;>simp only[kSV,cI,cV,cB,cS,cR,h,cSV]
theorem aMx:∀{ks:KL} {c:CL} {pre:CL} {j:Nat},pre.length=j->bI ks (pre++(bI ks c j).map cSV) j=bI ks c j
 |[],_,_,_,_=>rfl
 |k::ks,c,pre,j,h=>by
  simp only[bI,List.map_cons];have:=aMx (ks:=ks) (c:=c) (pre:=pre++[cSV (kSV k c j)]) (j:=j+1) (by simp[h]);rw[QA] at this;rw[show(cSV (kSV k c j)::(bI ks c (j+1)).map cSV)=[cSV (kSV k c j)]++(bI ks c (j+1)).map cSV from rfl,this];congr 1;refine bFo ?_;rw[<-h];simp
def cDet(ks:KL)(k:IntKind)(Q:CL->Int->Prop):Ctr:=⟨[.ag ks],[.sc (.int k)],fun _=>Pr True,fun a r=>match a,r with|[.agg cs],[.int _ r]=>Pr (Q (cs.map cSV) r)|_,_=>Pr False,0,none⟩
theorem CtrOk.det{P:PG}{tb:TBs}{g:FuncId}{ks:KL}{k:IntKind}{Q:CL->Int->Prop}(r8:kdsOk ks=true)(h:CtrOk P tb g (cDet ks k Q))(w0:World):∃chi:CL->Int,CtrOk P ⟨tb.l,fun w=>w=w0/\tb.ok w⟩ g (cDet ks k fun c r=>r=chi c/\Q c r):=by
 have hd:∀c,∃n,∀(S:AH) (A:NQ) (xs:VL),S.w0.toWorld=w0->aMz w0 tb->True->(∀j,A j->j<S.nx)->CellsA A S ks xs c->
  XCall P g [.agg ⟨xs⟩] S fun u H'=>u=.int k n/\H'=S/\(Lit.int k n).wf=true/\Q ((bI ks c 0).map cSV) n:=fun c=>
  XCall.det (P:=P) (g:=g) (k:=k) r8 (fun w=>aMz w tb) (fun _=>True) (fun c n=>(Lit.int k n).wf=true/\Q ((bI ks c 0).map cSV) n) (fun S A xs c hg _ hA hx=>by
   refine(h S S A A [] [.agg (bI ks c 0)] [.agg ⟨xs⟩] hg (.cons ⟨c,rfl⟩ .nil) ?_ ⟨trivial⟩ S (HS.start hA)).mono ?_
   ·simp only[Reps,Rep];exact⟨⟨xs,rfl,hx.reps rfl⟩,trivial⟩
   ·rintro u H' _ ⟨H1,A1,_,_,rs,us,ha,hr,rfl,hp⟩;cases ha with
    |cons hq ht=>
     cases ht;obtain⟨n,rfl⟩:=hq
     match us,hr with
     |[u],hr=>
      simp only[Reps,Rep] at hr;obtain⟨⟨rfl,hn⟩,_⟩:=hr;exact⟨n,rfl,hn,hp.h⟩
     |[],hr=>simp only[Reps] at hr
     |_::_::_,hr=>simp only[Reps] at hr;exact hr.2.elim) w0 c
 obtain⟨chi,ak⟩:∃chi:CL->Int,∀c,∀(S:AH) (A:NQ) (xs:VL),S.w0.toWorld=w0->aMz w0 tb->True->(∀j,A j->j<S.nx)->CellsA A S ks xs c->
  XCall P g [.agg ⟨xs⟩] S fun u H'=>u=.int k (chi c)/\H'=S/\(Lit.int k (chi c)).wf=true/\Q ((bI ks c 0).map cSV) (chi c):=⟨fun c=>Classical.choose (hd c),fun c=>Classical.choose_spec (hd c)⟩
 refine⟨chi,fun S H0 A0 A L0 ss vs zp ap hr _ H hH=>?_⟩;cases ap with
 |cons hp ht=>
  cases ht;obtain⟨c,rfl⟩:=hp
  match vs,hr with
  |[v],hr=>
   simp only[Reps,Rep] at hr;obtain⟨⟨xs,rfl,hr⟩,_⟩:=hr;have e:=aMx (ks:=ks) (c:=c) (pre:=[]) (j:=0) rfl;rw[List.nil_append] at e;have hq:=ak ((bI ks c 0).map cSV) H A xs (by rw[hH.kept.w0];exact zp.1.1) ⟨zp.1.1▸zp.1.2,zp.1.1▸zp.2⟩ trivial hH.lt (CellsA.gr hH.gr _ _ _ (aJy hr));refine hq.mono ?_;rintro u H' _ ⟨rfl,rfl,hn,q⟩;rw[e] at q;refine⟨H0,A,Gr.refl _ _,hH,[.int k (chi ((bI ks c 0).map cSV))],[.int k (chi ((bI ks c 0).map cSV))],.cons ⟨_,rfl⟩ .nil,?_,rfl,?_⟩
   ·simp only[Reps,Rep,hn,and_self]
   ·exact⟨⟨rfl,q⟩⟩
  |[],hr=>simp only[Reps] at hr
  |_::_::_,hr=>simp only[Reps] at hr;exact hr.2.elim
end Go.AM
namespace Go.AM
open Go.RowKit
variable [σ:Sg]
def wWs(t:TY):IW:=fun fe ss hp nx K=>match ss with
 |[.ptr id 0,.str s]=>(match hget id hp with
  |some (.oth (.bl t' u))=>cond (Nat.beq t' t) (Ob (1<=s.data.toList.length/\u.length+s.data.toList.length<=140737488355328)
   (∀u':BL,u'.length=u.length+s.data.toList.length->u'=u++s.data.toList->kP id (.oth (.bl t' u')) hp fun hp=>xD (fe++mU hp) fun fx=>K fx (.tup [.any,.any]) hp nx)) False
  |_=>False)
 |_=>False
def wSt(t:TY):IW:=fun fe ss hp nx K=>match ss with
 |[.ptr id 0]=>(match hget id hp with
  |some (.oth (.bl t' u))=>cond (Nat.beq t' t) (Ob (1<=u.length/\u.length<=1099511627776)
   (∀w:BA,w.data.toList.length=u.length->w.data.toList=u->mX id hp fun hp=>xD (fe++mU hp) fun fx=>K fx (.str w) hp nx)) False
  |_=>False)
 |_=>False
section
variable {P:PG}{E:Env P}{tb:TBs}
theorem aVs{S H0 H:AH}{A0 A:NQ}{L L1 L2 L0:OL}(hH:HS S H0 A0 A ((L1++(L++L2))++L0) H):Takes L ((L1++(L++L2))++L0) ((L1++L2)++L0)/\(∀p∈L,H.tr.get p.1=some p.2/\p.1<H.nx)/\L.Pairwise (fun p q=>p.1≠q.1):=by
 refine⟨?_,fun p hp=>?_,?_⟩
 ·rw[QA,QA,QA];exact(Takes.app (T:=L) (L0:=L2++L0)).skipA
 ·obtain⟨a,_,b,_⟩:=hH.own p (List.mem_append_left _ (List.mem_append_right _ (List.mem_append_left _ hp)));exact⟨a,b⟩
 ·refine hH.dist.sublist ?_;rw[QA,QA];exact(List.sublist_append_left L _).trans (List.sublist_append_right L1 _)
theorem iw_ws{g t:Nat}(kn:∀{S:AH} {N M:Nat} {bs:BL} {s:BA},s.data.toList≠[]->bs.length+s.data.toList.length<=140737488355328->(∀p∈bld t N M bs,S.tr.get p.1=some p.2/\p.1<S.nx)->(bld t N M bs).Pairwise (fun p q=>p.1≠q.1)->
 XCall P g [.pointer (some ⟨2*N+1,0,none⟩),.string s] S fun u H'=>∃Lo,Turned (bld t N M bs) S H' Lo/\(u=.tuple ⟨[.int .i64 ((s.data.toList.length:Nat):Int),.nilIface]⟩/\∃M2,Lo=bld t N M2 (bs++s.data.toList))):fC E tb g (wWs t):=by
 intro fe S H0 A0 A L0 ρ PS ss vs hp nx K zp zy zw hr hh h;unfold wWs at h;split at h
 ·rename_i id s;split at h
  ·rename_i t' u hg;cases et:Nat.beq t' t with
   |false=>rw[et] at h;exact h.elim
   |true=>
    rw[et,QT] at h;have et:=QN et;subst et
    match vs,hr with
    |[v1,v2],hr=>
     simp only[Reps,Rep] at hr;obtain⟨⟨N,e1,rfl⟩,⟨rfl,_⟩,_⟩:=hr;obtain⟨L,X,Y,qs,⟨N',M,r1,r2⟩,_,ff,_⟩:=hh.get hg;rw[e1] at r1;simp only[Option.some.injEq,Value.pointer.injEq,Addr.mk.injEq] at r1;have eN:N'=N:=by omega
     subst eN;subst r2;obtain⟨qc,k,hq⟩:=ff _ _ (h.t (u++s.data.toList) (by rw[List.length_append]) rfl);intro H hH;rw[qs,bH] at hH;simp only[flt] at hH;obtain⟨b1,b2,b3⟩:=aVs hH;refine(kn (fun e=>by have:=h.h.1;rw[e] at this;simp at this) h.h.2 b2 b3).mono ?_;rintro v H' _ ⟨Lo,hT,rfl,M2,rfl⟩;obtain⟨q1,q2⟩:=hH.after (Hc:=H) b1 hT;have k:=lI k;refine⟨_,_,ρ,_,_,_,qc,nx,q2,q1.perm ?_,k,fun i _ v hv=>hv,zy,zw,hq (RMle.refl _) q2 ⟨N',M2,e1,rfl⟩,?_⟩
     ·rw[bH];simp only[flt];have:=(List.perm_append_comm_assoc (flt X) (bld t' N' M2 (u++s.data.toList)) (flt Y)).append_right L0
      rwa [QA (bld t' N' M2 (u++s.data.toList))] at this
     ·simp only[Rep];exact⟨_,rfl,by simp only[Reps,Rep,and_self]⟩
    |[],hr=>simp only[Reps] at hr
    |[_],hr=>simp only[Reps] at hr;exact hr.2.elim
    |_::_::_::_,hr=>simp only[Reps] at hr;exact hr.2.2.elim
  ·exact h.elim
 ·exact h.elim
theorem iw_st{g t:Nat}(qr:∀{S:AH} {N M:Nat} {bs:BL},bs≠[]->bs.length<=1099511627776->(∀p∈bld t N M bs,S.tr.get p.1=some p.2/\p.1<S.nx)->(bld t N M bs).Pairwise (fun p q=>p.1≠q.1)->
 XCall P g [.pointer (some ⟨2*N+1,0,none⟩)] S fun u H'=>∃Lo,Turned (bld t N M bs) S H' Lo/\(u=.string ⟨⟨bs⟩⟩)):fC E tb g (wSt t):=by
 intro fe S H0 A0 A L0 ρ PS ss vs hp nx K zp zy zw hr hh h;unfold wSt at h;split at h
 ·rename_i id;split at h
  ·rename_i t' u hg;cases et:Nat.beq t' t with
   |false=>rw[et] at h;exact h.elim
   |true=>
    rw[et,QT] at h;have et:=QN et;subst et
    match vs,hr with
    |[v1],hr=>
     simp only[Reps,Rep] at hr;obtain⟨⟨N,e1,rfl⟩,_⟩:=hr;obtain⟨L,X,Y,qs,⟨N',M,r1,r2⟩,_,_,fg⟩:=hh.get hg;rw[e1] at r1;simp only[Option.some.injEq,Value.pointer.injEq,Addr.mk.injEq] at r1;have eN:N'=N:=by omega
     subst eN;subst r2;have qf:=h.h.2;obtain⟨qc,k,hq⟩:=fg _ (h.t ⟨⟨u⟩⟩ rfl rfl);intro H hH;rw[qs,bH] at hH;simp only[flt] at hH;obtain⟨b1,b2,b3⟩:=aVs hH;refine(qr (fun e=>by have:=h.h.1;rw[e] at this;simp at this) qf b2 b3).mono ?_;rintro v H' _ ⟨Lo,hT,rfl⟩;obtain⟨q1,q2⟩:=hH.after (Hc:=H) b1 hT;have k:=lI k;refine⟨_,_,ρ,_,_,_,qc,nx,q2,(q1.subl (List.sublist_append_right _ _):HS S _ _ _ ((flt X++flt Y)++L0) _) |>.perm ?_,k,fun i _ v hv=>hv,zy,zw,RepH.mono (RMle.refl _) q2 hq,?_⟩
     ·rw[bH]
     ·simp only[Rep];exact⟨trivial,(show u.length<=9223372036854775807 by omega)⟩
    |[],hr=>simp only[Reps] at hr
    |_::_::_,hr=>simp only[Reps] at hr;exact hr.2.elim
  ·exact h.elim
 ·exact h.elim
end
end Go.AM
namespace Go.AM
open Go.RowKit
def rcS(k j:Nat)(l:SL)(K:Int->Prop):Prop:=match atS l k with
 |some (.agg cs)=>rS j cs K
 |_=>False
def eU(n:Nat):BL:=if n<128 then [UInt8.ofNat n] else UInt8.ofNat (n%128+128)::eU (n / 128)
theorem aLm{n:Nat}(h:n<128):eU n=[UInt8.ofNat n]:=by rw[eU,if_pos h]
theorem aLi{n:Nat}(h:128<=n):eU n=UInt8.ofNat (n%128+128)::eU (n / 128):=by rw[eU,if_neg (by omega)]
theorem bBv(n:Nat):eU n≠[]:=by
 rw[eU];split<;>simp
theorem aQu:∀(k n:Nat),n<128^(k+1)->(eU n).length<=k+1
 |0,n,h=>by rw[aLm (by simpa using h)];simp
 |k+1,n,h=>by
  rcases Nat.lt_or_ge n 128 with h1|h1
  ·rw[aLm h1];simp
  ·rw[aLi h1,List.length_cons];have:=aQu k (n / 128) (by rw[Nat.div_lt_iff_lt_mul (by decide)];rw[Nat.pow_succ] at h;exact h);omega
theorem eU_10{n:Nat}(h:n<18446744073709551616):(eU n).length<=10:=aQu 9 n (Nat.lt_of_lt_of_le h (by decide))
theorem eU_1(n:Nat):1<=(eU n).length:=List.length_pos_iff.2 (bBv n)
def eN(n:Int):BL:=eU n.toNat
theorem eN_1(n:Int):1<=(eN n).length:=eU_1 _
theorem eN_10{n:Int}(h:n<=18446744073709551615):(eN n).length<=10:=eU_10 (by omega)
theorem aEq{l m l':LX}{k:IntKind}{z:Int}(e:l'=l++m)(hm:m=[[.v (.int k z)]]):eV l'=eV l++[UInt8.ofNat z.toNat]:=by
 subst e;subst hm;simp[eV,cI,cV]
theorem bEd:((List.range 256).all fun m=>Nat.beq (m ||| 128) (m%128+128))=true:=by kernel_rfl
theorem bCt{n:Nat}(h:n<256):n ||| 128=n%128+128:=by
 have:=List.all_eq_true.1 bEd n (List.mem_range.2 h);exact QN this
theorem bFd{t t':Int}(h0:128<=t)(ht:t'=t / 2^(7:Int).toNat):(eN t).length=(eN t').length+1:=by
 have e1:t'.toNat=t.toNat / 128:=by
  have:t'=t / 128:=ht;omega
 unfold eN;rw[aLi (n:=t.toNat) (by omega),e1];rfl
theorem aNj{l l' m:LX}{x:BL}{t z y t':Int}{k:IntKind}(hx:eV l++eN t=x)(h0:128<=t)(hy:y=t%(255+1))(hz:z=((y.toNat ||| (128:Int).toNat:Nat):Int))(e:l'=l++m)(hm:m=[[.v (.int k z)]])(ht:t'=t / 2^(7:Int).toNat):eV l'++eN t'=x:=by
 rw[aEq e hm,<-hx,QA];congr 1;have e1:t'.toNat=t.toNat / 128:=by
  have:t'=t / 128:=ht;omega
 have e2:z.toNat=t.toNat%128+128:=by
  have:(128:Int).toNat=128:=rfl;rw[this,bCt (by omega)] at hz;omega
 unfold eN;rw[aLi (n:=t.toNat) (by omega),e1,e2];rfl
theorem aLn{l l' m:LX}{x:BL}{t:Int}{k:IntKind}(hx:eV l++eN t=x)(h0:0<=t)(h1:t<128)(e:l'=l++m)(hm:m=[[.v (.int k t)]]):eV l'=x:=by
 rw[aEq e hm,<-hx];unfold eN;rw[aLm (by omega)]
def zzI(n:Int):Int:=if n<0 then -(2*n) - 1 else 2*n
theorem zzI_n{n:Int}(h:n<0):zzI n= -(2*n) - 1:=if_pos h
theorem zzI_p{n:Int}(h:¬n<0):zzI n=2*n:=if_neg h
def eI(n:Int):BL:=eN (zzI n)
theorem eI_of{n z:Int}{s:BL}(h:z=zzI n)(k:s=eN z):s=eI n:=by rw[k,h];rfl
def eT(l:BL):BL:=eN ((l.length:Nat):Int)++l
theorem eT_of{s l w:BL}(h:s=eN ((l.length:Nat):Int))(k:w=s++l):w=eT l:=by rw[k,h];rfl
theorem bDc{w r x:BL}(h:w=r)(k:r=eV []++x):w=x:=h.trans k
def gU(k:Nat)(fr:FR)(hp:HP)(K:BL->Prop):Prop:=match nF k fr hp with
 |some (.ptr i _)=>(match hget i hp with
  |some (.oth (.bl _ u))=>K u
  |_=>False)
 |_=>False
def eF(f:CL->List UInt8)(l:LX):BL:=l.flatMap f
theorem aZl{f:CL->List UInt8}{c:CL}{l:LX}:eF f (c::l)=f c++eF f l:=rfl
theorem bDh{f:CL->List UInt8}:eF f []=[]:=rfl
theorem aLe{l:LX}{t:Int}{c:CL}(hc:elC l t=c)(h0:0<=t)(h1:t<((l.length:Nat):Int)):l[t.toNat]?=some c:=by
 have hk:t.toNat<l.length:=by omega
 unfold elC at hc;rw[List.getElem?_eq_getElem hk] at hc ⊢;rw[<-hc];rfl
theorem oZ{f:CL->List UInt8}{l:LX}{t:Int}{U U' s:BL}{c:CL}(hU:U=eF f (l.take t.toNat))(e:U'=U++s)(hs:s=f c)(hc:elC l t=c)(h0:0<=t)(h1:t<((l.length:Nat):Int)):U'=eF f (l.take (t+1).toNat):=by
 have e1:(t+1).toNat=t.toNat+1:=by omega
 rw[e,hU,hs,e1,List.take_add_one,aLe hc h0 h1];simp[eF]
theorem kA{f:CL->List UInt8}{l:LX}{t:Int}{U U' s x:BL}{c:CL}(hU:U=x++eF f (l.take t.toNat))(e:U'=U++s)(hs:s=f c)(hc:elC l t=c)(h0:0<=t)(h1:t<((l.length:Nat):Int)):U'=x++eF f (l.take (t+1).toNat):=by
 rw[e,hU,QA,<-oZ rfl rfl hs hc h0 h1]
theorem eP_all{f:CL->List UInt8}{l:LX}{t:Int}{U w x:BL}(e:w=U)(hU:U=x++eF f (l.take t.toNat))(h:((l.length:Nat):Int)<=t):w=x++eF f l:=by
 rw[e,hU,List.take_of_length_le (by omega)]
theorem aTn{f:CL->List UInt8}{l:LX}{t:Int}{U w:BL}(e:w=U)(hU:U=eF f (l.take t.toNat))(h:((l.length:Nat):Int)<=t):w=eF f l:=by
 rw[e,hU,List.take_of_length_le (by omega)]
def fI(c:CL):BL:=eI (cI c 0)
def fB(c:CL):BL:=eN (if cB c 0=true then 1 else 0)
theorem fB_t{s:BL}{c:CL}(h:s=eN 1)(k:cB c 0=true):s=fB c:=by rw[h];unfold fB;rw[if_pos k]
theorem fB_f{s:BL}{c:CL}(h:s=eN 0)(k:¬cB c 0=true):s=fB c:=by rw[h];unfold fB;rw[if_neg k]
theorem aUq{f:CL->List UInt8}{l r:LX}{x:BL}(h:eV r=eV []++x):eV r=x++eF f (l.take (0:Int).toNat):=by rw[h];simp[eV,eF]
theorem aXq{l r r':LX}{t z:Int}{x:BL}{c:CL}(hU:eV r=x++eF fI (l.take t.toNat))(e:eV r'=eV r++eN z)(hz:z=zzI (cI c 0))(hc:elC l t=c)(h0:0<=t)(h1:t<((l.length:Nat):Int)):eV r'=x++eF fI (l.take (t+1).toNat):=by
 rw[e,hU,QA,<-oZ rfl rfl (show eN z=fI c by rw[hz];rfl) hc h0 h1]
theorem bBd{f:CL->List UInt8}{l r:LX}{t:Int}{w x:BL}(e:w=eV r)(hU:eV r=x++eF f (l.take t.toNat))(h:((l.length:Nat):Int)<=t):w=x++eF f l:=by
 rw[e,hU,List.take_of_length_le (by omega)]
end Go.AM
namespace Go.AM
open Go.RowKit
theorem Wr.mul{lo hi n m:Int}{K:Int->Prop}(h1:0<=n/\n<=1048576)(h2:0<=m/\m<=1048576)(h3:lo<=0/\1099511627776<=hi)(h:0<=n*m->n*m<=1099511627776->K (n*m)):Wr lo hi (n*m) K:=by
 have a:=Int.mul_nonneg h1.1 h2.1;have b:n*m<=1048576*1048576:=Int.mul_le_mul h1.2 h2.2 h2.1 (by omega);exact Wr.ex (by omega) (by omega) (h a (by omega))
theorem aAb{α:Type}{p:α->Bool}:∀{m:Nat} {r:List α},(∀k b,k<m->r[k]?=some b->p b=true)->m<=r.length->(∀b,r[m]?=some b->p b=false)->r.takeWhile p=r.take m/\r.dropWhile p=r.drop m
 |0,[],_,_,_=>by simp
 |0,b::r,_,_,h=>by
  have:=h b rfl;simp[List.takeWhile,List.dropWhile,this]
 |m+1,[],_,hl,_=>by simp at hl
 |m+1,b::r,ha,hl,h=>by
  have h0:=ha 0 b (by omega) rfl;have ih:=aAb (m:=m) (r:=r) (fun k c hk hc=>ha (k+1) c (by omega) (by simpa using hc)) (by simpa using hl) (fun c hc=>h c (by simpa using hc));simp only[List.takeWhile,List.dropWhile,h0,List.take_succ_cons,List.drop_succ_cons,ih.1,ih.2];exact⟨trivial,trivial⟩
def iZ{α:Type} [DecidableEq α](val:α->List UInt8):List α->List UInt8
 |[]=>[]
 |a::r=>eN (((r.takeWhile fun b=>decide (b=a)).length:Nat):Int)++val a++iZ val (r.dropWhile fun b=>decide (b=a))
termination_by l=>l.length
decreasing_by
 have:=(List.dropWhile_sublist (l:=r) fun b=>decide (b=a)).length_le;simp only[List.length_cons];omega
theorem aTi{α:Type} [DecidableEq α]{val:α->List UInt8}:iZ val []=[]:=by rw[iZ]
theorem aOy{α:Type} [DecidableEq α]{val:α->List UInt8}{l:List α}{i j:Nat}{a:α}(hi:l[i]?=some a)(ye:i<j)(hj:j<=l.length)(qv:∀k b,i<=k->k<j->l[k]?=some b->b=a)(xu:∀b,l[j]?=some b->b≠a):
 iZ val (l.drop i)=eN (((j - i - 1:Nat):Nat):Int)++val a++iZ val (l.drop j):=by
 have e:l.drop i=a::l.drop (i+1):=by
  obtain⟨h1,rfl⟩:=List.getElem?_eq_some_iff.1 hi;exact List.drop_eq_getElem_cons h1
 have hw:=aAb (p:=fun b=>decide (b=a)) (m:=j - i - 1) (r:=l.drop (i+1))
  (fun k b hk hb=>by
   rw[List.getElem?_drop] at hb;exact decide_eq_true (qv (i+1+k) b (by omega) (by omega) hb))
  (by rw[List.length_drop];omega)
  (fun b hb=>by
   rw[List.getElem?_drop,show i+1+(j - i - 1)=j by omega] at hb;exact decide_eq_false (xu b hb))
 rw[e,iZ,hw.1,hw.2,List.length_take,List.length_drop,List.drop_drop,show min (j - i - 1) (l.length - (i+1))=j - i - 1 by omega,show i+1+(j - i - 1)=j by omega]
def Same{α:Type}(m:CL->α)(l:LX)(i j:Int):Prop:=∀k:Int,i<=k->k<j->m (elC l k)=m (elC l i)
section
variable {α:Type}{m:CL->α}{l:LX}{i j:Int}
theorem Same.init:Same m l i (i+1):=fun k h1 h2=>by rw[show k=i by omega]
theorem Same.step(h:Same m l i j)(e:m (elC l j)=m (elC l i)):Same m l i (j+1):=fun k h1 h2=>by
 by_cases ek:k=j
 ·rw[ek];exact e
 ·exact h k h1 (by omega)
theorem aXj(h0:0<=i)(h1:i<((l.length:Nat):Int)):l[i.toNat]?=some (elC l i):=aLe rfl h0 h1
theorem aHc(h0:0<=i)(h1:i<((l.length:Nat):Int)):(l.map m)[i.toNat]?=some (m (elC l i)):=by rw[List.getElem?_map,aXj h0 h1];rfl
variable [DecidableEq α]{val:α->List UInt8}{U U1 U2 s1 x:BL}{R:LX}{t:Int}{f:CL->List UInt8}
theorem aCr{u0 u1 u2 s1 s2:BL}{a b:Int}(e2:u2=u1++s2)(k2:s2=eN b)(e1:u1=u0++s1)(k1:s1=eN a)(e0:u0=[]):u2++iZ val ((l.map m).drop (0:Int).toNat)=eN a++(eN b++iZ val (l.map m)):=by
 subst e0;rw[e2,e1,k1,k2];simp
theorem aKd(h:U++iZ val ((l.map m).drop i.toNat)=x)(hi:((l.length:Nat):Int)<=i){w:BL}(e:w=U):w=x:=by
 rw[List.drop_of_length_le (by rw[List.length_map];omega),aTi,List.append_nil] at h;rw[e,h]
theorem cO(h:U++iZ val ((l.map m).drop i.toNat)=x)(hs:Same m l i j)(h0:0<=i)(ye:i<j)(hj:j<=((l.length:Nat):Int))(xu:j<((l.length:Nat):Int)->m (elC l j)≠m (elC l i))(e1:U1=U++s1)(e2:s1=eN (j - i - 1))(e3:U2=U1++eF f (R.take t.toNat))(ht:((R.length:Nat):Int)<=t)(hR:eF f R=val (m (elC l i))):
 U2++iZ val ((l.map m).drop j.toNat)=x:=by
 rw[<-h,aOy (a:=m (elC l i)) (i:=i.toNat) (j:=j.toNat) (aHc h0 (by omega)) (by omega) (by rw[List.length_map];omega) (fun k b h1 h2 hb=>?_) (fun b hb=>?_),e3,List.take_of_length_le (by omega),hR,e1,e2]
 ·rw[show(((j.toNat - i.toNat - 1:Nat):Nat):Int)=j - i - 1 by omega];simp only[QA]
 ·have e:k=((k:Nat):Int).toNat:=rfl;rw[e,aHc (by omega) (by omega)] at hb;rw[<-Option.some.inj hb];exact hs _ (by omega) (by omega)
 ·have qj:j<((l.length:Nat):Int):=by
   have:=(List.getElem?_eq_some_iff.1 hb).1;rw[List.length_map] at this;omega
  rw[aHc (by omega) qj] at hb;rw[<-Option.some.inj hb];exact xu qj
end
def mI(c:CL):Int:=cI c 0
def pI(c:CL):Int×Int×Int×Int:=(cI c 0,cI c 1,cI c 2,cI c 3)
def vF(p:Int×Int×Int×Int):BL:=eN p.1++(eN p.2.1++(eN p.2.2.1++eN p.2.2.2))
def fN(c:CL):BL:=eN (cI c 0)
def U16(n:Int):Prop:=0<=n/\n<=65535
def SzOk(w h:Int)(l:LX):Prop:=(0<=w/\w<=256)/\(0<=h/\h<=256)/\(w=0↔h=0)/\((l.length:Nat):Int)=w*h
def okM(c:CL):Prop:=U16 (cI c 0)
def okP(c:CL):Prop:=U16 (cI c 0)/\U16 (cI c 1)/\U16 (cI c 2)/\U16 (cI c 3)
def MOk(w h:Int)(l:LX):Prop:=SzOk w h l/\AllB okM l ((l.length:Nat):Int)
def IOk(w h:Int)(l:LX):Prop:=SzOk w h l/\AllB okP l ((l.length:Nat):Int)
def wG(w h:Int)(l:LX):BL:=eN w++(eN h++iZ eN (l.map mI))
def aHq(w h:Int)(l:LX):BL:=eN w++(eN h++iZ vF (l.map pI))
theorem aEa{f:CL->List UInt8}{l:LX}{U:BL}(h:True):U=U++eF f (l.take (0:Int).toNat):=by simp[eF]
theorem hR_I{R:LX}{l:LX}{i:Int}{c:CL}(h:R=[[.v (.int .i64 (cI c 0))]])(hc:elC l i=c):eF fN R=eN (mI (elC l i)):=by
 subst hc;subst h;simp[eF,fN,mI,cI,cV]
theorem hR_P{R:LX}{l:LX}{i:Int}{c:CL}(h:R=[[.v (.int .i64 (cI c 0))],[.v (.int .i64 (cI c 1))],[.v (.int .i64 (cI c 2))],[.v (.int .i64 (cI c 3))]])(hc:elC l i=c):eF fN R=vF (pI (elC l i)):=by
 subst hc;subst h;simp[eF,fN,vF,pI,cI,cV]
theorem mI_eq{l:LX}{i j:Int}{c d:CL}(e:cI c 0=cI d 0)(hc:elC l j=c)(hd:elC l i=d):mI (elC l j)=mI (elC l i):=by rw[hc,hd];exact e
theorem mI_ne{l:LX}{i j:Int}{c d:CL}(e:¬cI c 0=cI d 0)(hc:elC l j=c)(hd:elC l i=d):mI (elC l j)≠mI (elC l i):=by rw[hc,hd];exact e
theorem pI_eq{l:LX}{i j:Int}{c d:CL}(e:EqX [.int .i64 (cI c 0),.int .i64 (cI c 1),.int .i64 (cI c 2),.int .i64 (cI c 3)] [.int .i64 (cI d 0),.int .i64 (cI d 1),.int .i64 (cI d 2),.int .i64 (cI d 3)])(hc:elC l j=c)(hd:elC l i=d):pI (elC l j)=pI (elC l i):=by
 have e:=e.h;simp only[qJ,and_true] at e;rw[hc,hd];simp only[pI,e.1,e.2.1,e.2.2.1,e.2.2.2]
theorem pI_ne{l:LX}{i j:Int}{c d:CL}(e:¬EqX [.int .i64 (cI c 0),.int .i64 (cI c 1),.int .i64 (cI c 2),.int .i64 (cI c 3)] [.int .i64 (cI d 0),.int .i64 (cI d 1),.int .i64 (cI d 2),.int .i64 (cI d 3)])(hc:elC l j=c)(hd:elC l i=d):pI (elC l j)≠pI (elC l i):=fun h=>by
 rw[hc,hd] at h;simp only[pI,Prod.mk.injEq] at h;exact e ⟨by simp only[qJ,and_true];exact h⟩
theorem aFj{l:LX}{n i:Int}{c:CL}(h:AllB okM l n)(h0:0<=i)(h1:i<n)(hc:elC l i=c):0<=cI c 0/\cI c 0<=65535:=by subst hc;exact h i h0 h1
theorem aRm{l:LX}{n i:Int}{c:CL}(h:AllB okP l n)(h0:0<=i)(h1:i<n)(hc:elC l i=c):(0<=cI c 0/\cI c 0<=65535)/\(0<=cI c 1/\cI c 1<=65535)/\(0<=cI c 2/\cI c 2<=65535)/\(0<=cI c 3/\cI c 3<=65535):=by subst hc;exact h i h0 h1
theorem okN_I{R:LX}{c:CL}{n:Int}(h:R=[[.v (.int .i64 (cI c 0))]])(hn:n=((R.length:Nat):Int))(k:0<=cI c 0/\cI c 0<=65535):AllB okM R n:=by
 subst h;subst hn;intro j h0 h1;have:j=0:=by simp at h1;omega
 subst this;exact k
theorem okN_P{R:LX}{c:CL}{n:Int}(h:R=[[.v (.int .i64 (cI c 0))],[.v (.int .i64 (cI c 1))],[.v (.int .i64 (cI c 2))],[.v (.int .i64 (cI c 3))]])(hn:n=((R.length:Nat):Int))(k:(0<=cI c 0/\cI c 0<=65535)/\(0<=cI c 1/\cI c 1<=65535)/\(0<=cI c 2/\cI c 2<=65535)/\(0<=cI c 3/\cI c 3<=65535)):AllB okM R n:=by
 subst h;subst hn;intro j h0 h1;have:j=0\/j=1\/j=2\/j=3:=by simp at h1;omega
 rcases this with e|e|e|e<;>subst e
 ·exact k.1
 ·exact k.2.1
 ·exact k.2.2.1
 ·exact k.2.2.2
theorem okU_M{l:LX}{i:Int}{c:CL}(hc:elC l i=c)(k:0<=cI c 0/\cI c 0<=65535):okM (elC l i):=by subst hc;exact k
theorem okU_P{l:LX}{i:Int}{c:CL}(hc:elC l i=c)(k:(0<=cI c 0/\cI c 0<=65535)/\(0<=cI c 1/\cI c 1<=65535)/\(0<=cI c 2/\cI c 2<=65535)/\(0<=cI c 3/\cI c 3<=65535)):okP (elC l i):=by subst hc;exact k
theorem EqX.no{xs ys:SL}(h:¬EqX xs ys):¬qJ xs ys:=fun e=>h ⟨e⟩
theorem SzOk.len{w h:Int}{l:LX}(k:SzOk w h l):((l.length:Nat):Int)<=65536:=by
 obtain⟨⟨a,b⟩,⟨c,d⟩,_,e⟩:=k;have:w*h<=256*256:=Int.mul_le_mul b d c (by omega);omega
theorem len64{l n m:Int}(h:l=n*m)(h1:0<=n/\n<=8)(h2:0<=m/\m<=8):l<=64:=by
 have:n*m<=8*8:=Int.mul_le_mul h1.2 h2.2 h2.1 (by omega);omega
end Go.AM
namespace Go.AM
open Go.RowKit
def eC(js:NL)(c:CL):BL:=js.flatMap fun j=>eI (cI c j)
def fS:CL->List UInt8:=eC [0,1,2,3,4]
def fG:CL->List UInt8:=eC [0,1,2,3,4,5,6]
def fP:CL->List UInt8:=eC [0,1]
theorem iT{s:BL}{l:LX}{c:CL}{js:NL}(h:s=eF fI l)(k:l=js.map fun j=>[.v (.int .i64 (cI c j))]):s=eC js c:=by
 rw[h,k];simp only[eF,eC,List.flatMap_map];rfl
theorem aOl{l l1 l2 l3 l4:LX}{t:Int}{U U1 U2 U3 U4 s1 s2 s3 s4 x:BL}{c:CL}(hU:U=x++eF fG (l.take t.toNat))(hc:elC l t=c)
 (e4:U4=U3++s4)(k4:s4=eF fI l4)(g4:l4=[5,6].map fun j=>[.v (.int .i64 (cI c j))])
 (e3:U3=U2++s3)(k3:s3=eF fI l3)(g3:l3=[3,4].map fun j=>[.v (.int .i64 (cI c j))])
 (e2:U2=U1++s2)(k2:s2=eF fI l2)(g2:l2=[1,2].map fun j=>[.v (.int .i64 (cI c j))])
 (e1:U1=U++s1)(k1:s1=eF fI l1)(g1:l1=[0].map fun j=>[.v (.int .i64 (cI c j))])(h0:0<=t)(h1:t<((l.length:Nat):Int)):U4=x++eF fG (l.take (t+1).toNat):=by
 refine kA (U':=U4) (s:=s1++(s2++(s3++s4))) hU (by rw[e4,e3,e2,e1];simp only[QA]) ?_ hc h0 h1;rw[iT k1 g1,iT k2 g2,iT k3 g3,iT k4 g4];simp[fG,eC]
def eSh(l m:LX):BL:=eN ((l.length:Nat):Int)++(eF fS l++(eN ((m.length:Nat):Int)++eF fG m))
theorem sh_of{l m:LX}{t t':Int}{w U U1 U2 U3 s1 s2 u0:BL}(e:w=U)(hU:U=U1++eF fG (m.take t'.toNat))(h':((m.length:Nat):Int)<=t')(e1:U1=U2++s2)(k2:s2=eN ((m.length:Nat):Int))(hU2:U2=U3++eF fS (l.take t.toNat))(h:((l.length:Nat):Int)<=t)(e3:U3=u0++s1)(k1:s1=eN ((l.length:Nat):Int))(e0:u0=[]):w=eSh l m:=by
 subst e0;rw[e,hU,e1,k2,hU2,e3,k1,List.take_of_length_le (by omega),List.take_of_length_le (by omega)];simp[eSh]
def eB(js:NL)(c:CL):BL:=js.flatMap fun j=>eN (if cB c j=true then 1 else 0)
theorem eB_of{s:BL}{l:LX}{c:CL}{js:NL}(h:s=eF fB l)(k:l=js.map fun j=>[.v (.bool (cB c j))]):s=eB js c:=by
 rw[h,k];simp only[eF,eB,List.flatMap_map];rfl
def NOk(c:CL):Prop:=((cS c 3).data.toList.length<=256/\(cR c 27).length<=16/\(cR c 29).length<=16/\(cR c 30).length<=128/\(cS c 35).data.toList.length<=256/\(cR c 42).length<=64)/\MOk (cI c 9) (cI c 10) (cR c 11)/\IOk (cI c 19) (cI c 20) (cR c 21)
def jZ(c:CL):BL:=eC [0,1,2] c++(eT (cS c 3).data.toList++(eB [4,5,6] c++(eC [7,8] c++(wG (cI c 9) (cI c 10) (cR c 11)++(eC [12,13,14,15,16,17,18] c++(aHq (cI c 19) (cI c 20) (cR c 21)++(eC [22,23,24,25,26] c++
 ((eN (((cR c 27).length:Nat):Int)++eF fI (cR c 27))++(eC [28] c++(eSh (cR c 29) (cR c 30)++(eC [31,32,33,34] c++(eT (cS c 35).data.toList++(eC [36,37,38,39,40,41] c++(eN (((cR c 42).length:Nat):Int)++eF fP (cR c 42)))))))))))))))
def kN:KL:=[.int .i64,.int .i64,.int .i64,.str,.bool,.bool,.bool,.int .i64,.int .i64,.int .i64,.int .i64,.row 8 [.int .i64],.int .i64,.int .i64,.int .i64,.int .i64,.int .i64,.int .i64,.int .i64,.int .i64,.int .i64,.row 32 [.int .i64,.int .i64,.int .i64,.int .i64],.int .i64,.int .i64,.int .i64,.int .i64,.int .i64,.row 8 [.int .i64],.int .i64,.row 40 [.int .i64,.int .i64,.int .i64,.int .i64,.int .i64],.row 56 [.int .i64,.int .i64,.int .i64,.int .i64,.int .i64,.int .i64,.int .i64],.int .i64,.int .i64,.int .i64,.int .i64,.str,.int .i64,.int .i64,.int .i64,.int .i64,.int .i64,.int .i64,.row 16 [.int .i64,.int .i64]]
theorem nI{ks:KL}{c:CL}{i:Nat}{k:IntKind}(h:ks[i]?=some (.int k)):cI ((bI ks c 0).map cSV) i=cI c i:=by
 have:=oV (c:=c) (j:=0) h;rw[Nat.zero_add] at this;simp only[cI,cV,List.getElem?_map,this,Option.map_some,kSV,cSV]
theorem nB{ks:KL}{c:CL}{i:Nat}(h:ks[i]?=some .bool):cB ((bI ks c 0).map cSV) i=cB c i:=by
 have:=oV (c:=c) (j:=0) h;rw[Nat.zero_add] at this;simp only[cB,cV,List.getElem?_map,this,Option.map_some,kSV,cSV]
theorem nS{ks:KL}{c:CL}{i:Nat}(h:ks[i]?=some .str):cS ((bI ks c 0).map cSV) i=cS c i:=by
 have:=oV (c:=c) (j:=0) h;rw[Nat.zero_add] at this;simp only[cS,cV,List.getElem?_map,this,Option.map_some,kSV,cSV]
theorem nR{ks q:KL}{b:Nat}{c:CL}{i:Nat}(h:ks[i]?=some (.row b q)):cR ((bI ks c 0).map cSV) i=cR c i:=by
 have:=oV (c:=c) (j:=0) h;rw[Nat.zero_add] at this;simp only[cR,List.getElem?_map,this,Option.map_some,kSV,cSV]
theorem aFf{c d:CL}:∀{js:NL},(∀j∈js,cI c j=cI d j)->eC js c=eC js d
 |[],_=>rfl
 |j::r,h=>by
  have ih:=aFf (js:=r) fun j hj=>h j (List.mem_cons_of_mem _ hj);simp only[eC,List.flatMap_cons,h j (List.mem_cons_self ..)] at ih ⊢;rw[ih]
theorem aGc{c d:CL}:∀{js:NL},(∀j∈js,cB c j=cB d j)->eB js c=eB js d
 |[],_=>rfl
 |j::r,h=>by
  have ih:=aGc (js:=r) fun j hj=>h j (List.mem_cons_of_mem _ hj);simp only[eB,List.flatMap_cons,h j (List.mem_cons_self ..)] at ih ⊢;rw[ih]
theorem aEw{ks:KL}{c:CL}{js:NL}(h:(js.all fun j=>match ks[j]? with|some (.int _)=>true|_=>false)=true):eC js ((bI ks c 0).map cSV)=eC js c:=aFf fun j hj=>by
 have:=List.all_eq_true.1 h j hj;split at this
 ·rename_i k hk;exact nI hk
 ·cases this
theorem eB_n{ks:KL}{c:CL}{js:NL}(h:(js.all fun j=>match ks[j]? with|some .bool=>true|_=>false)=true):eB js ((bI ks c 0).map cSV)=eB js c:=aGc fun j hj=>by
 have:=List.all_eq_true.1 h j hj;split at this
 ·rename_i hk;exact nB hk
 ·cases this
theorem eNode_n{c:CL}:jZ ((bI kN c 0).map cSV)=jZ c:=by
 unfold jZ;rw[aEw (ks:=kN) (js:=[0,1,2]) rfl,aEw (ks:=kN) (js:=[7,8]) rfl,aEw (ks:=kN) (js:=[12,13,14,15,16,17,18]) rfl,aEw (ks:=kN) (js:=[22,23,24,25,26]) rfl,aEw (ks:=kN) (js:=[28]) rfl,aEw (ks:=kN) (js:=[31,32,33,34]) rfl,aEw (ks:=kN) (js:=[36,37,38,39,40,41]) rfl,eB_n (ks:=kN) (js:=[4,5,6]) rfl,nS (ks:=kN) (i:=3) rfl,nS (ks:=kN) (i:=35) rfl,nI (ks:=kN) (i:=9) (k:=.i64) rfl,nI (ks:=kN) (i:=10) (k:=.i64) rfl,nI (ks:=kN) (i:=19) (k:=.i64) rfl,nI (ks:=kN) (i:=20) (k:=.i64) rfl,nR (ks:=kN) (i:=11) (b:=8) (q:=[.int .i64]) rfl,nR (ks:=kN) (i:=21) (b:=32) (q:=[.int .i64,.int .i64,.int .i64,.int .i64]) rfl,nR (ks:=kN) (i:=27) (b:=8) (q:=[.int .i64]) rfl,nR (ks:=kN) (i:=29) (b:=40) (q:=[.int .i64,.int .i64,.int .i64,.int .i64,.int .i64]) rfl,nR (ks:=kN) (i:=30) (b:=56) (q:=[.int .i64,.int .i64,.int .i64,.int .i64,.int .i64,.int .i64,.int .i64]) rfl,nR (ks:=kN) (i:=42) (b:=16) (q:=[.int .i64,.int .i64]) rfl]
theorem aLh{c:CL}:NOk ((bI kN c 0).map cSV)↔NOk c:=by
 unfold NOk;rw[nS (ks:=kN) (i:=3) rfl,nS (ks:=kN) (i:=35) rfl,nI (ks:=kN) (i:=9) (k:=.i64) rfl,nI (ks:=kN) (i:=10) (k:=.i64) rfl,nI (ks:=kN) (i:=19) (k:=.i64) rfl,nI (ks:=kN) (i:=20) (k:=.i64) rfl,nR (ks:=kN) (i:=11) (b:=8) (q:=[.int .i64]) rfl,nR (ks:=kN) (i:=21) (b:=32) (q:=[.int .i64,.int .i64,.int .i64,.int .i64]) rfl,nR (ks:=kN) (i:=27) (b:=8) (q:=[.int .i64]) rfl,nR (ks:=kN) (i:=29) (b:=40) (q:=[.int .i64,.int .i64,.int .i64,.int .i64,.int .i64]) rfl,nR (ks:=kN) (i:=30) (b:=56) (q:=[.int .i64,.int .i64,.int .i64,.int .i64,.int .i64,.int .i64,.int .i64]) rfl,nR (ks:=kN) (i:=42) (b:=16) (q:=[.int .i64,.int .i64]) rfl]
theorem aYi{c:CL}{t:Int}{w U U0 U1 U2 U3 U4 U5 U6 U7 U8 U9 U10 U11 U12 U13 U14 U15 s1 s2 s3 s4 s5 s6 s7 s8 s9 s10 s11 s12 s13 s14 s15:BL}{l1 l3 l4 l6 l8 l10 l12 l14:LX}(hN:NOk c)(e:w=U)(hU:U=U15++eF fP ((cR c 42).take t.toNat))(ht:(((cR c 42).length:Nat):Int)<=t)(e15:U15=U14++s15)(k15:s15=eN (((cR c 42).length:Nat):Int))(e14:U14=U13++s14)(k14:s14=eF fI l14)(g14:l14=[36,37,38,39,40,41].map fun j=>[.v (.int .i64 (cI c j))])(e13:U13=U12++s13)(k13:s13=eT (cS c 35).data.toList)(e12:U12=U11++s12)(k12:s12=eF fI l12)(g12:l12=[31,32,33,34].map fun j=>[.v (.int .i64 (cI c j))])(e11:U11=U10++s11)(k11:s11=eSh (cR c 29) (cR c 30))(e10:U10=U9++s10)(k10:s10=eF fI l10)(g10:l10=[28].map fun j=>[.v (.int .i64 (cI c j))])(e9:U9=U8++s9)(k9:s9=eN (((cR c 27).length:Nat):Int)++eF fI (cR c 27))(e8:U8=U7++s8)(k8:s8=eF fI l8)(g8:l8=[22,23,24,25,26].map fun j=>[.v (.int .i64 (cI c j))])(e7:U7=U6++s7)(k7:IOk (cI c 19) (cI c 20) (cR c 21)->s7=aHq (cI c 19) (cI c 20) (cR c 21))(e6:U6=U5++s6)(k6:s6=eF fI l6)(g6:l6=[12,13,14,15,16,17,18].map fun j=>[.v (.int .i64 (cI c j))])(e5:U5=U4++s5)(k5:MOk (cI c 9) (cI c 10) (cR c 11)->s5=wG (cI c 9) (cI c 10) (cR c 11))(e4:U4=U3++s4)(k4:s4=eF fI l4)(g4:l4=[7,8].map fun j=>[.v (.int .i64 (cI c j))])(e3:U3=U2++s3)(k3:s3=eF fB l3)(g3:l3=[4,5,6].map fun j=>[.v (.bool (cB c j))])(e2:U2=U1++s2)(k2:s2=eT (cS c 3).data.toList)(e1:U1=U0++s1)(k1:s1=eF fI l1)(g1:l1=[0,1,2].map fun j=>[.v (.int .i64 (cI c j))])(e0:U0=[]):w=jZ c:=by
 subst e0;rw[e,hU,List.take_of_length_le (show(cR c 42).length<=t.toNat by omega),e15,k15,e14,iT k14 g14,e13,k13,e12,iT k12 g12,e11,k11,e10,iT k10 g10,e9,k9,e8,iT k8 g8,e7,k7 hN.2.2,e6,iT k6 g6,e5,k5 hN.2.1,e4,iT k4 g4,e3,eB_of k3 g3,e2,k2,e1,iT k1 g1];simp only[jZ,List.nil_append,QA]
def kM:KL:=[.str,.str]
def kL:KL:=[.int .i64,.str,.int .i64,.int .i64,.int .i64,.int .i64,.row 32 [.int .i64,.int .i64,.int .i64,.int .i64]]
def kD:KL:=[.int .i64,.int .i64,.int .i64,.row 440 kN,.int .i64,.int .i64,.int .i64,.row 8 [.int .i64],.row 32 kM,.row 80 kL]
def aIb(c:CL):Prop:=(cS c 0).data.toList.length<=32/\(cS c 1).data.toList.length<=256
def LOk(c:CL):Prop:=(cS c 1).data.toList.length<=32/\IOk (cI c 4) (cI c 5) (cR c 6)
def DOk(c:CL):Prop:=((cR c 3).length<=64/\(cR c 8).length<=16/\(cR c 9).length<=8)/\AllB NOk (cR c 3) (((cR c 3).length:Nat):Int)/\MOk (cI c 5) (cI c 6) (cR c 7)/\AllB aIb (cR c 8) (((cR c 8).length:Nat):Int)/\AllB LOk (cR c 9) (((cR c 9).length:Nat):Int)
def fMt(c:CL):BL:=eT (cS c 0).data.toList++eT (cS c 1).data.toList
def fLk(c:CL):BL:=eC [0] c++(eT (cS c 1).data.toList++(eC [2,3] c++aHq (cI c 4) (cI c 5) (cR c 6)))
def kU(c:CL):BL:=eC [0,1,2,4] c++(eN (((cR c 3).length:Nat):Int)++(eF jZ (cR c 3)++(wG (cI c 5) (cI c 6) (cR c 7)++(eN (((cR c 8).length:Nat):Int)++(eF fMt (cR c 8)++(eN (((cR c 9).length:Nat):Int)++eF fLk (cR c 9)))))))
theorem AllB.el{f:CL->Prop}{l:LX}{i n:Int}{c:CL}(hc:elC l i=c)(h:AllB f l n)(h0:0<=i)(h1:i<n):f c:=by subst hc;exact h i h0 h1
theorem eDoc_n{c:CL}:kU ((bI kD c 0).map cSV)=kU c:=by
 unfold kU;rw[aEw (ks:=kD) (js:=[0,1,2,4]) rfl,nI (ks:=kD) (i:=5) (k:=.i64) rfl,nI (ks:=kD) (i:=6) (k:=.i64) rfl,nR (ks:=kD) (i:=3) (b:=440) (q:=kN) rfl,nR (ks:=kD) (i:=7) (b:=8) (q:=[.int .i64]) rfl,nR (ks:=kD) (i:=8) (b:=32) (q:=kM) rfl,nR (ks:=kD) (i:=9) (b:=80) (q:=kL) rfl]
theorem bBc{c:CL}:DOk ((bI kD c 0).map cSV)↔DOk c:=by
 unfold DOk;rw[nI (ks:=kD) (i:=5) (k:=.i64) rfl,nI (ks:=kD) (i:=6) (k:=.i64) rfl,nR (ks:=kD) (i:=3) (b:=440) (q:=kN) rfl,nR (ks:=kD) (i:=7) (b:=8) (q:=[.int .i64]) rfl,nR (ks:=kD) (i:=8) (b:=32) (q:=kM) rfl,nR (ks:=kD) (i:=9) (b:=80) (q:=kL) rfl]
theorem bCc{c:CL}{t3 t6 t8:Int}{w U0 U1 U2 U3 U4 U5 U6 U7 U8 s1 s2 s4 s5 s7:BL}{l1:LX}(hN:DOk c)(e:w=U8)(e8:U8=U7++eF fLk ((cR c 9).take t8.toNat))(h8:(((cR c 9).length:Nat):Int)<=t8)(e7:U7=U6++s7)(k7:s7=eN (((cR c 9).length:Nat):Int))(e6:U6=U5++eF fMt ((cR c 8).take t6.toNat))(h6:(((cR c 8).length:Nat):Int)<=t6)(e5:U5=U4++s5)(k5:s5=eN (((cR c 8).length:Nat):Int))(e4:U4=U3++s4)(k4:MOk (cI c 5) (cI c 6) (cR c 7)->s4=wG (cI c 5) (cI c 6) (cR c 7))(e3:U3=U2++eF jZ ((cR c 3).take t3.toNat))(h3:(((cR c 3).length:Nat):Int)<=t3)(e2:U2=U1++s2)(k2:s2=eN (((cR c 3).length:Nat):Int))(e1:U1=U0++s1)(k1:s1=eF fI l1)(g1:l1=[0,1,2,4].map fun j=>[.v (.int .i64 (cI c j))])(e0:U0=[]):w=kU c:=by
 subst e0;rw[e,e8,List.take_of_length_le (show(cR c 9).length<=t8.toNat by omega),e7,k7,e6,List.take_of_length_le (show(cR c 8).length<=t6.toNat by omega),e5,k5,e4,k4 hN.2.2.1,e3,List.take_of_length_le (show(cR c 3).length<=t3.toNat by omega),e2,k2,e1,iT k1 g1];simp only[kU,List.nil_append,QA]
theorem aOh{l:LX}{t:Int}{U U1 U2 s1 s2 x:BL}{c:CL}(hU:U=x++eF fMt (l.take t.toNat))(hc:elC l t=c)(e2:U2=U1++s2)(k2:s2=eT (cS c 1).data.toList)(e1:U1=U++s1)(k1:s1=eT (cS c 0).data.toList)(h0:0<=t)(h1:t<((l.length:Nat):Int)):U2=x++eF fMt (l.take (t+1).toNat):=
 kA (U':=U2) (s:=s1++s2) hU (by rw[e2,e1,QA]) (by rw[k1,k2];rfl) hc h0 h1
theorem aNl{l l1 l3:LX}{t:Int}{U U1 U2 U3 U4 s1 s2 s3 s4 x:BL}{c:CL}(hU:U=x++eF fLk (l.take t.toNat))(hc:elC l t=c)(hL:LOk c)(e4:U4=U3++s4)(k4:IOk (cI c 4) (cI c 5) (cR c 6)->s4=aHq (cI c 4) (cI c 5) (cR c 6))(e3:U3=U2++s3)(k3:s3=eF fI l3)(g3:l3=[2,3].map fun j=>[.v (.int .i64 (cI c j))])
 (e2:U2=U1++s2)(k2:s2=eT (cS c 1).data.toList)(e1:U1=U++s1)(k1:s1=eF fI l1)(g1:l1=[0].map fun j=>[.v (.int .i64 (cI c j))])(h0:0<=t)(h1:t<((l.length:Nat):Int)):U4=x++eF fLk (l.take (t+1).toNat):=
 kA (U':=U4) (s:=s1++(s2++(s3++s4))) hU (by rw[e4,e3,e2,e1];simp only[QA]) (by rw[iT k1 g1,iT k3 g3,k2,k4 hL.2];rfl) hc h0 h1
theorem aXg{w h:Int}{l:LX}(h1:w=0)(h2:h=0)(h3:((l.length:Nat):Int)=0):IOk w h l:=by
 subst h1;subst h2;exact⟨⟨by omega,by omega,by omega,by omega⟩,fun j a b=>by omega⟩
theorem bDl{y k w h:Int}{l:LX}(h1:y=0->k=2->IOk w h l)(hy:y=0)(h2:k≠2->w=0/\h=0/\((l.length:Nat):Int)=0):IOk w h l:=by
 by_cases e:k=2
 ·exact h1 hy e
 ·obtain⟨a,b,c⟩:=h2 e;exact aXg a b c
theorem nd_ok{c d:CL}{x y:Int}(al:x=0->(((cS c 3).data.toList.length:Nat):Int)<=32/\MOk (cI c 9) (cI c 10) (cR c 11))(hx:x=0)
 (h10:y=0->cI c 1=2->IOk (cI c 19) (cI c 20) (cR c 21))
 (q2:y=0->(cI c 1=4->(((cR c 27).length:Nat):Int)<=16/\(((cR c 29).length:Nat):Int)<=16)/\(cI c 1=5->(((cR c 30).length:Nat):Int)<=128)/\(cI c 1=6->(((cS c 35).data.toList.length:Nat):Int)<=128)/\(cI c 1=7->(((cR c 27).length:Nat):Int)<=16/\(((cR c 29).length:Nat):Int)<=16)/\(cI c 1=8->(((cR c 27).length:Nat):Int)<=16)/\(cI c 1=11->(((cR c 42).length:Nat):Int)<=64))
 (hy:y=0)
 (h9:cI c 1≠2->cI d 19=cI c 19/\cI d 20=cI c 20/\(((cR d 21).length:Nat):Int)=(((cR c 21).length:Nat):Int))
 (h8:cI c 1≠4/\cI c 1≠7/\cI c 1≠8->(((cR d 27).length:Nat):Int)=(cR c 27).length)
 (h7:cI c 1≠4/\cI c 1≠7->(((cR d 29).length:Nat):Int)=(cR c 29).length)
 (h6:cI c 1≠5->(((cR d 30).length:Nat):Int)=(cR c 30).length)
 (h5:cI c 1≠6->(((cS d 35).data.toList.length:Nat):Int)=(cS c 35).data.toList.length)
 (h4:cI c 1≠11->(((cR d 42).length:Nat):Int)=(cR c 42).length)
 (a1:cI d 19=0)(a2:cI d 20=0)(a3:(((cR d 21).length:Nat):Int)=0)(a4:(((cR d 27).length:Nat):Int)=0)(a5:(((cR d 29).length:Nat):Int)=0)(a6:(((cR d 30).length:Nat):Int)=0/\(((cS d 35).data.toList.length:Nat):Int)=0/\(((cR d 42).length:Nat):Int)=0)
 :NOk c:=by
  obtain⟨qa,qb⟩:=al hx;have q2:=q2 hy;refine⟨⟨by omega,?_,?_,by omega,by omega,by omega⟩,qb,bDl h10 hy fun hk=>?_⟩
  ·by_cases e4:cI c 1=4
   ·have:=q2.1 e4;omega
   ·by_cases e7:cI c 1=7
    ·have:=q2.2.2.2.1 e7;omega
    ·by_cases e8:cI c 1=8
     ·have:=q2.2.2.2.2.1 e8;omega
     ·have:=h8 ⟨e4,e7,e8⟩;omega
  ·by_cases e4:cI c 1=4
   ·have:=q2.1 e4;omega
   ·by_cases e7:cI c 1=7
    ·have:=q2.2.2.2.1 e7;omega
    ·have:=h7 ⟨e4,e7⟩;omega
  ·have:=h9 hk;omega
theorem mt_ok{l:LX}{i z:Int}{c:CL}(hc:elC l i=c)(h:z=0->(((cS c 0).data.toList.length:Nat):Int)<=32/\(((cS c 1).data.toList.length:Nat):Int)<=256)(hz:z=0):aIb (elC l i):=by
 subst hc;have:=h hz;exact⟨by omega,by omega⟩
theorem lk_ok{l:LX}{i z:Int}{c:CL}(hc:elC l i=c)(hn:(((cS c 1).data.toList.length:Nat):Int)<=32)(h:z=0->IOk (cI c 4) (cI c 5) (cR c 6))(hz:z=0):LOk (elC l i):=by
 subst hc;exact⟨by omega,h hz⟩
end Go.AM
namespace Go.AM
open Go.RowKit
def oRd(i:Nat)(hp:HP)(K:Bool->ByteArray->Int->Int->Prop):Prop:=match hget i hp with
 |some (.box _ [.bool m,.str s,.int _ a,.int _ e])=>K m s a e
 |_=>False
def gRd(k:Nat)(fr:FR)(hp:HP)(K:Bool->ByteArray->Int->Int->Prop):Prop:=match nF k fr hp with
 |some (.ptr i _)=>oRd i hp K
 |_=>False
def RdB(T:BA)(a:Int)(bs:BL):Prop:=T.data.toList.drop a.toNat=bs
structure RdOk (T:BA) (a:Int):Prop where
 h0:0<=a
 h1:a<=((T.data.toList.length:Nat):Int)
 h2:((T.data.toList.length:Nat):Int)<=1099511627776
def UJ(T:BA)(a0 a n i:Int):Prop:=∀(v:Int) (rest:BL),0<=v->v<=18446744073709551615->RdB T a0 (eN v++rest)->∃w,0<=w/\RdB T a (eN w++rest)/\v=n+w*128^i.toNat/\(0<i->0<w)
def UP(T:BA)(a0 e0 r a e:Int):Prop:=∀(v:Int) (rest:BL),0<=v->v<=18446744073709551615->RdB T a0 (eN v++rest)->e0=0->r=v/\RdB T a rest/\e=0
def nBd(n i:Int):Prop:=n.toNat<128^i.toNat
theorem nBd_0:nBd 0 0:=by unfold nBd;decide
theorem UJ.init{T:BA}{a:Int}:UJ T a a 0 0:=fun v rest h0 h1 h=>⟨v,h0,h,by simp,fun h=>absurd h (by omega)⟩
theorem aCz{T:BA}{a:Int}{b:UInt8}{l:BL}(h:RdB T a (b::l))(h0:0<=a):a<((T.data.toList.length:Nat):Int)/\sBt T a=((b.toNat:Nat):Int)/\RdB T (a+1) l:=by
 unfold RdB at h ⊢;have hk:a.toNat<T.data.toList.length:=by
  rcases Nat.lt_or_ge a.toNat T.data.toList.length with h1|h1
  ·exact h1
  ·rw[List.drop_of_length_le h1] at h;cases h
 rw[List.drop_eq_getElem_cons hk] at h;injection h with h1 h2
 refine⟨by omega,?_,?_⟩
 ·unfold sBt;rw[List.getElem?_eq_getElem hk,h1];rfl
 ·rw[show(a+1).toNat=a.toNat+1 by omega];exact h2
theorem aKi{T:BA}{a w:Int}{rest:BL}(h:RdB T a (eN w++rest))(h0:0<=a)(hw:0<=w)(hl:w<128):sBt T a=w/\RdB T (a+1) rest:=by
 unfold eN at h;rw[aLm (by omega)] at h;obtain⟨_,h1,h2⟩:=aCz h h0;refine⟨?_,h2⟩;rw[h1,UInt8.toNat_ofNat'];omega
theorem aVa{T:BA}{a w:Int}{rest:BL}(h:RdB T a (eN w++rest))(h0:0<=a)(hl:128<=w):sBt T a=w%128+128/\RdB T (a+1) (eN (w / 128)++rest):=by
 unfold eN at h ⊢;rw[aLi (by omega)] at h;obtain⟨_,h1,h2⟩:=aCz h h0;refine⟨?_,?_⟩
 ·rw[h1,UInt8.toNat_ofNat'];omega
 ·rw[show(w / 128).toNat=w.toNat / 128 by omega];exact h2
theorem rd_in{T:BA}{a w:Int}{rest:BL}(h:RdB T a (eN w++rest))(h0:0<=a):a<((T.data.toList.length:Nat):Int):=by
 unfold eN at h;rcases hx:eU w.toNat with _|⟨b,l⟩
 ·exact absurd hx (bBv _)
 ·rw[hx] at h;exact(aCz h h0).1
section
variable {T:BA}{a0 a n i r a' e0 e' c:Int}
theorem UP.not(h:¬e0=0):UP T a0 e0 r a' e':=fun v rest _ _ _ k=>absurd k h
theorem UP.short(h:UJ T a0 a n i)(h0:0<=a)(hl:((T.data.toList.length:Nat):Int)<=a):UP T a0 e0 r a' e':=fun v rest v0 v1 hr _=>by
 obtain⟨w,w0,w1,_⟩:=h v rest v0 v1 hr;have:=rd_in w1 h0;omega
theorem pow9:(128:Int)^(9:Int).toNat=9223372036854775808:=rfl
theorem UP.err1(h:UJ T a0 a n i)(h0:0<=a)(hn:0<=n)(hi:i=9)(hc:c=sBt T a)(h1:1<c):UP T a0 e0 r a' e':=fun v rest v0 v1 hr _=>by
 obtain⟨w,w0,w1,w2,_⟩:=h v rest v0 v1 hr;subst hi;rw[pow9] at w2;obtain⟨k,_⟩:=aKi w1 h0 w0 (by omega);omega
theorem UP.err0(h:UJ T a0 a n i)(h0:0<=a)(hi:0<i)(hc:c=sBt T a)(h1:c=0):UP T a0 e0 r a' e':=fun v rest v0 v1 hr _=>by
 obtain⟨w,w0,w1,w2,w3⟩:=h v rest v0 v1 hr;have:=w3 hi;rcases Int.lt_or_le w 128 with hw|hw
 ·obtain⟨k,_⟩:=aKi w1 h0 w0 hw;omega
 ·obtain⟨k,_⟩:=aVa w1 h0 hw;omega
theorem aFs{z y n':Int}(ra:n'=((n.toNat ||| y.toNat:Nat):Int))(hy:y=z*2^(7*i).toNat%18446744073709551616)(hz:z=((c.toNat &&& (127:Int).toNat:Nat):Int))(hb:nBd n i)(hn:0<=n)(i0:0<=i)(i9:i<=9)(c0:0<=c)(c1:c<=255)(h9:i=9->c<=1):
 n'=n+(c%128)*128^i.toNat/\nBd n' (i+1):=by
 obtain⟨k,rfl⟩:=Int.eq_ofNat_of_zero_le i0;obtain⟨m,rfl⟩:=Int.eq_ofNat_of_zero_le hn;obtain⟨b,rfl⟩:=Int.eq_ofNat_of_zero_le c0;have e1:b &&& 127=b%128:=Nat.and_two_pow_sub_one_eq_mod b 7;have xy:z=((b%128:Nat):Int):=by rw[hz];show(((b &&& 127:Nat):Nat):Int)=_;rw[e1]
 have e2:(7*((k:Nat):Int)).toNat=7*k:=by omega
 have e3:2^(7*k)=128^k:=by rw[Nat.pow_mul]
 have xx:m<128^k:=hb;have qj:b%128*128^k<18446744073709551616:=by
  rcases Nat.lt_or_ge k 9 with hk|hk
  ·have:128^k<=128^8:=Nat.pow_le_pow_right (by omega) (by omega);have:=Nat.mul_le_mul (show b%128<=127 by omega) this;have p8:(128:Nat)^8=72057594037927936:=rfl;rw[p8] at this;omega
  ·have hk9:k=9:=by omega
   subst hk9;have:=h9 rfl;have uw:b%128<=1:=by omega
   have:=Nat.mul_le_mul uw (Nat.le_refl (128^9));have p9:(128:Nat)^9=9223372036854775808:=rfl;rw[p9] at this ⊢;omega
 have hy':y=((b%128*128^k:Nat):Int):=by
  rw[hy,xy,e2];have e4:((b%128:Nat):Int)*2^(7*k)=((b%128*128^k:Nat):Int):=by
   rw[<-e3];simp
  rw[e4,Int.emod_eq_of_lt (Int.natCast_nonneg _) (by omega)]
 have e5:m ||| b%128*128^k=128^k*(b%128)+m:=by
  have:=Nat.two_pow_add_eq_or_of_lt (i:=7*k) (b:=m) (by rw[e3];exact xx) (b%128);rw[e3] at this;rw[this,Nat.or_comm,Nat.mul_comm]
 have e6:n'=((128^k*(b%128)+m:Nat):Int):=by
  rw[ra,hy'];show(((m ||| (b%128*128^k):Nat):Nat):Int)=_;rw[e5]
 refine⟨?_,?_⟩
 ·rw[e6];have:(((k:Nat):Int)).toNat=k:=rfl;rw[this];have e7:(((b:Nat):Int)%128)=((b%128:Nat):Int):=by omega
  rw[e7];simp[Int.mul_comm,Int.add_comm]
 ·unfold nBd;rw[e6,show(((k:Nat):Int)+1).toNat=k+1 by omega,Int.toNat_natCast,Nat.pow_succ];have:=Nat.mul_le_mul (Nat.le_refl (128^k)) (show b%128<=127 by omega);omega
theorem UJ.step(h:UJ T a0 a n i)(h0:0<=a)(i0:0<=i)(hc:c=sBt T a)(h1:¬c<128){n':Int}(hn:n'=n+(c%128)*128^i.toNat):UJ T a0 (a+1) n' (i+1):=fun v rest v0 v1 hr=>by
 obtain⟨w,w0,w1,w2,w3⟩:=h v rest v0 v1 hr;have hw:128<=w:=by
  rcases Int.lt_or_le w 128 with hw|hw
  ·obtain⟨k,_⟩:=aKi w1 h0 w0 hw;omega
  ·exact hw
 obtain⟨k1,k2⟩:=aVa w1 h0 hw;refine⟨w / 128,by omega,k2,?_,fun _=>by omega⟩;have e1:c%128=w%128:=by omega
 rw[hn,w2,e1,show(i+1).toNat=i.toNat+1 by omega,Int.pow_succ];generalize (128:Int)^i.toNat=p;have e2:w=128*(w / 128)+w%128:=by omega
 have e3:w*p=(128*(w / 128)+w%128)*p:=by rw[<-e2]
 rw[e3,Int.add_mul,Int.add_assoc,Int.add_comm (128*(w / 128)*p)];congr 2;rw[Int.mul_assoc,Int.mul_comm p 128,Int.mul_left_comm]
theorem UP.done(h:UJ T a0 a n i)(h0:0<=a)(i0:0<=i)(hc:c=sBt T a)(h1:c<128){n':Int}(hn:n'=n+(c%128)*128^i.toNat)(he:e'=0):UP T a0 e0 n' (a+1) e':=fun v rest v0 v1 hr _=>by
 obtain⟨w,w0,w1,w2,w3⟩:=h v rest v0 v1 hr;have hw:w<128:=by
  rcases Int.lt_or_le w 128 with hw|hw
  ·exact hw
  ·obtain⟨k,_⟩:=aVa w1 h0 hw;omega
 obtain⟨k1,k2⟩:=aKi w1 h0 w0 hw;refine⟨?_,k2,he⟩;rw[hn,w2,show c%128=w by omega]
end
def IP(T:BA)(a0 e0 r a e:Int):Prop:=∀(n:Int) (rest:BL),-9223372036854775808<=n->n<=9223372036854775807->RdB T a0 (eI n++rest)->e0=0->r=n/\RdB T a rest/\e=0
def CP(T:BA)(m a0 e0 r a e:Int):Prop:=∀(n:Int) (rest:BL),0<=n->n<=m->RdB T a0 (eN n++rest)->e0=0->r=n/\RdB T a rest/\e=0
def TP(T:BA)(m a0 e0:Int)(w:BL)(a e:Int):Prop:=∀(s rest:BL),((s.length:Nat):Int)<=m->RdB T a0 (eT s++rest)->e0=0->w=s/\RdB T a rest/\e=0
section
variable {T:BA}{a0 a n u x r m a' e0 e' z:Int}
theorem IP.odd(h:UP T a0 e0 u a e')(hu:0<=u)(hz:z=u%2)(h1:z=1)(hx:x=u / 2)(hr:r= -1 - x):IP T a0 e0 r a e':=fun n rest n0 n1 hd he=>by
 have e:zzI n=if n<0 then -(2*n) - 1 else 2*n:=rfl
 obtain⟨k1,k2,k3⟩:=h (zzI n) rest (by rw[e];split<;>omega) (by rw[e];split<;>omega) hd he;refine⟨?_,k2,k3⟩;rw[e] at k1;split at k1<;>omega
theorem IP.even(h:UP T a0 e0 u a e')(hu:0<=u)(hz:z=u%2)(h1:¬z=1)(hr:r=u / 2):IP T a0 e0 r a e':=fun n rest n0 n1 hd he=>by
 have e:zzI n=if n<0 then -(2*n) - 1 else 2*n:=rfl
 obtain⟨k1,k2,k3⟩:=h (zzI n) rest (by rw[e];split<;>omega) (by rw[e];split<;>omega) hd he;refine⟨?_,k2,k3⟩;rw[e] at k1;split at k1<;>omega
theorem CP.err(h:UP T a0 e0 u a e')(hm:m<=9223372036854775807)(h1:¬e'=0):CP T m a0 e0 r a e':=fun n rest n0 n1 hd he=>absurd (h n rest n0 (by omega) hd he).2.2 h1
theorem CP.big(h:UP T a0 e0 u a z)(hm:m<=9223372036854775807)(h1:m<u):CP T m a0 e0 r a e':=fun n rest n0 n1 hd he=>by
 have:=(h n rest n0 (by omega) hd he).1;omega
theorem CP.ok(h:UP T a0 e0 u a e')(hm:m<=9223372036854775807)(hr:r=u):CP T m a0 e0 r a e':=fun n rest n0 n1 hd he=>by
 obtain⟨k1,k2,k3⟩:=h n rest n0 (by omega) hd he;exact⟨by omega,k2,k3⟩
theorem TP.err{w:BL}(h:CP T m a0 e0 u a e')(h1:¬e'=0):TP T m a0 e0 w a e':=fun s rest hs hd he=>by
 rw[eT,QA] at hd;exact absurd (h _ _ (by omega) hs hd he).2.2 h1
theorem bFf{l rest:BL}(h:RdB T a (l++rest))(h0:0<=a)(h1:a<=((T.data.toList.length:Nat):Int)):a+((l.length:Nat):Int)<=((T.data.toList.length:Nat):Int):=by
 have:=congrArg List.length h;rw[List.length_drop,List.length_append] at this;omega
theorem TP.short{w:BL}(h:CP T m a0 e0 u a z)(h0:0<=a)(h2:a<=((T.data.toList.length:Nat):Int))(h1:((T.data.toList.length:Nat):Int) - a<u):TP T m a0 e0 w a' e':=fun s rest hs hd he=>by
 rw[eT,QA] at hd;obtain⟨k1,k2,_⟩:=h _ _ (by omega) hs hd he;have:=bFf k2 h0 h2;omega
theorem TP.ok{w:BL}(h:CP T m a0 e0 u a e')(h0:0<=a)(hu:0<=u)(hw:w=(T.data.toList.take (a+u).toNat).drop a.toNat):TP T m a0 e0 w (a+u) e':=fun s rest hs hd he=>by
 rw[eT,QA] at hd;obtain⟨k1,k2,k3⟩:=h _ _ (by omega) hs hd he;have e1:(a+u).toNat=a.toNat+s.length:=by omega
 unfold RdB at k2 ⊢;refine⟨?_,?_,k3⟩
 ·rw[hw,e1,List.drop_take,k2,show a.toNat+s.length - a.toNat=s.length by omega,List.take_left'];rfl
 ·rw[e1,<-List.drop_drop,k2,List.drop_left'];rfl
end
end Go.AM
