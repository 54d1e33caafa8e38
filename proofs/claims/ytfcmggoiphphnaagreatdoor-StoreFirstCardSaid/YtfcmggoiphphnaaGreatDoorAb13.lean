/-
  An abstract machine that runs a program of the given form, and its soundness, part 13.
-/
import Derived.Test.YtfcmggoiphphnaaGreatDoorAb12
set_option linter.unusedVariables false
set_option linter.unusedSimpArgs false
set_option linter.unusedSectionVars false
noncomputable section
namespace Go.AM
open Go.RowKit
variable [σ:Sg]
section
variable {P:PG}(E:Env P)(T:TTb)(C:CTb)(tb:TBs)
def aUx(n:Nat)(AN:List (Nat×Ann))(DR:DRs)(fx:NL)(l:List Code):WC:=List.rec (motive:=fun _=>WC) (fun fs hp nx K=>K .normal fs hp nx) (fun c _ ih=>aEb (wpC E T C tb n AN DR fx c) ih) l
theorem aOu{n:Nat}{AN:List (Nat×Ann)}{DR:DRs}{fx:NL}{c:Code}{l:List Code}:aUx E T C tb n AN DR fx (c::l)=aEb (wpC E T C tb n AN DR fx c) (aUx E T C tb n AN DR fx l):=rfl
def bBr:NL->List SV->FR
 |[],_=>[]
 |_::_,[]=>[]
 |k::r,c::q=>(k,c)::bBr r q
def aIg:NL->List Value->List (Nat×Value)
 |[],_=>[]
 |_::_,[]=>[]
 |k::r,c::q=>(k,c)::aIg r q
def aNf:FR->List SV
 |[]=>[]
 |(_,v)::r=>v::aNf r
def wYl(n:Nat)(AN:List (Nat×Ann))(DR:DRs)(p:Nat)(asg bd:Code)(ks:NL)(us:VL)(N idv:Nat):Nat->IW:=fun M fe ss hp nx K=>Ag (M=N) (match ss with
 |[s]=>(match hget idv hp with
  |some (.oth (.vals us' cs))=>Ag (us'=us) (cond (Nat.ble (p+1) n) (rG (fe++fxW [] hp) fun fx=>aEb (wpC E T C tb n AN DR fx asg) (wpC E T C tb n AN DR fx bd) ((p,s)::bBr ks cs) hp nx fun e _ hp nx=>(match e with
   |.normal=>K fx (.bool true) hp nx
   |_=>(Bad 201))) (Bad 202))
  |_=>(Bad 203))
 |_=>(Bad 204))
def cYl(W:Nat->IW):Ctr:=⟨[],[],fun _=>True,fun _ _=>True,0,some (.yld W)⟩
def bBe(n:Nat)(AN:List (Nat×Ann))(DR:DRs)(rs:List ResultVar)(post:List Code)(ks:NL)(us:VL)(idv:Nat)(rsi:List ResultVar)(fx:NL)(K:NL->SV->HP->Nat->Prop)(fs:FR)(hp:HP)(nx:Nat):Prop:=
 sM T fs hp rsi fun _=>(match hget idv hp with
  |some (.oth (.vals us' cs))=>Ag (us'=us) (lR idv hp fun hp=>aUx E T C tb n AN DR fx post (bBr ks cs) hp nx (bDi T rs fx K))
  |_=>(Bad 221))
def wRF(n:Nat)(AN:List (Nat×Ann))(DR:DRs)(rs:List ResultVar)(z:Operand)(p:Nat)(asg bd:Code)(post:List Code)(ks:NL)(gi ni:Nat)(ANi:List (Nat×Ann))(DRi:DRs)(rsi:List ResultVar)(bi:Code)(fx:NL)(K:NL->SV->HP->Nat->Prop)(fs:FR)(hp:HP)(nx:Nat):Prop:=
 wop fs z fun v=>(match v with
  |.fn gj caps=>cond (Nat.beq gj gi) (cond (Nat.ble (fV caps+1) ni) (cond (hasBox hp) (pkF fs ks fun f0=>∀(us:VL) (N:Nat),
   oE (nx+1) fun nx1=>wpC E T ((1000000,cYl (wYl E T C tb n AN DR p asg bd ks us N nx))::C) tb ni ANi DRi fx bi (ent (.yl N::caps) 0 []) ((nx,.oth (.vals us (aNf f0)))::hp) nx1 fun e fs2 ze nx2=>(match e with
    |.normal=>bBe E T C tb n AN DR rs post ks us nx rsi fx K fs2 ze nx2
    |.ret=>bBe E T C tb n AN DR rs post ks us nx rsi fx K fs2 ze nx2
    |_=>(Bad 241))) (Bad 242)) (Bad 243)) (Bad 244)
  |_=>(Bad 245))
where hasBox:HP->Bool
 |[]=>false
 |(_,.box _ _)::_=>true
 |_::r=>hasBox r
def aUz(n:Nat)(AN:List (Nat×Ann))(DR:DRs)(rs:List ResultVar)(pre:List Code)(z:Operand)(p:Nat)(asg bd:Code)(post:List Code)(ks:NL)(gi ni:Nat)(ANi:List (Nat×Ann))(DRi:DRs)(rsi:List ResultVar)(bi:Code):IW:=fun fe ss hp nx K=>
 cond (Nat.ble (fV ss) n) (rG (fe++fxW ss hp) fun fx=>aUx E T C tb n AN DR fx pre (ent ss 0 []) hp nx fun e fs hp nx=>(match e with
  |.normal=>wRF E T C tb n AN DR rs z p asg bd post ks gi ni ANi DRi rsi bi fx K fs hp nx
  |_=>(Bad 261))) (Bad 262)
end
section
variable {P:PG}{E:Env P}{T:TTb}{C:CTb}{tb:TBs}{n:Nat}{AN:List (Nat×Ann)}{DR:DRs}{fx:NL}{S He:AH}{A0 Ae:NQ}{L0:OL}{ρe:RM}
theorem aCd [γ:Gam](hm:P.follows .mixedOrders=true)(hT:dA E T)(hC:AllC E tb C)(qz:TbG S.w0 tb):∀(c:List Code) {fs:FR} {hp:HP} {nx:Nat} {k:Exit->FR->HP->Nat->Prop} {K:AQ} {ρ:RM} {PS:PSs} {A:NQ} {H:AH} {l:LV} {t:Tr Value},
 aUx E T C tb n AN DR fx c fs hp nx k->KOK E n fx S A0 L0 ρe Ae He K k->Den E ρ nx fs hp PS A H l->FxR fx ρe ρ->Gr Ae He A H->∀H',HS S H A0 A (flt PS++L0) H'->XLs P c K (fr n t l) H'
 |[],fs,hp,nx,k,K,ρ,PS,A,H,l,t,h,hK,hD,hx,hg,H',hH=>hK _ _ _ _ h _ _ _ _ _ _ hD hx hg H' hH
 |c::r,fs,hp,nx,k,K,ρ,PS,A,H,l,t,h,hK,hD,hx,hg,H',hH=>by
  rw[aOu] at h;unfold aEb at h;refine fL hm hT hC qz c h (K:=fun e f H=>(e=.normal/\XLs P r K f H)\/(e≠.normal/\K e f H)) ?_ hD hx hg H' hH;intro e fs' qc nx' q ρ' PS' A' H'' l' t' qo zc za H3 r8;cases e with
  |normal=>exact .inl ⟨rfl,aCd hm hT hC qz r q hK qo zc za H3 r8⟩
  |exit i=>exact .inr ⟨by simp,hK _ _ _ _ q _ _ _ _ _ _ qo zc za H3 r8⟩
  |goto i=>exact .inr ⟨by simp,hK _ _ _ _ q _ _ _ _ _ _ qo zc za H3 r8⟩
  |ret=>exact .inr ⟨by simp,hK _ _ _ _ q _ _ _ _ _ _ qo zc za H3 r8⟩
  |panic i=>exact .inr ⟨by simp,hK _ _ _ _ q _ _ _ _ _ _ qo zc za H3 r8⟩
  |outgrown=>exact .inr ⟨by simp,hK _ _ _ _ q _ _ _ _ _ _ qo zc za H3 r8⟩
theorem aCy{ρ:RM}{A:NQ}{H:AH}:∀{ks:NL} {cs:SL} {us:VL},Reps ρ A H cs us->RepF ρ A H (bBr ks cs) (aIg ks us)
 |[],_,_,_=>rfl
 |_::_,[],[],_=>rfl
 |k::r,c::q,u::v,h=>by simp only[Reps] at h;exact⟨u,aIg r v,rfl,h.1,aCy h.2⟩
 |_::_,[],_::_,h=>by simp only[Reps] at h
 |_::_,_::_,[],h=>by simp only[Reps] at h
theorem pkFK{ρ:RM}{A:NQ}{H:AH}{fs:FR}{l:LV}(hF:RepF ρ A H fs l):∀{ks:NL} {K:FR->Prop},pkF fs ks K->∃f0 us,K f0/\Reps ρ A H (aNf f0) us/\Picks l (aIg ks us)
 |[],K,h=>⟨[],[],h,by simp only[aNf,Reps],.nil⟩
 |k::r,K,h=>by
  simp only[aFx] at h;split at h
  ·rename_i v hv;obtain⟨u,h1,h2⟩:=hF.get hv;obtain⟨f0,us,k1,k2,k3⟩:=pkFK hF h;exact⟨_,u::us,k1,by grind [aNf,Reps],.cons h1 k3⟩
  ·exact h.elim
theorem aAt{n p:Nat}{t:Tr Value}{l:LV}{v:Value}{k:Nat}:bX (fr n t ((p,v)::l)) k=cond (Nat.beq p k) v (bX (fr n t l) k):=by
 grind [qW,AM.look,Nat.beq]
theorem yw_of(hm:P.follows .mixedOrders=true)(hT:dA E T)(hC:AllC E tb C){p:Nat}{asg bd:Code}{ks:NL}{us:VL}{N n0 idv:Nat}{t1:Tr Value}{l1:LV}(zx:Picks l1 (aIg ks us)):bBz (γ:=aVy n0 p asg bd (fr n t1 l1) N) E tb (wYl E T C tb n AN DR p asg bd ks us N idv):=by
 intro fe S H0 A0 A L0 ρ PS ss vs hp nx M K qz yh zp hr hh h H hH;unfold wYl at h;obtain⟨hMN,h⟩:=h;subst hMN;split at h
 ·rename_i s;split at h
  ·rename_i us' cs hg;obtain⟨bz,h⟩:=h;subst bz;cases en:Nat.ble (p+1) n with
   |false=>rw[en] at h;exact h.elim
   |true=>
    rw[en,QT] at h;have h:=gV h;obtain⟨v,rfl,hv⟩:∃v,vs=[v]/\Rep ρ A H0 s v:=by
     cases vs with
     |nil=>simp only[Reps] at hr
     |cons v r=>
      cases r with
      |nil=>simp only[Reps] at hr;simp_all
      |cons _ _=>grind [Reps]
    obtain⟨La,X,Y,qq,⟨x,c1,c2,c3⟩,_⟩:=hh.get hg;unfold aEb at h
    have key:=fL (γ:=allG) (S:=S) (A0:=A0) (L0:=L0) (ρe:=ρ) (Ae:=A) (He:=H0) (ρ:=ρ) (PS:=PS) (A:=A) (H:=H0) (l:=(p,v)::aIg ks us') (t:=(fr n t1 l1).tr)
     (K:=fun e g K1=>e=.normal/\XC P bd (fun e2 g2 K2=>e2=.normal/\∃H1 A1 ρ' PS' fx s qc nx',Gr A H0 A1 H1/\HS S H1 A0 A1 (flt PS'++L0) K2/\K fx s qc nx'/\FxR fx ρ ρ'/\(∀i,nx'<=i->ρ' i=none)/\(∀i v,ρ' i=some v->v.oneCell'=true)/\RepH E ρ' A1 H1 qc PS'/\Rep ρ' A1 H1 s (.bool true)) g K1) hm hT hC ⟨qz.1,fun e=>by cases e⟩ asg h ?_ ⟨yh,zp,⟨v,_,rfl,hv,aCy c3⟩,hh⟩ (fun i _ v hv=>hv) (Gr.refl _ _) H hH
    ·obtain⟨e1,g1,K1,⟨rfl,hb⟩,s1⟩:=key;obtain⟨e2,g2,K2,⟨rfl,ju⟩,s2⟩:=hb;refine⟨.bool true,K2,ju,s2.1.trans s1.1,fun o c z f ho hc hz qj=>?_⟩;obtain⟨x,hx1,rl⟩:∃x,c.args.toList=[x]/\aK f x=v:=by
      simp_all
     have zj:H.w0=S.w0:=hH.kept.w0;have s1':pF (γ:=allG) P asg .normal g1 K1 (fr n t1 ((p,v)::l1)) H:=by
      refine⟨s1.1,ACode.congr (γ:=allG) (by rw[aBw,aBw]) (fun k=>?_) s1.2⟩;rw[aAt,aAt];cases Nat.beq p k with
      |true=>rfl
      |false=>exact zx.frame n t1 k
     exact AYield.round ho hc hz hx1 rl (mM (QL en) t1 l1 v) (by rw[zj];exact qz.2 rfl) s1' s2
    ·intro e fs' qc nx' q ρ' PS' A' H' l' t' qo zc za H3 r8;cases e with
     |normal=>
      refine⟨rfl,?_⟩;refine fL (γ:=allG) (S:=S) (A0:=A0) (L0:=L0) (ρe:=ρ) (Ae:=A) (He:=H0) hm hT hC ⟨qz.1,fun e=>by cases e⟩ bd q ?_ qo zc za H3 r8;intro e fs2 ze nx2 q2 ρ2 PS2 A2 H2 l2 t2 yr rl wb H4 cf;cases e with
      |normal=>exact⟨rfl,H2,A2,ρ2,PS2,_,_,ze,nx2,wb,cf,q2,rl,yr.no,yr.one,yr.hp,by simp only[Rep]⟩
      |exit i=>exact q2.elim
      |goto i=>exact q2.elim
      |ret=>exact q2.elim
      |panic i=>exact q2.elim
      |outgrown=>exact q2.elim
     |exit i=>exact q.elim
     |goto i=>exact q.elim
     |ret=>exact q.elim
     |panic i=>exact q.elim
     |outgrown=>exact q.elim
  ·exact h.elim
 ·exact h.elim
theorem sZ{ρ:RM}{A:NQ}{H H':AH}:∀{hp:HP} {PS:PSs},wRF.hasBox hp=true->RepH E ρ A H hp PS->(∀p∈flt PS,H'.tr.get p.1=some p.2)->∃i0 o0,H'.tr.get i0=some o0
 |[],PS,h,_,_=>by cases h
 |(i,.box t cs)::r,PS,_,⟨La,PS',h1,⟨N,vs,e1,e2,e3⟩,h3⟩,hk=>by
  subst h1;subst e2;exact⟨_,_,hk _ (List.mem_append_left _ (List.mem_cons_self ..))⟩
 |(i,.row b ks l)::r,PS,h,⟨La,PS',h1,h2,h3⟩,hk=>by
  subst h1;exact sZ (hp:=r) h h3 fun p hp=>hk p (List.mem_append_right _ hp)
 |(i,.oth o)::r,PS,h,⟨La,PS',h1,h2,h3⟩,hk=>by
  subst h1;exact sZ (hp:=r) h h3 fun p hp=>hk p (List.mem_append_right _ hp)
theorem bFg(hm:P.follows .mixedOrders=true)(hT:dA E T)(hC:AllC E tb C){g:FuncId}{rs:List ResultVar}{body:Code}(hg:E.fn g=some ⟨n,rs,body⟩){pre post:List Code}{c0:Code}{i:Nat}{z:Operand}{p:Nat}{asg bd:Code}(hb:pcs body=pre++(.block i (.rangeFunc z #[p] asg bd)::c0::post))
 {gi ni:Nat}{rsi:List ResultVar}{bi:Code}(jq:E.fn gi=some ⟨ni,rsi,bi⟩){ks:NL}{ANi:List (Nat×Ann)}{DRi:DRs}:bW E tb g (aUz E T C tb n AN DR rs pre z p asg bd (c0::post) ks gi ni ANi DRi rsi bi):=by
 intro fe S H0 A0 A L0 ρ PS ss vs hp nx K qz yh zp hr hh h H hH;unfold aUz at h;cases en:Nat.ble (fV ss) n with
 |false=>rw[en] at h;exact h.elim
 |true=>
  rw[en,QT] at h;have h:=gV h;generalize fe++fxW ss hp=fx0 at h;obtain⟨RR,br⟩:∃RR:Value->AH->Prop,RR=fun u H'=>∃H1 A1 ρ' PS' fx s qc nx',Gr A H0 A1 H1/\HS S H1 A0 A1 (flt PS'++L0) H'/\K fx s qc nx'/\FxR fx ρ ρ'/\(∀i,nx'<=i->ρ' i=none)/\(∀i v,ρ' i=some v->v.oneCell'=true)/\RepH E ρ' A1 H1 qc PS'/\Rep ρ' A1 H1 s u:=⟨_,rfl⟩
  suffices tl:XCall P g vs H RR by simp_all
  have qe:vs.length<=n:=by rw[hr.len,<-dQ];simp_all
  refine XCall.range E hg hb ?_;rw[lY qe];refine aCd (γ:=yZ) (ρe:=ρ) (Ae:=A) (He:=H0) hm hT (hC.gam yZ) ⟨qz,fun e=>by cases e⟩ pre h ?_ ⟨yh,zp,tF hr rfl,hh⟩ (fun i _ v hv=>hv) (Gr.refl _ _) H hH;intro e fs hp nx q ρ1 PS1 A' H' l t hD hx za H1 b7;cases e with
  |normal=>
   refine⟨rfl,?_⟩;unfold wRF at q;obtain⟨sz,uz,z1,z2,q1⟩:=aR hD.fr q;clear q;split at q1
   ·rename_i gj caps;cases eg:Nat.beq gj gi with
    |false=>rw[eg] at q1;exact q1.elim
    |true=>
     rw[eg,QT] at q1;have:=QN eg;subst this;cases el:Nat.ble (fV caps+1) ni with
     |false=>rw[el] at q1;exact q1.elim
     |true=>
      rw[el,QT] at q1;cases ebx:wRF.hasBox hp with
      |false=>rw[ebx] at q1;exact q1.elim
      |true=>
       rw[ebx,QT] at q1;simp only[Rep] at z2;obtain⟨vc,rfl,o8⟩:=z2;obtain⟨f0,us,q3,u1,u2⟩:=pkFK hD.fr q1;have q4:=fD (q3 us H1.nx);refine⟨gj,vc,_,aG z1,jq,sZ ebx hD.hp (fun p hp=>(b7.own p (List.mem_append_left _ hp)).1),?_⟩;have jv:(Value.func (.yield (2*H1.nx+1)) ⟨[]⟩ ⟨[]⟩::vc).length<=ni:=by
        have:=QL el;rw[List.length_cons,o8.len,<-dQ];exact this
       rw[lY jv];have zk:=hD.push (x:=.bool true) (o:=.oth (.vals us (aNf f0))) (La:=[]) rfl (fun qf hr=>⟨_,hr,rfl,Reps.mono qf (Gr.refl _ _) u1⟩);have qf:=fH (x:=.bool true) (hD.no nx (Nat.le_refl _));have hry:Reps (lO ρ1 nx (.bool true)) A' H' (.yl H1.nx::caps) (Value.func (.yield (2*H1.nx+1)) ⟨[]⟩ ⟨[]⟩::vc):=by
        simp only[Reps,Rep];exact⟨trivial,Reps.mono qf (Gr.refl _ _) o8⟩
       have hS1:HS S H' A0 A' (flt ((nx,[])::PS1)++L0) {H1 with nx:=H1.nx+1}:=b7.later ⟨rfl,Nat.le_succ _,fun _ _=>rfl⟩;have zi:S.w0.toWorld.heap.size=H1.w0.heap.size:=by rw[b7.kept.w0]
       refine fL (γ:=aVy H1.w0.heap.size p asg bd (fr n t l) H1.nx) (ρe:=ρ) (Ae:=A) (He:=H0) hm hT (AllC.yld rfl (yw_of hm hT hC u2) (hC.gam _)) ⟨qz,fun _=>zi⟩ bi q4 ?_ ⟨zk.no,zk.one,tF hry rfl,zk.hp⟩ (hx.le qf) za _ hS1;intro e2 fs2 ze nx2 q2 ρ2 PS2 A2 H2 l2 t2 yr rl wb K2 ml;have main:∀q:bBe E T C tb n AN DR rs (c0::post) ks us nx rsi fx0 K fs2 ze nx2,(∃us,bS E (fr ni t2 l2) K2 rsi=some us)/\XLs (γ:=yZ) P (c0::post) (uE E rs RR) (fr n t l) K2:=by
        intro q;unfold bBe at q;obtain⟨ss',us',k1,k2,k3⟩:=kY (S:=S) (A0:=A0) (L0:=L0) hT yr q;refine⟨⟨us',k3.ok ml⟩,?_⟩;split at k1
        ·rename_i us'' cs hgv;obtain⟨bz,k1⟩:=k1;subst bz;obtain⟨La,X,Y,qq,⟨x,c1,c2,c3⟩,_,_,xc⟩:=yr.hp.get hgv;obtain⟨bm,k1,ay⟩:=xc _ k1;subst c2;have ff:HS S H2 A0 A2 (flt (X++Y)++L0) K2:=by
          grind [bN,flt]
         have:=aCd (γ:=yZ) (ρe:=ρ) (Ae:=A) (He:=H0) (l:=aIg ks us'') (t:=(fr n t l).tr) (K:=uE E rs RR) hm hT (hC.gam yZ) ⟨qz,fun e=>by cases e⟩ (c0::post) k1 ?_ ⟨yr.no,yr.one,aCy c3,ay⟩ rl wb K2 ff
         ·exact XC.congr (γ:=yZ) (by rw[aBw,aBw]) (u2.frame n t) this
         ·intro e fs4 b8 nx4 q4 ρ4 PS4 A4 H4 l4 t4 fg lm hg4;have fin:∀{fx:NL},FxR fx ρ ρ4->∀q:sM T fs4 b8 rs fun vs=>K fx (oB vs) b8 nx4,∀K',HS S H4 A0 A4 (flt PS4++L0) K'->∃us,bS E (fr n t4 l4) K' rs=some us/\RR (bG us) K':=by
           rw[br];intro fx hx q K' hK;obtain⟨ss',us,k1,k2,k3⟩:=kY (S:=S) (A0:=A0) (L0:=L0) hT fg q;exact⟨us,k3.ok hK,H4,A4,ρ4,PS4,_,_,b8,nx4,hg4,hK,k1,hx,fg.no,fg.one,fg.hp,rB k2⟩
          cases e with
          |normal=>
           intro K' hK;obtain⟨us,a,b⟩:=fin lm q4 K' hK;exact⟨.inl rfl,us,a,b⟩
          |ret=>
           intro K' hK;obtain⟨us,a,b⟩:=fin lm q4 K' hK;exact⟨.inr rfl,us,a,b⟩
          |exit i=>exact q4.elim
          |goto i=>exact q4.elim
          |panic i=>exact q4.elim
          |outgrown=>exact q4.elim
        ·exact k1.elim
       cases e2 with
       |normal=>simp_all
       |ret=>simp_all
       |exit i=>exact q2.elim
       |goto i=>exact q2.elim
       |panic i=>exact q2.elim
       |outgrown=>exact q2.elim
   ·exact q1.elim
  |exit i=>exact q.elim
  |goto i=>exact q.elim
  |ret=>exact q.elim
  |panic i=>exact q.elim
  |outgrown=>exact q.elim
def aXz:List Code->Option (List Code×Nat×Operand×Nat×Code×Code×Code×List Code)
 |.block i (.rangeFunc z ps asg bd)::c0::r=>(match ps with
  |⟨[p]⟩=>some ([],i,z,p,asg,bd,c0,r)
  |_=>none)
 |c::r=>(match aXz r with
  |some (pre,q)=>some (c::pre,q)
  |none=>none)
 |[]=>none
theorem aMo:∀{l:List Code} {pre post:List Code} {i p:Nat} {z:Operand} {asg bd c0:Code},aXz l=some (pre,i,z,p,asg,bd,c0,post)->l=pre++(.block i (.rangeFunc z #[p] asg bd)::c0::post)
 |[],_,_,_,_,_,_,_,_,h=>by cases h
 |c::r,pre,post,i,p,z,asg,bd,c0,h=>by
  unfold aXz at h;split at h
  ·grind
  ·rename_i e;cases e;split at h
   ·rename_i hq;cases h;rw[aMo hq];rfl
   ·cases h
  ·rename_i e;cases e
def aIu(E:Env P)(T:TTb)(C:CTb)(tb:TBs)(AN:List (Nat×Ann))(DR:DRs)(F:Func)(ks:NL)(gi:Nat)(ANi:List (Nat×Ann))(DRi:DRs)(Fi:Func):IW:=match F.body,Fi.body with
 |some c,some ci=>(match aXz (pcs c) with
  |some (pre,_,z,p,asg,bd,c0,post)=>aUz E T C tb F.ntmps AN DR F.results.toList pre z p asg bd (c0::post) ks gi Fi.ntmps ANi DRi Fi.results.toList ci
  |none=>fun _ _ _ _ _=>False)
 |_,_=>fun _ _ _ _ _=>False
theorem bBh(hm:P.follows .mixedOrders=true)(hT:dA E T)(hC:AllC E tb C){g gi:FuncId}{F Fi:Func}{ks:NL}{ANi:List (Nat×Ann)}{DRi:DRs}(hg:∀c,F.body=some c->E.fn g=some ⟨F.ntmps,F.results.toList,c⟩)(jq:∀c,Fi.body=some c->E.fn gi=some ⟨Fi.ntmps,Fi.results.toList,c⟩):bW E tb g (aIu E T C tb AN DR F ks gi ANi DRi Fi):=by
 unfold aIu;split
 ·rename_i c ci hb hbi;split
  ·rename_i hs;exact bFg hm hT hC (hg c hb) (aMo hs) (jq ci hbi)
  ·intro fe S H0 A0 A L0 ρ PS ss vs hp nx K qz yh zp hr hh h;exact h.elim
 ·intro fe S H0 A0 A L0 ρ PS ss vs hp nx K qz yh zp hr hh h;exact h.elim
end
end Go.AM
namespace Go.AM
open Go.RowKit
variable [σ:Sg]
def cSl(c:CL):Int:=(((cS c 0).data.toList.length:Nat):Int)
def gBR(k j:Nat)(fr:FR)(hp:HP)(K:LX->Prop):Prop:=match aVm k j fr hp with
 |some (.row _ _ m)=>K m
 |some (.nil)=>K []
 |some (.ow i)=>(match hget i hp with
  |some (.row _ _ l)=>K l
  |some (.oth (.wk _ _ l))=>K l
  |some (.oth (.ho _ _ l _ _))=>K l
  |_=>False)
 |_=>False
theorem aCm{x y:CL}{s:BA}:cSl (List.take 0 x++(List.map cSV [SV.str s]++y))=((s.data.toList.length:Nat):Int):=rfl
theorem bCe{s:BA}:cSl (List.map cSV [SV.str s])=((s.data.toList.length:Nat):Int):=rfl
theorem cI_hd{k:IntKind}{z:Int}{r:SL}:cI (List.map cSV (SV.int k z::r)) 0=z:=rfl
theorem aQs{k:IntKind}{z:Int}:cI (List.map cSV [SV.int k z]) 0=z:=rfl
theorem aXy{l:LX}{i:Int}{c:CL}(h0:0<=i)(h:i<((l.length:Nat):Int)):elC (l.set i.toNat c) i=c:=by
 grind [elC,List.getElem?_set_self]
theorem aIa{l:LX}{i j:Int}{c:CL}(h0:0<=i)(h1:0<=j)(h:i≠j):elC (l.set i.toNat c) j=elC l j:=by
 grind [elC,List.getElem?_set_ne]
theorem AllB.set{f:CL->Prop}{l:LX}{i:Int}{c:CL}(h:AllB f l i)(h0:0<=i)(hl:i<((l.length:Nat):Int))(hc:f c):AllB f (l.set i.toNat c) (i+1):=fun j a b=>by
 by_cases e:j=i
 ·grind [aXy]
 ·rw[aIa h0 a (fun q=>e q.symm)];exact h j a (by omega)
theorem AllB.take{f:CL->Prop}{l:LX}{i:Int}{n:Nat}(h:AllB f l i)(hn:i<=((n:Nat):Int)):AllB f (l.take n) i:=fun j a b=>by
 have:=h j a b
 grind [elC,List.getElem?_take_of_lt]
theorem AllB.drop{f:CL->Prop}{l:LX}{i k:Int}{n:Nat}(h:AllB f l i)(hn:k+((n:Nat):Int)<=i):AllB f (l.drop n) k:=fun j a b=>by
 have:=h (j+n) (by omega) (by omega)
 grind [elC]
theorem AllB.app{f:CL->Prop}{l:LX}{c:CL}(h:AllB f l ((l.length:Nat):Int))(hc:f c):AllB f (l++[c]) (((l++[c]).length:Nat):Int):=fun j a b=>by
 rw[List.length_append] at b;simp only[List.length_cons,List.length_nil] at b;unfold elC;by_cases e:j.toNat<l.length
 ·rw[List.getElem?_append_left e];exact h j a (by omega)
 simp_all
theorem AllB.elt{f:CL->Prop}{l:LX}{n j:Int}{c:CL}(h:elC l j=c)(k:AllB f l n)(a:0<=j)(b:j<n):f c:=h▸k j a b
theorem AllB.dropE{f:CL->Prop}{l l':LX}{i n:Int}(h:l'=List.drop n.toNat l)(k:AllB f l i)(h0:0<=n)(e:((l'.length:Nat):Int)+n<=i):AllB f l' ((l'.length:Nat):Int):=by
 grind [AllB.drop]
theorem AllB.nil{f:CL->Prop}:AllB f [] 0:=fun j a b=>absurd b (by omega)
structure PlaceOk (R:LX) (M:Int->Option CL) (i:Int):Prop where
 at':∀id c,M id=some c->1<=id/\0<=cI c 0/\cI c 0<i/\cI (elC R (cI c 0)) 0=id
 has:∀j,0<=j->j<i->∃c,M (cI (elC R j) 0)=some c/\cI c 0=j
 par:∀j,0<=j->j<i->cI (elC R j) 2=0\/∃c,M (cI (elC R j) 2)=some c/\cI c 0<j
def aXv(M:Int->Option CL)(z:Int):Prop:=∃c,M z=some c
section
variable {R:LX}{M:Int->Option CL}{i n z:Int}{c:CL}
theorem PlaceOk.zero:PlaceOk R (fun _=>none) 0:=⟨(fun _ _ h=>by cases h),fun j a b=>absurd b (by omega),fun j a b=>absurd b (by omega)⟩
theorem PlaceOk.last(h:PlaceOk R M i)(k:1<=i):cI (elC R (i - 1)) 0=0\/aXv M (cI (elC R (i - 1)) 0):=by
 obtain⟨c,h1,_⟩:=h.has (i - 1) (by omega) (by omega);exact .inr ⟨c,h1⟩
theorem PlaceOk.next(h:PlaceOk R M i)(k:M z=some c):cI (elC R (cI c 0)) 2=0\/aXv M (cI (elC R (cI c 0)) 2):=by
 obtain⟨_,h1,h2,_⟩:=h.at' _ _ k;rcases h.par _ h1 h2 with e|⟨d,e,_⟩
 ·exact .inl e
 ·exact .inr ⟨d,e⟩
theorem PlaceOk.mu(h:PlaceOk R M i)(k:M z=some c):muM M (cI (elC R (cI c 0)) 2)<muM M z/\0<muM M z:=by
 obtain⟨_,h1,h2,_⟩:=h.at' _ _ k;have e1:muM M z=cI c 0+1:=by unfold muM;rw[k]
 rw[e1];rcases h.par _ h1 h2 with e|⟨d,e,e2⟩
 ·rw[e];have:muM M 0=0:=by
   unfold muM;cases e3:M 0 with
   |none=>rfl
   |some d=>have:=(h.at' _ _ e3).1;omega
  omega
 grind [muM,cI,elC]
theorem PlaceOk.step(h:PlaceOk R M i)(h0:0<=i)(hn:M (cI (elC R i) 0)=none)(h1:1<=cI (elC R i) 0)(hp:cI (elC R i) 2=0\/aXv M (cI (elC R i) 2))(hc:cI c 0=i):PlaceOk R (xI M (cI (elC R i) 0) c) (i+1):=by
 have other:∀{z:Int} {d:CL},M z=some d->xI M (cI (elC R i) 0) c z=some d:=fun {z d} e=>by
  unfold xI;grind
 refine⟨fun id d e=>?_,fun j a b=>?_,fun j a b=>?_⟩
 ·unfold xI at e;by_cases q:id=cI (elC R i) 0
  ·grind
  ·rw[if_neg q] at e;have:=h.at' _ _ e;omega
 ·by_cases q:j=i
  ·subst q;exact⟨c,by unfold xI;rw[if_pos rfl],hc⟩
  ·obtain⟨d,e1,e2⟩:=h.has j a (by omega)
   simp_all
 ·by_cases q:j=i
  ·subst q;rcases hp with e|⟨d,e⟩
   ·exact .inl e
   ·exact .inr ⟨d,other e,(h.at' _ _ e).2.2.1⟩
  ·rcases h.par j a (by omega) with e|⟨d,e,e2⟩
   ·exact .inl e
   simp_all
end
theorem AllB.appE{f:CL->Prop}{l l' c':LX}{c:CL}(h:l'=l++c')(h2:c'=[c])(k:AllB f l ((l.length:Nat):Int))(hc:f c):AllB f l' ((l'.length:Nat):Int):=by
 grind [AllB.app]
theorem AllB.one{f:CL->Prop}{c:CL}(hc:f c):AllB f [c] ((([c]:LX).length:Nat):Int):=AllB.app (l:=[]) AllB.nil hc
theorem bAz{l:LX}:((uD l:Nat):Int)<=((l.length:Nat):Int):=Int.ofNat_le.2 List.countP_le_length
theorem bCa{l:LX}{n:Int}(h:((l.length:Nat):Int)<n):((uD l:Nat):Int)<n:=Int.lt_of_le_of_lt bAz h
theorem aOt{l l':LX}{j:Int}{c c0:CL}(h:l'=l.set j.toNat c)(h0:0<=j)(h1:j<((l.length:Nat):Int))(he:elC l j=c0)(hf:¬cB c0 0=true)(hc:cB c 0=true):((uD l':Nat):Int)+1=((uD l:Nat):Int):=by
 grind [aTt]
def spc(n:Nat):Int:=if n=32\/(9<=n/\n<=13) then 1 else 0
theorem aRt(n:Nat):spc n=0\/spc n=1:=by
 unfold spc;omega
def spW(s:BA)(i:Int):Int:=spc (sBt s i).toNat
def aPn(s:BA):Nat->Int
 |0=>1
 |i+1=>spW s ((i:Nat):Int)
def aBu(s:BA):Nat->Int
 |0=>0
 |i+1=>aBu s i+if spW s ((i:Nat):Int)=0 then aPn s i else 0
def lU(s:BA)(i:Int):Int:=aPn s i.toNat
def gX(s:BA)(i:Int):Int:=aBu s i.toNat
theorem aRh{s:BA}:∀i:Nat,0<=aPn s i/\aPn s i<=1
 |0=>⟨by show(0:Int)<=1;omega,by show(1:Int)<=1;omega⟩
 |i+1=>by grind [aRt,sBt,aPn,spW]
theorem aPr{s:BA}(i:Nat):aBu s i<=aBu s (i+1):=by
 have:=aRh (s:=s) i
 grind [aBu]
theorem aLy{s:BA}{i:Nat}:∀{j:Nat},i<=j->aBu s i<=aBu s j
 |0,h=>by simp_all
 |j+1,h=>by
  rcases Nat.lt_or_ge i (j+1) with h1|h1
  ·exact Int.le_trans (aLy (by omega)) (aPr j)
  grind
def AscS(s:BA):Prop:=∀i:Int,0<=i->i<((s.data.toList.length:Nat):Int)->sBt s i<=127
theorem AscS.of{s:BA}(h:(s.data.toList.all fun b=>Nat.ble b.toNat 127)=true):AscS s:=fun i h0 h1=>by
 have hb:i.toNat<s.data.toList.length:=by omega
 simp only[sBt,List.getElem?_eq_getElem hb,Option.getD_some];have:=QL (List.all_eq_true.1 h _ (List.getElem_mem hb));omega
theorem fldA{s:BA}{i z:Int}(h:z=sBt s i)(ha:AscS s)(h0:0<=i)(h1:i<((s.data.toList.length:Nat):Int)):z<=127:=h▸ha _ h0 h1
theorem fldS{s:BA}{i z y:Int}(h:y=spc z.toNat)(hz:z=sBt s i)(h0:0<=i)(h1:i<((s.data.toList.length:Nat):Int)):
 (y=0/\gX s (i+1)=gX s i+lU s i/\lU s (i+1)=0/\spW s i=0/\gX s (i+1)<=gX s ((s.data.toList.length:Nat):Int)/\0<=lU s i/\lU s i<=1)\/
 (y=1/\gX s (i+1)=gX s i/\lU s (i+1)=1/\spW s i=1/\gX s (i+1)<=gX s ((s.data.toList.length:Nat):Int)/\0<=lU s i/\lU s i<=1):=by
 subst hz;obtain⟨a,rfl⟩:∃a:Nat,i=((a:Nat):Int):=⟨i.toNat,by omega⟩;have e:(((a:Nat):Int)+1).toNat=a+1:=by omega
 have hl:gX s (((a:Nat):Int)+1)<=gX s ((s.data.toList.length:Nat):Int):=by
  simp only[gX,e,Int.toNat_natCast];exact aLy (by omega)
 have hw:lU s (((a:Nat):Int)+1)=spW s ((a:Nat):Int):=by simp only[lU,e,aPn]
 rcases aRt (sBt s ((a:Nat):Int)).toNat with q|q
 ·have q':spW s ((a:Nat):Int)=0:=q;refine .inl ⟨h.trans q,?_,hw.trans q',q',hl,aRh _⟩;simp only[gX,lU,e,Int.toNat_natCast,aBu,q',if_true]
 ·have q':spW s ((a:Nat):Int)=1:=q;refine .inr ⟨h.trans q,?_,hw.trans q',q',hl,aRh _⟩;simp only[gX,e,Int.toNat_natCast,aBu,q'];omega
theorem fldN{s:BA}{i:Int}(h:¬i<((s.data.toList.length:Nat):Int))(e:i<=((s.data.toList.length:Nat):Int)):gX s i=gX s ((s.data.toList.length:Nat):Int)/\spW s i=0:=by
 have:i=((s.data.toList.length:Nat):Int):=by omega
 subst this;refine⟨rfl,?_⟩;simp only[spW,sBt,Int.toNat_natCast,List.getElem?_eq_none (Nat.le_refl _),Option.getD_none];rfl
theorem bDr{n:Nat}{z:Int}(h0:0<=z)(h:Nat.ble n z.toNat=true):((n:Nat):Int)<=z:=by
 simp_all
theorem cntW0{s:BA}:gX s 0=0:=rfl
theorem wspW0{s:BA}:lU s 0=1:=rfl
def gT(k:Nat)(fr:FR)(K:BA->Prop):Prop:=match bP k fr with
 |some (.str s)=>K s
 |_=>False
def rT(j:Nat)(l:SL)(K:BA->Prop):Prop:=match atS l j with
 |some (.str s)=>K s
 |_=>False
def rcR(k j:Nat)(l:SL)(K:LX->Prop):Prop:=match atS l k with
 |some (.agg cs)=>rR j cs K
 |some (.ep _ _ _ _ cs)=>rR j cs K
 |_=>False
end Go.AM
namespace Go.AM
open Go.RowKit
variable [σ:Sg]
section
variable {ρ:RM}{A:NQ}{H:AH}
end
theorem aUb{k:Kd}{c:CL}{j:Nat}{d:CL}(h:d[j]?=some (cSV (kSV k c j))):kSV k d j=kSV k c j:=by
 cases k<;>simp only[kSV,cI,cV,cB,cS,cR,h,cSV]
theorem aAz:∀{ks:KL} {c:CL} {pre:CL} {j:Nat},pre.length=j->aN ks (pre++(aN ks c j).map cSV) j=aN ks c j
 |[],_,_,_,_=>rfl
 |k::ks,c,pre,j,h=>by
  simp only[aN,List.map_cons];have:=aAz (ks:=ks) (c:=c) (pre:=pre++[cSV (kSV k c j)]) (j:=j+1) (by simp[h]);rw[QA] at this;rw[show(cSV (kSV k c j)::(aN ks c (j+1)).map cSV)=[cSV (kSV k c j)]++(aN ks c (j+1)).map cSV from rfl,this]
  grind [aUb]
def cDet(ks:KL)(k:IntKind)(Q:CL->Int->Prop):Ctr:=⟨[.ag ks],[.sc (.int k)],fun _=>Pr True,fun a r=>match a,r with|[.agg cs],[.int _ r]=>Pr (Q (cs.map cSV) r)|_,_=>Pr False,0,none⟩
theorem CtrOk.det{P:PG}{tb:TBs}{g:FuncId}{ks:KL}{k:IntKind}{Q:CL->Int->Prop}(rz:kdsOk ks=true)(qr:tb.ne=false)(h:CtrOk P tb g (cDet ks k Q))(w0:World)(ne:Bool):∃chi:CL->Int,CtrOk P ⟨tb.l,fun w=>w=w0/\tb.ok w,ne⟩ g (cDet ks k fun c r=>r=chi c/\Q c r):=by
 have hd:∀c,∃n,∀(S:AH) (A:NQ) (xs:VL),S.w0.toWorld=w0->zZ w0 tb->True->(∀j,A j->j<S.nx)->CellsA A S ks xs c->
  XCall P g [.agg ⟨xs⟩] S fun u H'=>u=.int k n/\H'=S/\(Lit.int k n).wf=true/\Q ((aN ks c 0).map cSV) n:=fun c=>
  XCall.det (P:=P) (g:=g) (k:=k) rz (fun w=>zZ w tb) (fun _=>True) (fun c n=>(Lit.int k n).wf=true/\Q ((aN ks c 0).map cSV) n) (fun S A xs c hg _ hA hx=>by
   refine(h S S A A [] [.agg (aN ks c 0)] [.agg ⟨xs⟩] ⟨fun e=>absurd (qr.symm.trans e) (by decide),hg⟩ (.cons ⟨c,rfl⟩ .nil) ?_ ⟨trivial⟩ S (HS.start hA)).mono ?_
   ·simp only[Reps,Rep];exact⟨⟨xs,rfl,hx.reps rfl⟩,trivial⟩
   ·rintro u H' _ ⟨H1,A1,_,_,rs,us,ha,hr,rfl,hp⟩;cases ha with
    |cons hq ht=>
     cases ht;obtain⟨n,rfl⟩:=hq
     match us,hr with
     |[u],hr=>
      simp only[Reps,Rep] at hr;obtain⟨⟨rfl,hn⟩,_⟩:=hr;exact⟨n,rfl,hn,hp.h⟩
     |[],hr=>simp only[Reps] at hr
     |_::_::_,hr=>grind [Reps]) w0 c
 obtain⟨chi,b9⟩:∃chi:CL->Int,∀c,∀(S:AH) (A:NQ) (xs:VL),S.w0.toWorld=w0->zZ w0 tb->True->(∀j,A j->j<S.nx)->CellsA A S ks xs c->
  XCall P g [.agg ⟨xs⟩] S fun u H'=>u=.int k (chi c)/\H'=S/\(Lit.int k (chi c)).wf=true/\Q ((aN ks c 0).map cSV) (chi c):=⟨fun c=>Classical.choose (hd c),fun c=>Classical.choose_spec (hd c)⟩
 refine⟨chi,fun S H0 A0 A L0 ss vs qz ap hr _ H hH=>?_⟩;cases ap with
 |cons hp ht=>
  cases ht;obtain⟨c,rfl⟩:=hp
  match vs,hr with
  |[v],hr=>
   simp only[Reps,Rep] at hr;obtain⟨⟨xs,rfl,hr⟩,_⟩:=hr;have e:=aAz (ks:=ks) (c:=c) (pre:=[]) (j:=0) rfl;rw[List.nil_append] at e;have hq:=b9 ((aN ks c 0).map cSV) H A xs (by rw[hH.kept.w0];exact qz.2.1.1) ⟨qz.2.1.1▸qz.2.1.2,qz.2.1.1▸qz.2.2⟩ trivial hH.lt (CellsA.gr hH.gr _ _ _ (pU hr));refine hq.mono ?_;rintro u H' _ ⟨rfl,rfl,hn,q⟩;rw[e] at q;refine⟨H0,A,Gr.refl _ _,hH,[.int k (chi ((aN ks c 0).map cSV))],[.int k (chi ((aN ks c 0).map cSV))],.cons ⟨_,rfl⟩ .nil,?_,rfl,?_⟩
   ·simp only[Reps,Rep,hn,and_self]
   ·exact⟨⟨rfl,q⟩⟩
  |[],hr=>simp only[Reps] at hr
  |_::_::_,hr=>grind [Reps]
section
variable [σ:Sg]
theorem AllC.tb{P:PG}{E:Env P}{C:CTb}{tb:TBs}{ok':World->Prop}{ne':Bool}(hk:∀w,ok' w->tb.ok w)(hn:tb.ne=true->ne'=true)(h:AllC E tb C):AllC E ⟨tb.l,ok',ne'⟩ C:=fun g c e=>
 ⟨fun a b=>⟨fun S H0 A0 A L0 ss vs qz=>((h g c e).1 a b).1 S H0 A0 A L0 ss vs ⟨fun e=>qz.1 (hn e),hk _ qz.2.1,qz.2.2⟩,((h g c e).1 a b).2⟩,(h g c e).2.1,
  fun ci hc=>⟨fun S H0 A0 A L0 ρ PS ss vs hl nl qz=>((h g c e).2.2.1 ci hc).1 S H0 A0 A L0 ρ PS ss vs hl nl ⟨fun e=>qz.1 (hn e),hk _ qz.2.1,qz.2.2⟩,((h g c e).2.2.1 ci hc).2⟩,
  fun W hW=>⟨fun fe S H0 A0 A L0 ρ PS ss vs hp nx K qz=>((h g c e).2.2.2.1 W hW).1 fe S H0 A0 A L0 ρ PS ss vs hp nx K ⟨fun e=>qz.1 (hn e),hk _ qz.2.1,qz.2.2⟩,((h g c e).2.2.2.1 W hW).2⟩,
  fun W hW=>by cases((h g c e).2.2.2.2 W hW).1⟩
end
end Go.AM
namespace Go.AM
open Go.RowKit
variable [σ:Sg]
def wWs(t:TY):IW:=fun fe ss hp nx K=>match ss with
 |[.ptr id 0,.str s]=>(match hget id hp with
  |some (.oth (.bl t' u))=>cond (Nat.beq t' t) (Ob (1<=s.data.toList.length/\u.length+s.data.toList.length<=140737488355328)
   (∀u':BL,u'.length=u.length+s.data.toList.length->u'=u++s.data.toList->jW id (.oth (.bl t' u')) hp fun hp=>rG (fe++lQ hp) fun fx=>K fx (.tup [.any,.any]) hp nx)) False
  |_=>False)
 |_=>False
def wSt(t:TY):IW:=fun fe ss hp nx K=>match ss with
 |[.ptr id 0]=>(match hget id hp with
  |some (.oth (.bl t' u))=>cond (Nat.beq t' t) (Ob (1<=u.length/\u.length<=1099511627776)
   (∀w:BA,w.data.toList.length=u.length->w.data.toList=u->lR id hp fun hp=>rG (fe++lQ hp) fun fx=>K fx (.str w) hp nx)) False
  |_=>False)
 |_=>False
section
variable {P:PG}{E:Env P}{tb:TBs}
theorem aQr{S H0 H:AH}{A0 A:NQ}{L L1 L2 L0:OL}(hH:HS S H0 A0 A ((L1++(L++L2))++L0) H):Takes L ((L1++(L++L2))++L0) ((L1++L2)++L0)/\(∀p∈L,H.tr.get p.1=some p.2/\p.1<H.nx)/\L.Pairwise (fun p q=>p.1≠q.1):=by
 refine⟨?_,fun p hp=>?_,?_⟩
 ·rw[QA,QA,QA];exact(Takes.app (T:=L) (L0:=L2++L0)).skipA
 ·obtain⟨a,_,b,_⟩:=hH.own p (List.mem_append_left _ (List.mem_append_right _ (List.mem_append_left _ hp)));exact⟨a,b⟩
 ·refine hH.dist.sublist ?_
  simp_all
theorem iw_ws{g t:Nat}(mj:∀{S:AH} {N M:Nat} {bs:BL} {s:BA},s.data.toList≠[]->bs.length+s.data.toList.length<=140737488355328->(∀p∈bld t N M bs,S.tr.get p.1=some p.2/\p.1<S.nx)->(bld t N M bs).Pairwise (fun p q=>p.1≠q.1)->
 XCall P g [.pointer (some ⟨2*N+1,0,none⟩),.string s] S fun u H'=>∃Lo,Turned (bld t N M bs) S H' Lo/\(u=.tuple ⟨[.int .i64 ((s.data.toList.length:Nat):Int),.nilIface]⟩/\∃M2,Lo=bld t N M2 (bs++s.data.toList))):bW E tb g (wWs t):=by
 intro fe S H0 A0 A L0 ρ PS ss vs hp nx K qz yh zp hr hh h;unfold wWs at h;split at h
 ·rename_i id s;split at h
  ·rename_i t' u hg;cases et:Nat.beq t' t with
   |false=>simp_all
   |true=>
    rw[et,QT] at h;have et:=QN et;subst et
    match vs,hr with
    |[v1,v2],hr=>
     simp only[Reps,Rep] at hr;obtain⟨⟨N,e1,rfl⟩,⟨rfl,_⟩,_⟩:=hr;obtain⟨L,X,Y,qq,⟨N',M,r1,r2⟩,_,jx,_⟩:=hh.get hg;rw[e1] at r1;simp only[Option.some.injEq,Value.pointer.injEq,Addr.mk.injEq] at r1;have eN:N'=N:=by omega
     subst eN;subst r2;obtain⟨qc,k,hq⟩:=jx _ _ (h.t (u++s.data.toList) (by rw[List.length_append]) rfl);intro H hH;rw[qq,bN] at hH;simp only[flt] at hH;obtain⟨b1,b2,b3⟩:=aQr hH;refine(mj (fun e=>by have:=h.h.1;simp_all) h.h.2 b2 b3).mono ?_;rintro v H' _ ⟨Lo,hT,rfl,M2,rfl⟩;obtain⟨q1,q2⟩:=hH.after (Hc:=H) b1 hT;have k:=gV k;refine⟨_,_,ρ,_,_,_,qc,nx,q2,q1.perm ?_,k,fun i _ v hv=>hv,yh,zp,hq (RMle.refl _) q2 ⟨N',M2,e1,rfl⟩,?_⟩
     ·grind [bN,flt,List.perm_append_comm_assoc,bld,QA]
     ·simp only[Rep];exact⟨_,rfl,by simp only[Reps,Rep,and_self]⟩
    |[],hr=>simp only[Reps] at hr
    |[_],hr=>grind [Reps]
    |_::_::_::_,hr=>grind [Reps]
  ·exact h.elim
 ·exact h.elim
theorem iw_st{g t:Nat}(qv:∀{S:AH} {N M:Nat} {bs:BL},bs≠[]->bs.length<=1099511627776->(∀p∈bld t N M bs,S.tr.get p.1=some p.2/\p.1<S.nx)->(bld t N M bs).Pairwise (fun p q=>p.1≠q.1)->
 XCall P g [.pointer (some ⟨2*N+1,0,none⟩)] S fun u H'=>∃Lo,Turned (bld t N M bs) S H' Lo/\(u=.string ⟨⟨bs⟩⟩)):bW E tb g (wSt t):=by
 intro fe S H0 A0 A L0 ρ PS ss vs hp nx K qz yh zp hr hh h;unfold wSt at h;split at h
 ·rename_i id;split at h
  ·rename_i t' u hg;cases et:Nat.beq t' t with
   |false=>simp_all
   |true=>
    rw[et,QT] at h;have et:=QN et;subst et
    match vs,hr with
    |[v1],hr=>
     simp only[Reps,Rep] at hr;obtain⟨⟨N,e1,rfl⟩,_⟩:=hr;obtain⟨L,X,Y,qq,⟨N',M,r1,r2⟩,_,_,jy⟩:=hh.get hg;rw[e1] at r1;simp only[Option.some.injEq,Value.pointer.injEq,Addr.mk.injEq] at r1;have eN:N'=N:=by omega
     subst eN;subst r2;have qf:=h.h.2;obtain⟨qc,k,hq⟩:=jy _ (h.t ⟨⟨u⟩⟩ rfl rfl);intro H hH;rw[qq,bN] at hH;simp only[flt] at hH;obtain⟨b1,b2,b3⟩:=aQr hH;refine(qv (fun e=>by have:=h.h.1;simp_all) qf b2 b3).mono ?_;rintro v H' _ ⟨Lo,hT,rfl⟩;obtain⟨q1,q2⟩:=hH.after (Hc:=H) b1 hT;have k:=gV k;refine⟨_,_,ρ,_,_,_,qc,nx,q2,(q1.subl (List.sublist_append_right _ _):HS S _ _ _ ((flt X++flt Y)++L0) _) |>.perm ?_,k,fun i _ v hv=>hv,yh,zp,RepH.mono (RMle.refl _) q2 hq,?_⟩
     ·rw[bN]
     ·simp only[Rep];exact⟨trivial,(show u.length<=9223372036854775807 by omega)⟩
    |[],hr=>simp only[Reps] at hr
    |_::_::_,hr=>grind [Reps]
  ·exact h.elim
 ·exact h.elim
end
end Go.AM
namespace Go.AM
open Go.RowKit
def rcS(k j:Nat)(l:SL)(K:Int->Prop):Prop:=match atS l k with
 |some (.agg cs)=>rS j cs K
 |some (.ep _ _ _ _ cs)=>rS j cs K
 |_=>False
def eU(n:Nat):BL:=if n<128 then [UInt8.ofNat n] else UInt8.ofNat (n%128+128)::eU (n / 128)
theorem tP{n:Nat}(h:n<128):eU n=[UInt8.ofNat n]:=by rw[eU,if_pos h]
theorem tN{n:Nat}(h:128<=n):eU n=UInt8.ofNat (n%128+128)::eU (n / 128):=by rw[eU,if_neg (by omega)]
theorem bDc(n:Nat):eU n≠[]:=by
 grind [eU]
theorem aSy:∀(k n:Nat),n<128^(k+1)->(eU n).length<=k+1
 |0,n,h=>by grind [tP]
 |k+1,n,h=>by
  rcases Nat.lt_or_ge n 128 with h1|h1
  ·rw[tP h1];simp
  ·rw[tN h1,List.length_cons];have:=aSy k (n / 128) (by omega);omega
theorem eU_10{n:Nat}(h:n<18446744073709551616):(eU n).length<=10:=aSy 9 n (Nat.lt_of_lt_of_le h (by decide))
theorem eU_1(n:Nat):1<=(eU n).length:=List.length_pos_iff.2 (bDc n)
def eN(n:Int):BL:=eU n.toNat
theorem eN_1(n:Int):1<=(eN n).length:=eU_1 _
theorem eN_10{n:Int}(h:n<=18446744073709551615):(eN n).length<=10:=eU_10 (by omega)
theorem aGf{l m l':LX}{k:IntKind}{z:Int}(e:l'=l++m)(hm:m=[[.v (.int k z)]]):dW l'=dW l++[UInt8.ofNat z.toNat]:=by
 grind [dW,cI,cV]
theorem bFl:((List.range 256).all fun m=>Nat.beq (m ||| 128) (m%128+128))=true:=by kernel_rfl
theorem bGa{n:Nat}(h:n<256):n ||| 128=n%128+128:=by
 grind [List.all_eq_true,bFl,QN]
theorem bEd{t t':Int}(h0:128<=t)(ht:t'=t / 2^(7:Int).toNat):(eN t).length=(eN t').length+1:=by
 grind [eN,tN]
theorem aOk{l l' m:LX}{x:BL}{t z y t':Int}{k:IntKind}(hx:dW l++eN t=x)(h0:128<=t)(hy:y=t%(255+1))(hz:z=((y.toNat ||| (128:Int).toNat:Nat):Int))(e:l'=l++m)(hm:m=[[.v (.int k z)]])(ht:t'=t / 2^(7:Int).toNat):dW l'++eN t'=x:=by
 rw[aGf e hm,<-hx,QA];congr 1;have e1:t'.toNat=t.toNat / 128:=by
  grind
 have e2:z.toNat=t.toNat%128+128:=by
  have:(128:Int).toNat=128:=rfl
  grind [bGa]
 grind [eN,tN]
theorem aNy{l l' m:LX}{x:BL}{t:Int}{k:IntKind}(hx:dW l++eN t=x)(h0:0<=t)(h1:t<128)(e:l'=l++m)(hm:m=[[.v (.int k t)]]):dW l'=x:=by
 grind [aGf,eN,tP]
def zzI(n:Int):Int:=if n<0 then -(2*n) - 1 else 2*n
theorem zzI_n{n:Int}(h:n<0):zzI n= -(2*n) - 1:=if_pos h
theorem zzI_p{n:Int}(h:¬n<0):zzI n=2*n:=if_neg h
def eI(n:Int):BL:=eN (zzI n)
theorem eI_of{n z:Int}{s:BL}(h:z=zzI n)(k:s=eN z):s=eI n:=by rw[k,h];rfl
def eT(l:BL):BL:=eN ((l.length:Nat):Int)++l
theorem eT_of{s l w:BL}(h:s=eN ((l.length:Nat):Int))(k:w=s++l):w=eT l:=by rw[k,h];rfl
theorem bFt{w r x:BL}(h:w=r)(k:r=dW []++x):w=x:=h.trans k
def gU(k:Nat)(fr:FR)(hp:HP)(K:BL->Prop):Prop:=match lW k fr hp with
 |some (.ptr i _)=>(match hget i hp with
  |some (.oth (.bl _ u))=>K u
  |_=>False)
 |_=>False
def eF(f:CL->List UInt8)(l:LX):BL:=l.flatMap f
theorem aZe{f:CL->List UInt8}{c:CL}{l:LX}:eF f (c::l)=f c++eF f l:=rfl
theorem bFb{f:CL->List UInt8}:eF f []=[]:=rfl
theorem aLk{l:LX}{t:Int}{c:CL}(hc:elC l t=c)(h0:0<=t)(h1:t<((l.length:Nat):Int)):l[t.toNat]?=some c:=by
 grind [elC,List.getElem?_eq_getElem]
theorem qO{f:CL->List UInt8}{l:LX}{t:Int}{U U' s:BL}{c:CL}(hU:U=eF f (l.take t.toNat))(e:U'=U++s)(hs:s=f c)(hc:elC l t=c)(h0:0<=t)(h1:t<((l.length:Nat):Int)):U'=eF f (l.take (t+1).toNat):=by
 have e1:(t+1).toNat=t.toNat+1:=by omega
 rw[e,hU,hs,e1,List.take_add_one,aLk hc h0 h1];simp[eF]
theorem jQ{f:CL->List UInt8}{l:LX}{t:Int}{U U' s x:BL}{c:CL}(hU:U=x++eF f (l.take t.toNat))(e:U'=U++s)(hs:s=f c)(hc:elC l t=c)(h0:0<=t)(h1:t<((l.length:Nat):Int)):U'=x++eF f (l.take (t+1).toNat):=by
 rw[e,hU,QA,<-qO rfl rfl hs hc h0 h1]
theorem eP_all{f:CL->List UInt8}{l:LX}{t:Int}{U w x:BL}(e:w=U)(hU:U=x++eF f (l.take t.toNat))(h:((l.length:Nat):Int)<=t):w=x++eF f l:=by
 grind [List.take_of_length_le]
theorem aSz{f:CL->List UInt8}{l:LX}{t:Int}{U w:BL}(e:w=U)(hU:U=eF f (l.take t.toNat))(h:((l.length:Nat):Int)<=t):w=eF f l:=by
 grind [List.take_of_length_le]
def fI(c:CL):BL:=eI (cI c 0)
def fB(c:CL):BL:=eN (if cB c 0=true then 1 else 0)
theorem fB_t{s:BL}{c:CL}(h:s=eN 1)(k:cB c 0=true):s=fB c:=by rw[h];unfold fB;rw[if_pos k]
theorem fB_f{s:BL}{c:CL}(h:s=eN 0)(k:¬cB c 0=true):s=fB c:=by rw[h];unfold fB;rw[if_neg k]
theorem aYf{f:CL->List UInt8}{l r:LX}{x:BL}(h:dW r=dW []++x):dW r=x++eF f (l.take (0:Int).toNat):=by rw[h];simp[dW,eF]
theorem bAl{l r r':LX}{t z:Int}{x:BL}{c:CL}(hU:dW r=x++eF fI (l.take t.toNat))(e:dW r'=dW r++eN z)(hz:z=zzI (cI c 0))(hc:elC l t=c)(h0:0<=t)(h1:t<((l.length:Nat):Int)):dW r'=x++eF fI (l.take (t+1).toNat):=by
 rw[e,hU,QA,<-qO rfl rfl (show eN z=fI c by rw[hz];rfl) hc h0 h1]
theorem bEe{f:CL->List UInt8}{l r:LX}{t:Int}{w x:BL}(e:w=dW r)(hU:dW r=x++eF f (l.take t.toNat))(h:((l.length:Nat):Int)<=t):w=x++eF f l:=by
 grind [List.take_of_length_le]
end Go.AM
namespace Go.AM
open Go.RowKit
theorem Wr.mul{lo hi n m:Int}{K:Int->Prop}(h1:0<=n/\n<=1048576)(h2:0<=m/\m<=1048576)(h3:lo<=0/\1099511627776<=hi)(h:0<=n*m->n*m<=1099511627776->K (n*m)):Wr lo hi (n*m) K:=by
 have a:=Int.mul_nonneg h1.1 h2.1;have b:n*m<=1048576*1048576:=Int.mul_le_mul h1.2 h2.2 h2.1 (by omega)
 grind [Wr.ex]
theorem zH{α:Type}{p:α->Bool}:∀{m:Nat} {r:List α},(∀k b,k<m->r[k]?=some b->p b=true)->m<=r.length->(∀b,r[m]?=some b->p b=false)->r.takeWhile p=r.take m/\r.dropWhile p=r.drop m
 |0,[],_,_,_=>by simp
 |0,b::r,_,_,h=>by
  simp_all
 |m+1,[],_,hl,_=>by simp at hl
 |m+1,b::r,ha,hl,h=>by
  have h0:=ha 0 b (by omega) rfl;have ih:=zH (m:=m) (r:=r) (fun k c hk hc=>ha (k+1) c (by omega) (by simpa using hc)) (by simpa using hl) (fun c hc=>h c (by simpa using hc))
  simp_all
def gG{α:Type} [DecidableEq α](val:α->List UInt8):List α->List UInt8
 |[]=>[]
 |a::r=>eN (((r.takeWhile fun b=>decide (b=a)).length:Nat):Int)++val a++gG val (r.dropWhile fun b=>decide (b=a))
termination_by l=>l.length
decreasing_by
 grind [List.dropWhile_sublist,decide,List.length_cons]
theorem aGk{α:Type} [DecidableEq α]{val:α->List UInt8}:gG val []=[]:=by rw[gG]
theorem aAf{α:Type} [DecidableEq α]{val:α->List UInt8}{l:List α}{i j:Nat}{a:α}(hi:l[i]?=some a)(yq:i<j)(hj:j<=l.length)(zh:∀k b,i<=k->k<j->l[k]?=some b->b=a)(wh:∀b,l[j]?=some b->b≠a):
 gG val (l.drop i)=eN (((j - i - 1:Nat):Nat):Int)++val a++gG val (l.drop j):=by
 have e:l.drop i=a::l.drop (i+1):=by
  obtain⟨h1,rfl⟩:=List.getElem?_eq_some_iff.1 hi
  simp_all
 have hw:=zH (p:=fun b=>decide (b=a)) (m:=j - i - 1) (r:=l.drop (i+1))
  (fun k b hk hb=>by
   grind)
  (by grind)
  (fun b hb=>by
   grind)
 grind [gG,List.length_take,List.length_drop,List.drop_drop,min]
def Same{α:Type}(m:CL->α)(l:LX)(i j:Int):Prop:=∀k:Int,i<=k->k<j->m (elC l k)=m (elC l i)
section
variable {α:Type}{m:CL->α}{l:LX}{i j:Int}
theorem Same.init:Same m l i (i+1):=fun k h1 h2=>by grind
theorem Same.step(h:Same m l i j)(e:m (elC l j)=m (elC l i)):Same m l i (j+1):=fun k h1 h2=>by
 by_cases ek:k=j
 ·rw[ek];exact e
 ·exact h k h1 (by omega)
theorem aSt(h0:0<=i)(h1:i<((l.length:Nat):Int)):l[i.toNat]?=some (elC l i):=aLk rfl h0 h1
theorem aGr(h0:0<=i)(h1:i<((l.length:Nat):Int)):(l.map m)[i.toNat]?=some (m (elC l i)):=by grind [aSt]
variable [DecidableEq α]{val:α->List UInt8}{U U1 U2 s1 x:BL}{R:LX}{t:Int}{f:CL->List UInt8}
theorem aGj{u0 u1 u2 s1 s2:BL}{a b:Int}(e2:u2=u1++s2)(k2:s2=eN b)(e1:u1=u0++s1)(k1:s1=eN a)(e0:u0=[]):u2++gG val ((l.map m).drop (0:Int).toNat)=eN a++(eN b++gG val (l.map m)):=by
 simp_all
theorem aKv(h:U++gG val ((l.map m).drop i.toNat)=x)(hi:((l.length:Nat):Int)<=i){w:BL}(e:w=U):w=x:=by
 grind [List.drop_of_length_le,List.length_map,aGk]
theorem rY(h:U++gG val ((l.map m).drop i.toNat)=x)(hs:Same m l i j)(h0:0<=i)(yq:i<j)(hj:j<=((l.length:Nat):Int))(wh:j<((l.length:Nat):Int)->m (elC l j)≠m (elC l i))(e1:U1=U++s1)(e2:s1=eN (j - i - 1))(e3:U2=U1++eF f (R.take t.toNat))(ht:((R.length:Nat):Int)<=t)(hR:eF f R=val (m (elC l i))):
 U2++gG val ((l.map m).drop j.toNat)=x:=by
 rw[<-h,aAf (a:=m (elC l i)) (i:=i.toNat) (j:=j.toNat) (aGr h0 (by omega)) (by omega) (by simp_all) (fun k b h1 h2 hb=>?_) (fun b hb=>?_),e3,List.take_of_length_le (by omega),hR,e1,e2]
 ·grind
 ·have e:k=((k:Nat):Int).toNat:=rfl;rw[e,aGr (by omega) (by omega)] at hb;rw[<-Option.some.inj hb];exact hs _ (by omega) (by omega)
 grind [List.getElem?_eq_some_iff,List.length_map,aGr,Option.some.inj]
end
def mI(c:CL):Int:=cI c 0
def pI(c:CL):Int×Int×Int×Int:=(cI c 0,cI c 1,cI c 2,cI c 3)
def rF(p:Int×Int×Int×Int):BL:=eN p.1++(eN p.2.1++(eN p.2.2.1++eN p.2.2.2))
def fN(c:CL):BL:=eN (cI c 0)
def U16(n:Int):Prop:=0<=n/\n<=65535
def SzOk(w h:Int)(l:LX):Prop:=(0<=w/\w<=256)/\(0<=h/\h<=256)/\(w=0↔h=0)/\((l.length:Nat):Int)=w*h
def okM(c:CL):Prop:=U16 (cI c 0)
def okP(c:CL):Prop:=U16 (cI c 0)/\U16 (cI c 1)/\U16 (cI c 2)/\U16 (cI c 3)
def MOk(w h:Int)(l:LX):Prop:=SzOk w h l/\AllB okM l ((l.length:Nat):Int)
def IOk(w h:Int)(l:LX):Prop:=SzOk w h l/\AllB okP l ((l.length:Nat):Int)
def yC(w h:Int)(l:LX):BL:=eN w++(eN h++gG eN (l.map mI))
def aHp(w h:Int)(l:LX):BL:=eN w++(eN h++gG rF (l.map pI))
theorem aEm{f:CL->List UInt8}{l:LX}{U:BL}(h:True):U=U++eF f (l.take (0:Int).toNat):=by simp[eF]
theorem hR_I{R:LX}{l:LX}{i:Int}{c:CL}(h:R=[[.v (.int .i64 (cI c 0))]])(hc:elC l i=c):eF fN R=eN (mI (elC l i)):=by
 grind [eF,fN,mI,cI,cV]
theorem hR_P{R:LX}{l:LX}{i:Int}{c:CL}(h:R=[[.v (.int .i64 (cI c 0))],[.v (.int .i64 (cI c 1))],[.v (.int .i64 (cI c 2))],[.v (.int .i64 (cI c 3))]])(hc:elC l i=c):eF fN R=rF (pI (elC l i)):=by
 subst hc;subst h;simp[eF,fN,rF,pI,cI,cV]
theorem mI_eq{l:LX}{i j:Int}{c d:CL}(e:cI c 0=cI d 0)(hc:elC l j=c)(hd:elC l i=d):mI (elC l j)=mI (elC l i):=by rw[hc,hd];exact e
theorem mI_ne{l:LX}{i j:Int}{c d:CL}(e:¬cI c 0=cI d 0)(hc:elC l j=c)(hd:elC l i=d):mI (elC l j)≠mI (elC l i):=by rw[hc,hd];exact e
theorem pI_eq{l:LX}{i j:Int}{c d:CL}(e:EqX [.int .i64 (cI c 0),.int .i64 (cI c 1),.int .i64 (cI c 2),.int .i64 (cI c 3)] [.int .i64 (cI d 0),.int .i64 (cI d 1),.int .i64 (cI d 2),.int .i64 (cI d 3)])(hc:elC l j=c)(hd:elC l i=d):pI (elC l j)=pI (elC l i):=by
 have e:=e.h;simp only[oA,and_true] at e
 grind [pI]
theorem pI_ne{l:LX}{i j:Int}{c d:CL}(e:¬EqX [.int .i64 (cI c 0),.int .i64 (cI c 1),.int .i64 (cI c 2),.int .i64 (cI c 3)] [.int .i64 (cI d 0),.int .i64 (cI d 1),.int .i64 (cI d 2),.int .i64 (cI d 3)])(hc:elC l j=c)(hd:elC l i=d):pI (elC l j)≠pI (elC l i):=fun h=>by
 rw[hc,hd] at h;simp only[pI,Prod.mk.injEq] at h;exact e ⟨by simp only[oA,and_true];exact h⟩
theorem aIh{l:LX}{n i:Int}{c:CL}(h:AllB okM l n)(h0:0<=i)(h1:i<n)(hc:elC l i=c):0<=cI c 0/\cI c 0<=65535:=by subst hc;exact h i h0 h1
theorem aVe{l:LX}{n i:Int}{c:CL}(h:AllB okP l n)(h0:0<=i)(h1:i<n)(hc:elC l i=c):(0<=cI c 0/\cI c 0<=65535)/\(0<=cI c 1/\cI c 1<=65535)/\(0<=cI c 2/\cI c 2<=65535)/\(0<=cI c 3/\cI c 3<=65535):=by subst hc;exact h i h0 h1
theorem okN_I{R:LX}{c:CL}{n:Int}(h:R=[[.v (.int .i64 (cI c 0))]])(hn:n=((R.length:Nat):Int))(k:0<=cI c 0/\cI c 0<=65535):AllB okM R n:=by
 subst h;subst hn;intro j h0 h1;have:j=0:=by simp at h1;omega
 subst this;exact k
theorem okN_P{R:LX}{c:CL}{n:Int}(h:R=[[.v (.int .i64 (cI c 0))],[.v (.int .i64 (cI c 1))],[.v (.int .i64 (cI c 2))],[.v (.int .i64 (cI c 3))]])(hn:n=((R.length:Nat):Int))(k:(0<=cI c 0/\cI c 0<=65535)/\(0<=cI c 1/\cI c 1<=65535)/\(0<=cI c 2/\cI c 2<=65535)/\(0<=cI c 3/\cI c 3<=65535)):AllB okM R n:=by
 subst h;subst hn;intro j h0 h1;have:j=0\/j=1\/j=2\/j=3:=by simp at h1;omega
 rcases this with e|e|e|e<;>subst e
 ·exact k.1
 ·exact k.2.1
 ·exact k.2.2.1
 ·exact k.2.2.2
theorem okU_M{l:LX}{i:Int}{c:CL}(hc:elC l i=c)(k:0<=cI c 0/\cI c 0<=65535):okM (elC l i):=by subst hc;exact k
theorem okU_P{l:LX}{i:Int}{c:CL}(hc:elC l i=c)(k:(0<=cI c 0/\cI c 0<=65535)/\(0<=cI c 1/\cI c 1<=65535)/\(0<=cI c 2/\cI c 2<=65535)/\(0<=cI c 3/\cI c 3<=65535)):okP (elC l i):=by subst hc;exact k
theorem EqX.no{xs ys:SL}(h:¬EqX xs ys):¬oA xs ys:=fun e=>h ⟨e⟩
theorem SzOk.len{w h:Int}{l:LX}(k:SzOk w h l):((l.length:Nat):Int)<=65536:=by
 obtain⟨⟨a,b⟩,⟨c,d⟩,_,e⟩:=k;have:w*h<=256*256:=Int.mul_le_mul b d c (by omega);omega
theorem len64{l n m:Int}(h:l=n*m)(h1:0<=n/\n<=8)(h2:0<=m/\m<=8):l<=64:=by
 have:n*m<=8*8:=Int.mul_le_mul h1.2 h2.2 h2.1 (by omega);omega
end Go.AM
namespace Go.AM
open Go.RowKit
def eC(js:NL)(c:CL):BL:=js.flatMap fun j=>eI (cI c j)
def fS:CL->List UInt8:=eC [0,1,2,3,4]
def fG:CL->List UInt8:=eC [0,1,2,3,4,5,6]
def fP:CL->List UInt8:=eC [0,1]
theorem iC{s:BL}{l:LX}{c:CL}{js:NL}(h:s=eF fI l)(k:l=js.map fun j=>[.v (.int .i64 (cI c j))]):s=eC js c:=by
 rw[h,k];simp only[eF,eC,List.flatMap_map];rfl
theorem aWk{l l1 l2 l3 l4:LX}{t:Int}{U U1 U2 U3 U4 s1 s2 s3 s4 x:BL}{c:CL}(hU:U=x++eF fG (l.take t.toNat))(hc:elC l t=c)
 (e4:U4=U3++s4)(k4:s4=eF fI l4)(g4:l4=[5,6].map fun j=>[.v (.int .i64 (cI c j))])
 (e3:U3=U2++s3)(k3:s3=eF fI l3)(g3:l3=[3,4].map fun j=>[.v (.int .i64 (cI c j))])
 (e2:U2=U1++s2)(k2:s2=eF fI l2)(g2:l2=[1,2].map fun j=>[.v (.int .i64 (cI c j))])
 (e1:U1=U++s1)(k1:s1=eF fI l1)(g1:l1=[0].map fun j=>[.v (.int .i64 (cI c j))])(h0:0<=t)(h1:t<((l.length:Nat):Int)):U4=x++eF fG (l.take (t+1).toNat):=by
 refine jQ (U':=U4) (s:=s1++(s2++(s3++s4))) hU (by simp_all) ?_ hc h0 h1;rw[iC k1 g1,iC k2 g2,iC k3 g3,iC k4 g4];simp[fG,eC]
def eSh(l m:LX):BL:=eN ((l.length:Nat):Int)++(eF fS l++(eN ((m.length:Nat):Int)++eF fG m))
theorem sh_of{l m:LX}{t t':Int}{w U U1 U2 U3 s1 s2 u0:BL}(e:w=U)(hU:U=U1++eF fG (m.take t'.toNat))(h':((m.length:Nat):Int)<=t')(e1:U1=U2++s2)(k2:s2=eN ((m.length:Nat):Int))(hU2:U2=U3++eF fS (l.take t.toNat))(h:((l.length:Nat):Int)<=t)(e3:U3=u0++s1)(k1:s1=eN ((l.length:Nat):Int))(e0:u0=[]):w=eSh l m:=by
 grind [List.take_of_length_le,eSh]
def eB(js:NL)(c:CL):BL:=js.flatMap fun j=>eN (if cB c j=true then 1 else 0)
theorem eB_of{s:BL}{l:LX}{c:CL}{js:NL}(h:s=eF fB l)(k:l=js.map fun j=>[.v (.bool (cB c j))]):s=eB js c:=by
 rw[h,k];simp only[eF,eB,List.flatMap_map];rfl
def NOk(c:CL):Prop:=((cS c 3).data.toList.length<=256/\(cR c 27).length<=16/\(cR c 29).length<=16/\(cR c 30).length<=128/\(cS c 35).data.toList.length<=256/\(cR c 42).length<=64)/\MOk (cI c 9) (cI c 10) (cR c 11)/\IOk (cI c 19) (cI c 20) (cR c 21)
def jD(c:CL):BL:=eC [0,1,2] c++(eT (cS c 3).data.toList++(eB [4,5,6] c++(eC [7,8] c++(yC (cI c 9) (cI c 10) (cR c 11)++(eC [12,13,14,15,16,17,18] c++(aHp (cI c 19) (cI c 20) (cR c 21)++(eC [22,23,24,25,26] c++
 ((eN (((cR c 27).length:Nat):Int)++eF fI (cR c 27))++(eC [28] c++(eSh (cR c 29) (cR c 30)++(eC [31,32,33,34] c++(eT (cS c 35).data.toList++(eC [36,37,38,39,40,41] c++(eN (((cR c 42).length:Nat):Int)++eF fP (cR c 42)))))))))))))))
def kN:KL:=[.int .i64,.int .i64,.int .i64,.str,.bool,.bool,.bool,.int .i64,.int .i64,.int .i64,.int .i64,.row 8 [.int .i64],.int .i64,.int .i64,.int .i64,.int .i64,.int .i64,.int .i64,.int .i64,.int .i64,.int .i64,.row 32 [.int .i64,.int .i64,.int .i64,.int .i64],.int .i64,.int .i64,.int .i64,.int .i64,.int .i64,.row 8 [.int .i64],.int .i64,.row 40 [.int .i64,.int .i64,.int .i64,.int .i64,.int .i64],.row 56 [.int .i64,.int .i64,.int .i64,.int .i64,.int .i64,.int .i64,.int .i64],.int .i64,.int .i64,.int .i64,.int .i64,.str,.int .i64,.int .i64,.int .i64,.int .i64,.int .i64,.int .i64,.row 16 [.int .i64,.int .i64]]
theorem nI{ks:KL}{c:CL}{i:Nat}{k:IntKind}(h:ks[i]?=some (.int k)):cI ((aN ks c 0).map cSV) i=cI c i:=by
 have:=nA (c:=c) (j:=0) h;rw[Nat.zero_add] at this
 grind [cI,cV,kSV,cSV]
theorem nB{ks:KL}{c:CL}{i:Nat}(h:ks[i]?=some .bool):cB ((aN ks c 0).map cSV) i=cB c i:=by
 have:=nA (c:=c) (j:=0) h;rw[Nat.zero_add] at this
 grind [cB,cV,kSV,cSV]
theorem nS{ks:KL}{c:CL}{i:Nat}(h:ks[i]?=some .str):cS ((aN ks c 0).map cSV) i=cS c i:=by
 have:=nA (c:=c) (j:=0) h;rw[Nat.zero_add] at this
 grind [cS,cV,kSV,cSV]
theorem nR{ks q:KL}{b:Nat}{c:CL}{i:Nat}(h:ks[i]?=some (.row b q)):cR ((aN ks c 0).map cSV) i=cR c i:=by
 have:=nA (c:=c) (j:=0) h;rw[Nat.zero_add] at this
 grind [cR,kSV,cSV]
theorem aGo{c d:CL}:∀{js:NL},(∀j∈js,cI c j=cI d j)->eC js c=eC js d
 |[],_=>rfl
 |j::r,h=>by
  have ih:=aGo (js:=r) fun j hj=>h j (List.mem_cons_of_mem _ hj)
  grind [eC,List.mem_cons_self]
theorem aEs{c d:CL}:∀{js:NL},(∀j∈js,cB c j=cB d j)->eB js c=eB js d
 |[],_=>rfl
 |j::r,h=>by
  have ih:=aEs (js:=r) fun j hj=>h j (List.mem_cons_of_mem _ hj)
  grind [eB,List.mem_cons_self]
theorem aDv{ks:KL}{c:CL}{js:NL}(h:(js.all fun j=>match ks[j]? with|some (.int _)=>true|_=>false)=true):eC js ((aN ks c 0).map cSV)=eC js c:=aGo fun j hj=>by
 grind [List.all_eq_true,nI]
theorem eB_n{ks:KL}{c:CL}{js:NL}(h:(js.all fun j=>match ks[j]? with|some .bool=>true|_=>false)=true):eB js ((aN ks c 0).map cSV)=eB js c:=aEs fun j hj=>by
 grind [List.all_eq_true,nB]
theorem eNode_n{c:CL}:jD ((aN kN c 0).map cSV)=jD c:=by
 unfold jD;rw[aDv (ks:=kN) (js:=[0,1,2]) rfl,aDv (ks:=kN) (js:=[7,8]) rfl,aDv (ks:=kN) (js:=[12,13,14,15,16,17,18]) rfl,aDv (ks:=kN) (js:=[22,23,24,25,26]) rfl,aDv (ks:=kN) (js:=[28]) rfl,aDv (ks:=kN) (js:=[31,32,33,34]) rfl,aDv (ks:=kN) (js:=[36,37,38,39,40,41]) rfl,eB_n (ks:=kN) (js:=[4,5,6]) rfl,nS (ks:=kN) (i:=3) rfl,nS (ks:=kN) (i:=35) rfl,nI (ks:=kN) (i:=9) (k:=.i64) rfl,nI (ks:=kN) (i:=10) (k:=.i64) rfl,nI (ks:=kN) (i:=19) (k:=.i64) rfl,nI (ks:=kN) (i:=20) (k:=.i64) rfl,nR (ks:=kN) (i:=11) (b:=8) (q:=[.int .i64]) rfl,nR (ks:=kN) (i:=21) (b:=32) (q:=[.int .i64,.int .i64,.int .i64,.int .i64]) rfl,nR (ks:=kN) (i:=27) (b:=8) (q:=[.int .i64]) rfl,nR (ks:=kN) (i:=29) (b:=40) (q:=[.int .i64,.int .i64,.int .i64,.int .i64,.int .i64]) rfl,nR (ks:=kN) (i:=30) (b:=56) (q:=[.int .i64,.int .i64,.int .i64,.int .i64,.int .i64,.int .i64,.int .i64]) rfl,nR (ks:=kN) (i:=42) (b:=16) (q:=[.int .i64,.int .i64]) rfl]
theorem aMr{c:CL}:NOk ((aN kN c 0).map cSV)↔NOk c:=by
 unfold NOk;rw[nS (ks:=kN) (i:=3) rfl,nS (ks:=kN) (i:=35) rfl,nI (ks:=kN) (i:=9) (k:=.i64) rfl,nI (ks:=kN) (i:=10) (k:=.i64) rfl,nI (ks:=kN) (i:=19) (k:=.i64) rfl,nI (ks:=kN) (i:=20) (k:=.i64) rfl,nR (ks:=kN) (i:=11) (b:=8) (q:=[.int .i64]) rfl,nR (ks:=kN) (i:=21) (b:=32) (q:=[.int .i64,.int .i64,.int .i64,.int .i64]) rfl,nR (ks:=kN) (i:=27) (b:=8) (q:=[.int .i64]) rfl,nR (ks:=kN) (i:=29) (b:=40) (q:=[.int .i64,.int .i64,.int .i64,.int .i64,.int .i64]) rfl,nR (ks:=kN) (i:=30) (b:=56) (q:=[.int .i64,.int .i64,.int .i64,.int .i64,.int .i64,.int .i64,.int .i64]) rfl,nR (ks:=kN) (i:=42) (b:=16) (q:=[.int .i64,.int .i64]) rfl]
theorem aYt{c:CL}{t:Int}{w U U0 U1 U2 U3 U4 U5 U6 U7 U8 U9 U10 U11 U12 U13 U14 U15 s1 s2 s3 s4 s5 s6 s7 s8 s9 s10 s11 s12 s13 s14 s15:BL}{l1 l3 l4 l6 l8 l10 l12 l14:LX}(hN:NOk c)(e:w=U)(hU:U=U15++eF fP ((cR c 42).take t.toNat))(ht:(((cR c 42).length:Nat):Int)<=t)(e15:U15=U14++s15)(k15:s15=eN (((cR c 42).length:Nat):Int))(e14:U14=U13++s14)(k14:s14=eF fI l14)(g14:l14=[36,37,38,39,40,41].map fun j=>[.v (.int .i64 (cI c j))])(e13:U13=U12++s13)(k13:s13=eT (cS c 35).data.toList)(e12:U12=U11++s12)(k12:s12=eF fI l12)(g12:l12=[31,32,33,34].map fun j=>[.v (.int .i64 (cI c j))])(e11:U11=U10++s11)(k11:s11=eSh (cR c 29) (cR c 30))(e10:U10=U9++s10)(k10:s10=eF fI l10)(g10:l10=[28].map fun j=>[.v (.int .i64 (cI c j))])(e9:U9=U8++s9)(k9:s9=eN (((cR c 27).length:Nat):Int)++eF fI (cR c 27))(e8:U8=U7++s8)(k8:s8=eF fI l8)(g8:l8=[22,23,24,25,26].map fun j=>[.v (.int .i64 (cI c j))])(e7:U7=U6++s7)(k7:IOk (cI c 19) (cI c 20) (cR c 21)->s7=aHp (cI c 19) (cI c 20) (cR c 21))(e6:U6=U5++s6)(k6:s6=eF fI l6)(g6:l6=[12,13,14,15,16,17,18].map fun j=>[.v (.int .i64 (cI c j))])(e5:U5=U4++s5)(k5:MOk (cI c 9) (cI c 10) (cR c 11)->s5=yC (cI c 9) (cI c 10) (cR c 11))(e4:U4=U3++s4)(k4:s4=eF fI l4)(g4:l4=[7,8].map fun j=>[.v (.int .i64 (cI c j))])(e3:U3=U2++s3)(k3:s3=eF fB l3)(g3:l3=[4,5,6].map fun j=>[.v (.bool (cB c j))])(e2:U2=U1++s2)(k2:s2=eT (cS c 3).data.toList)(e1:U1=U0++s1)(k1:s1=eF fI l1)(g1:l1=[0,1,2].map fun j=>[.v (.int .i64 (cI c j))])(e0:U0=[]):w=jD c:=by
 subst e0;rw[e,hU,List.take_of_length_le (show(cR c 42).length<=t.toNat by omega),e15,k15,e14,iC k14 g14,e13,k13,e12,iC k12 g12,e11,k11,e10,iC k10 g10,e9,k9,e8,iC k8 g8,e7,k7 hN.2.2,e6,iC k6 g6,e5,k5 hN.2.1,e4,iC k4 g4,e3,eB_of k3 g3,e2,k2,e1,iC k1 g1];simp only[jD,List.nil_append,QA]
def kM:KL:=[.str,.str]
def kL:KL:=[.int .i64,.str,.int .i64,.int .i64,.int .i64,.int .i64,.row 32 [.int .i64,.int .i64,.int .i64,.int .i64]]
def kD:KL:=[.int .i64,.int .i64,.int .i64,.row 440 kN,.int .i64,.int .i64,.int .i64,.row 8 [.int .i64],.row 32 kM,.row 80 kL]
def aHi(c:CL):Prop:=(cS c 0).data.toList.length<=32/\(cS c 1).data.toList.length<=256
def LOk(c:CL):Prop:=(cS c 1).data.toList.length<=32/\IOk (cI c 4) (cI c 5) (cR c 6)
def DOk(c:CL):Prop:=((cR c 3).length<=64/\(cR c 8).length<=16/\(cR c 9).length<=8)/\AllB NOk (cR c 3) (((cR c 3).length:Nat):Int)/\MOk (cI c 5) (cI c 6) (cR c 7)/\AllB aHi (cR c 8) (((cR c 8).length:Nat):Int)/\AllB LOk (cR c 9) (((cR c 9).length:Nat):Int)
def fMt(c:CL):BL:=eT (cS c 0).data.toList++eT (cS c 1).data.toList
def fLk(c:CL):BL:=eC [0] c++(eT (cS c 1).data.toList++(eC [2,3] c++aHp (cI c 4) (cI c 5) (cR c 6)))
def jR(c:CL):BL:=eC [0,1,2,4] c++(eN (((cR c 3).length:Nat):Int)++(eF jD (cR c 3)++(yC (cI c 5) (cI c 6) (cR c 7)++(eN (((cR c 8).length:Nat):Int)++(eF fMt (cR c 8)++(eN (((cR c 9).length:Nat):Int)++eF fLk (cR c 9)))))))
theorem AllB.el{f:CL->Prop}{l:LX}{i n:Int}{c:CL}(hc:elC l i=c)(h:AllB f l n)(h0:0<=i)(h1:i<n):f c:=by subst hc;exact h i h0 h1
theorem eDoc_n{c:CL}:jR ((aN kD c 0).map cSV)=jR c:=by
 unfold jR;rw[aDv (ks:=kD) (js:=[0,1,2,4]) rfl,nI (ks:=kD) (i:=5) (k:=.i64) rfl,nI (ks:=kD) (i:=6) (k:=.i64) rfl,nR (ks:=kD) (i:=3) (b:=440) (q:=kN) rfl,nR (ks:=kD) (i:=7) (b:=8) (q:=[.int .i64]) rfl,nR (ks:=kD) (i:=8) (b:=32) (q:=kM) rfl,nR (ks:=kD) (i:=9) (b:=80) (q:=kL) rfl]
theorem bCu{c:CL}:DOk ((aN kD c 0).map cSV)↔DOk c:=by
 unfold DOk;rw[nI (ks:=kD) (i:=5) (k:=.i64) rfl,nI (ks:=kD) (i:=6) (k:=.i64) rfl,nR (ks:=kD) (i:=3) (b:=440) (q:=kN) rfl,nR (ks:=kD) (i:=7) (b:=8) (q:=[.int .i64]) rfl,nR (ks:=kD) (i:=8) (b:=32) (q:=kM) rfl,nR (ks:=kD) (i:=9) (b:=80) (q:=kL) rfl]
theorem bEc{c:CL}{t3 t6 t8:Int}{w U0 U1 U2 U3 U4 U5 U6 U7 U8 s1 s2 s4 s5 s7:BL}{l1:LX}(hN:DOk c)(e:w=U8)(e8:U8=U7++eF fLk ((cR c 9).take t8.toNat))(h8:(((cR c 9).length:Nat):Int)<=t8)(e7:U7=U6++s7)(k7:s7=eN (((cR c 9).length:Nat):Int))(e6:U6=U5++eF fMt ((cR c 8).take t6.toNat))(h6:(((cR c 8).length:Nat):Int)<=t6)(e5:U5=U4++s5)(k5:s5=eN (((cR c 8).length:Nat):Int))(e4:U4=U3++s4)(k4:MOk (cI c 5) (cI c 6) (cR c 7)->s4=yC (cI c 5) (cI c 6) (cR c 7))(e3:U3=U2++eF jD ((cR c 3).take t3.toNat))(h3:(((cR c 3).length:Nat):Int)<=t3)(e2:U2=U1++s2)(k2:s2=eN (((cR c 3).length:Nat):Int))(e1:U1=U0++s1)(k1:s1=eF fI l1)(g1:l1=[0,1,2,4].map fun j=>[.v (.int .i64 (cI c j))])(e0:U0=[]):w=jR c:=by
 subst e0;rw[e,e8,List.take_of_length_le (show(cR c 9).length<=t8.toNat by omega),e7,k7,e6,List.take_of_length_le (show(cR c 8).length<=t6.toNat by omega),e5,k5,e4,k4 hN.2.2.1,e3,List.take_of_length_le (show(cR c 3).length<=t3.toNat by omega),e2,k2,e1,iC k1 g1];simp only[jR,List.nil_append,QA]
theorem aNs{l:LX}{t:Int}{U U1 U2 s1 s2 x:BL}{c:CL}(hU:U=x++eF fMt (l.take t.toNat))(hc:elC l t=c)(e2:U2=U1++s2)(k2:s2=eT (cS c 1).data.toList)(e1:U1=U++s1)(k1:s1=eT (cS c 0).data.toList)(h0:0<=t)(h1:t<((l.length:Nat):Int)):U2=x++eF fMt (l.take (t+1).toNat):=
 jQ (U':=U2) (s:=s1++s2) hU (by simp_all) (by rw[k1,k2];rfl) hc h0 h1
theorem aPq{l l1 l3:LX}{t:Int}{U U1 U2 U3 U4 s1 s2 s3 s4 x:BL}{c:CL}(hU:U=x++eF fLk (l.take t.toNat))(hc:elC l t=c)(hL:LOk c)(e4:U4=U3++s4)(k4:IOk (cI c 4) (cI c 5) (cR c 6)->s4=aHp (cI c 4) (cI c 5) (cR c 6))(e3:U3=U2++s3)(k3:s3=eF fI l3)(g3:l3=[2,3].map fun j=>[.v (.int .i64 (cI c j))])
 (e2:U2=U1++s2)(k2:s2=eT (cS c 1).data.toList)(e1:U1=U++s1)(k1:s1=eF fI l1)(g1:l1=[0].map fun j=>[.v (.int .i64 (cI c j))])(h0:0<=t)(h1:t<((l.length:Nat):Int)):U4=x++eF fLk (l.take (t+1).toNat):=
 jQ (U':=U4) (s:=s1++(s2++(s3++s4))) hU (by simp_all) (by rw[iC k1 g1,iC k3 g3,k2,k4 hL.2];rfl) hc h0 h1
theorem aTr{w h:Int}{l:LX}(h1:w=0)(h2:h=0)(h3:((l.length:Nat):Int)=0):IOk w h l:=by
 subst h1;subst h2;exact⟨⟨by omega,by omega,by omega,by omega⟩,fun j a b=>by omega⟩
theorem bDu{y k w h:Int}{l:LX}(h1:y=0->k=2->IOk w h l)(hy:y=0)(h2:k≠2->w=0/\h=0/\((l.length:Nat):Int)=0):IOk w h l:=by
 grind [aTr]
theorem nd_ok{c d:CL}{x y:Int}(aa:x=0->(((cS c 3).data.toList.length:Nat):Int)<=32/\MOk (cI c 9) (cI c 10) (cR c 11))(hx:x=0)
 (jo:y=0->cI c 1=2->IOk (cI c 19) (cI c 20) (cR c 21))
 (q2:y=0->(cI c 1=4->(((cR c 27).length:Nat):Int)<=16/\(((cR c 29).length:Nat):Int)<=16)/\(cI c 1=5->(((cR c 30).length:Nat):Int)<=128)/\(cI c 1=6->(((cS c 35).data.toList.length:Nat):Int)<=128)/\(cI c 1=7->(((cR c 27).length:Nat):Int)<=16/\(((cR c 29).length:Nat):Int)<=16)/\(cI c 1=8->(((cR c 27).length:Nat):Int)<=16)/\(cI c 1=11->(((cR c 42).length:Nat):Int)<=64))
 (hy:y=0)
 (h9:cI c 1≠2->cI d 19=cI c 19/\cI d 20=cI c 20/\(((cR d 21).length:Nat):Int)=(((cR c 21).length:Nat):Int))
 (h8:cI c 1≠4/\cI c 1≠7/\cI c 1≠8->(((cR d 27).length:Nat):Int)=(cR c 27).length)
 (h7:cI c 1≠4/\cI c 1≠7->(((cR d 29).length:Nat):Int)=(cR c 29).length)
 (h6:cI c 1≠5->(((cR d 30).length:Nat):Int)=(cR c 30).length)
 (h5:cI c 1≠6->(((cS d 35).data.toList.length:Nat):Int)=(cS c 35).data.toList.length)
 (h4:cI c 1≠11->(((cR d 42).length:Nat):Int)=(cR c 42).length)
 (a1:cI d 19=0)(a2:cI d 20=0)(a3:(((cR d 21).length:Nat):Int)=0)(a4:(((cR d 27).length:Nat):Int)=0)(a5:(((cR d 29).length:Nat):Int)=0)(a6:(((cR d 30).length:Nat):Int)=0/\(((cS d 35).data.toList.length:Nat):Int)=0/\(((cR d 42).length:Nat):Int)=0)
 :NOk c:=by
  obtain⟨qa,qb⟩:=aa hx;have q2:=q2 hy;refine⟨⟨by omega,?_,?_,by omega,by omega,by omega⟩,qb,bDu jo hy fun hk=>?_⟩
  ·omega
  ·omega
  ·have:=h9 hk;omega
theorem mt_ok{l:LX}{i z:Int}{c:CL}(hc:elC l i=c)(h:z=0->(((cS c 0).data.toList.length:Nat):Int)<=32/\(((cS c 1).data.toList.length:Nat):Int)<=256)(hz:z=0):aHi (elC l i):=by
 subst hc;have:=h hz;exact⟨by omega,by omega⟩
theorem lk_ok{l:LX}{i z:Int}{c:CL}(hc:elC l i=c)(hn:(((cS c 1).data.toList.length:Nat):Int)<=32)(h:z=0->IOk (cI c 4) (cI c 5) (cR c 6))(hz:z=0):LOk (elC l i):=by
 subst hc;exact⟨by omega,h hz⟩
end Go.AM
namespace Go.AM
open Go.RowKit
def oRd(i:Nat)(hp:HP)(K:Bool->ByteArray->Int->Int->Prop):Prop:=match hget i hp with
 |some (.box _ [.bool m,.str s,.int _ a,.int _ e])=>K m s a e
 |_=>False
def gRd(k:Nat)(fr:FR)(hp:HP)(K:Bool->ByteArray->Int->Int->Prop):Prop:=match lW k fr hp with
 |some (.ptr i _)=>oRd i hp K
 |_=>False
def RdB(T:BA)(a:Int)(bs:BL):Prop:=T.data.toList.drop a.toNat=bs
structure RdOk (T:BA) (a:Int):Prop where
 h0:0<=a
 h1:a<=((T.data.toList.length:Nat):Int)
 h2:((T.data.toList.length:Nat):Int)<=1099511627776
structure UJI (T:BA) (a0 a n i:Int):Prop where
 c:∀(v:Int) (rest:BL),0<=v->v<=18446744073709551615->RdB T a0 (eN v++rest)->∃w,0<=w/\RdB T a (eN w++rest)/\v=n+w*128^i.toNat/\(0<i->0<w)
 /-- what is read then is the rest of this number -/
 s:∀(w:Int) (rest:BL),0<=w->(0<w\/i=0)->RdB T a (eN w++rest)->RdB T a0 (eN (n+w*128^i.toNat)++rest)
def UJ(T:BA)(a0 a n i:Int):Prop:=True->UJI T a0 a n i
theorem UJ.c{T:BA}{a0 a n i:Int}(h:UJ T a0 a n i):∀(v:Int) (rest:BL),0<=v->v<=18446744073709551615->RdB T a0 (eN v++rest)->∃w,0<=w/\RdB T a (eN w++rest)/\v=n+w*128^i.toNat/\(0<i->0<w):=(h trivial).c
theorem UJ.s{T:BA}{a0 a n i:Int}(h:UJ T a0 a n i):∀(w:Int) (rest:BL),0<=w->(0<w\/i=0)->RdB T a (eN w++rest)->RdB T a0 (eN (n+w*128^i.toNat)++rest):=(h trivial).s
structure UPI (T:BA) (a0 e0 r a e:Int):Prop where
 c:∀(v:Int) (rest:BL),0<=v->v<=18446744073709551615->RdB T a0 (eN v++rest)->e0=0->r=v/\RdB T a rest/\e=0
 /-- what is read without an error stood there -/
 s:e=0->e0=0/\RdB T a0 (eN r++T.data.toList.drop a.toNat)
def UP(T:BA)(a0 e0 r a e:Int):Prop:=True->UPI T a0 e0 r a e
theorem UP.c{T:BA}{a0 e0 r a e:Int}(h:UP T a0 e0 r a e):∀(v:Int) (rest:BL),0<=v->v<=18446744073709551615->RdB T a0 (eN v++rest)->e0=0->r=v/\RdB T a rest/\e=0:=(h trivial).c
theorem UP.s{T:BA}{a0 e0 r a e:Int}(h:UP T a0 e0 r a e):e=0->e0=0/\RdB T a0 (eN r++T.data.toList.drop a.toNat):=(h trivial).s
def nBd(n i:Int):Prop:=n.toNat<128^i.toNat
theorem nBd_0:nBd 0 0:=by unfold nBd;decide
theorem UJ.init{T:BA}{a:Int}:UJ T a a 0 0:=fun _=>⟨fun v rest h0 h1 h=>⟨v,h0,h,by simp,fun h=>absurd h (by omega)⟩,fun w rest _ _ h=>by simpa using h⟩
theorem aDk{T:BA}{a:Int}{b:UInt8}{l:BL}(h:RdB T a (b::l))(h0:0<=a):a<((T.data.toList.length:Nat):Int)/\sBt T a=((b.toNat:Nat):Int)/\RdB T (a+1) l:=by
 grind [RdB,Nat.lt_or_ge,List.drop_of_length_le,List.drop_eq_getElem_cons,sBt,List.getElem?_eq_getElem]
theorem aKw{T:BA}{a:Int}{l:BL}(h0:0<=a)(h:a<((T.data.toList.length:Nat):Int))(hr:RdB T (a+1) l):∃b:UInt8,sBt T a=((b.toNat:Nat):Int)/\RdB T a (b::l):=by
 have hk:a.toNat<T.data.toList.length:=by omega
 refine⟨T.data.toList[a.toNat],?_,?_⟩
 ·grind [sBt,List.getElem?_eq_getElem]
 grind [RdB,List.drop_eq_getElem_cons]
theorem aKi{T:BA}{a w:Int}{rest:BL}(h:RdB T a (eN w++rest))(h0:0<=a)(hw:0<=w)(hl:w<128):sBt T a=w/\RdB T (a+1) rest:=by
 unfold eN at h;rw[tP (by omega)] at h;obtain⟨_,h1,h2⟩:=aDk h h0;refine⟨?_,h2⟩
 grind [UInt8.toNat_ofNat']
theorem aSu{T:BA}{a w:Int}{rest:BL}(h:RdB T a (eN w++rest))(h0:0<=a)(hl:128<=w):sBt T a=w%128+128/\RdB T (a+1) (eN (w / 128)++rest):=by
 unfold eN at h ⊢;rw[tN (by omega)] at h;obtain⟨_,h1,h2⟩:=aDk h h0;refine⟨?_,?_⟩
 ·grind [UInt8.toNat_ofNat']
 ·rw[show(w / 128).toNat=w.toNat / 128 by omega];exact h2
theorem rd_in{T:BA}{a w:Int}{rest:BL}(h:RdB T a (eN w++rest))(h0:0<=a):a<((T.data.toList.length:Nat):Int):=by
 unfold eN at h;rcases hx:eU w.toNat with _|⟨b,l⟩
 ·exact absurd hx (bDc _)
 ·rw[hx] at h;exact(aDk h h0).1
section
variable {T:BA}{a0 a n i r a' e0 e' c:Int}
theorem UP.not(h:¬e0=0):UP T a0 e0 r a' e0:=fun _=>⟨fun v rest _ _ _ k=>absurd k h,fun k=>absurd k h⟩
theorem UP.short(h:UJ T a0 a n i)(h0:0<=a)(hl:((T.data.toList.length:Nat):Int)<=a)(he:¬e'=0):UP T a0 e0 r a' e':=fun _=>⟨fun v rest v0 v1 hr _=>by
 obtain⟨w,w0,w1,_⟩:=h.c v rest v0 v1 hr;have:=rd_in w1 h0;omega,fun k=>absurd k he⟩
theorem pow9:(128:Int)^(9:Int).toNat=9223372036854775808:=rfl
theorem UP.err1(h:UJ T a0 a n i)(h0:0<=a)(hn:0<=n)(hi:i=9)(hc:c=sBt T a)(h1:1<c)(he:¬e'=0):UP T a0 e0 r a' e':=fun _=>⟨fun v rest v0 v1 hr _=>by
 obtain⟨w,w0,w1,w2,_⟩:=h.c v rest v0 v1 hr;subst hi;rw[pow9] at w2;obtain⟨k,_⟩:=aKi w1 h0 w0 (by omega);omega,fun k=>absurd k he⟩
theorem UP.err0(h:UJ T a0 a n i)(h0:0<=a)(hi:0<i)(hc:c=sBt T a)(h1:c=0)(he:¬e'=0):UP T a0 e0 r a' e':=fun _=>⟨fun v rest v0 v1 hr _=>by
 obtain⟨w,w0,w1,w2,w3⟩:=h.c v rest v0 v1 hr;have:=w3 hi;rcases Int.lt_or_le w 128 with hw|hw
 ·obtain⟨k,_⟩:=aKi w1 h0 w0 hw;omega
 ·obtain⟨k,_⟩:=aSu w1 h0 hw;omega,fun k=>absurd k he⟩
theorem aJr{z y n':Int}(rc:n'=((n.toNat ||| y.toNat:Nat):Int))(hy:y=z*2^(7*i).toNat%18446744073709551616)(hz:z=((c.toNat &&& (127:Int).toNat:Nat):Int))(hb:nBd n i)(hn:0<=n)(i0:0<=i)(i9:i<=9)(c0:0<=c)(c1:c<=255)(h9:i=9->c<=1):
 n'=n+(c%128)*128^i.toNat/\nBd n' (i+1):=by
 obtain⟨k,rfl⟩:=Int.eq_ofNat_of_zero_le i0;obtain⟨m,rfl⟩:=Int.eq_ofNat_of_zero_le hn;obtain⟨b,rfl⟩:=Int.eq_ofNat_of_zero_le c0;have e1:b &&& 127=b%128:=Nat.and_two_pow_sub_one_eq_mod b 7;have xm:z=((b%128:Nat):Int):=by simp_all
 have e2:(7*((k:Nat):Int)).toNat=7*k:=by omega
 have e3:2^(7*k)=128^k:=by rw[Nat.pow_mul]
 have xu:m<128^k:=hb;have qm:b%128*128^k<18446744073709551616:=by
  rcases Nat.lt_or_ge k 9 with hk|hk
  ·have:128^k<=128^8:=Nat.pow_le_pow_right (by omega) (by omega);have:=Nat.mul_le_mul (show b%128<=127 by omega) this;omega
  grind
 have hy':y=((b%128*128^k:Nat):Int):=by
  grind
 have e5:m ||| b%128*128^k=128^k*(b%128)+m:=by
  grind [Nat.two_pow_add_eq_or_of_lt,Nat.mul_comm]
 have e6:n'=((128^k*(b%128)+m:Nat):Int):=by
  grind
 refine⟨?_,?_⟩
 ·grind
 ·unfold nBd;rw[e6,show(((k:Nat):Int)+1).toNat=k+1 by omega,Int.toNat_natCast,Nat.pow_succ];have:=Nat.mul_le_mul (Nat.le_refl (128^k)) (show b%128<=127 by omega);omega
theorem bDh{w:Int}(h0:0<=w)(h:w<128):eN w=[UInt8.ofNat w.toNat]:=by
 grind [eN,tP]
theorem eN_ge{c w:Int}(h1:128<=c)(h2:c<=255)(hw:0<w):eN (c%128+w*128)=UInt8.ofNat c.toNat::eN w:=by
 grind [eN,tN]
theorem aMe{b:UInt8}{c:Int}(h:c=((b.toNat:Nat):Int)):b=UInt8.ofNat c.toNat:=by
 subst h;simp
theorem UJ.step(h:UJ T a0 a n i)(h0:0<=a)(hl:a<((T.data.toList.length:Nat):Int))(i0:0<=i)(hc:c=sBt T a)(h1:¬c<128){n':Int}(hn:n'=n+(c%128)*128^i.toNat):UJ T a0 (a+1) n' (i+1):=fun _=>⟨fun v rest v0 v1 hr=>by
 obtain⟨w,w0,w1,w2,w3⟩:=h.c v rest v0 v1 hr;have hw:128<=w:=by
  rcases Int.lt_or_le w 128 with hw|hw
  ·obtain⟨k,_⟩:=aKi w1 h0 w0 hw;omega
  ·exact hw
 obtain⟨k1,k2⟩:=aSu w1 h0 hw;refine⟨w / 128,by omega,k2,?_,fun _=>by omega⟩;have e1:c%128=w%128:=by omega
 rw[hn,w2,e1,show(i+1).toNat=i.toNat+1 by omega,Int.pow_succ]
 grind,fun w rest w0 w1 hr=>by
 have w1:0<w:=by omega
 obtain⟨b,b1,b2⟩:=aKw h0 hl hr;have hb:=aMe (hc.trans b1);have wv:=b.toNat_lt;have:=h.s (c%128+w*128) rest (by omega) (.inl (by omega)) (by grind [eN_ge]);rw[hn,show(i+1).toNat=i.toNat+1 by omega,Int.pow_succ]
 grind⟩
theorem UP.done(h:UJ T a0 a n i)(h0:0<=a)(hl:a<((T.data.toList.length:Nat):Int))(i0:0<=i)(hc:c=sBt T a)(h1:c<128){n':Int}(hn:n'=n+(c%128)*128^i.toNat)(he:e'=0)(hz:i=0\/¬c=0)(h00:e0=0):UP T a0 e0 n' (a+1) e':=fun _=>⟨fun v rest v0 v1 hr _=>by
 obtain⟨w,w0,w1,w2,w3⟩:=h.c v rest v0 v1 hr;have hw:w<128:=by
  rcases Int.lt_or_le w 128 with hw|hw
  ·exact hw
  ·obtain⟨k,_⟩:=aSu w1 h0 hw;omega
 grind [aKi],fun _=>⟨h00,by
 obtain⟨b,b1,b2⟩:=aKw h0 hl (rfl:RdB T (a+1) _);have hb:=aMe (hc.trans b1);have:=h.s c (T.data.toList.drop (a+1).toNat) (by omega) (by omega) (by grind [bDh])
 grind⟩⟩
end
def IP(T:BA)(a0 e0 r a e:Int):Prop:=∀(n:Int) (rest:BL),-9223372036854775808<=n->n<=9223372036854775807->RdB T a0 (eI n++rest)->e0=0->r=n/\RdB T a rest/\e=0
structure CPI (T:BA) (m a0 e0 r a e:Int):Prop where
 c:∀(n:Int) (rest:BL),0<=n->n<=m->RdB T a0 (eN n++rest)->e0=0->r=n/\RdB T a rest/\e=0
 s:e=0->e0=0/\RdB T a0 (eN r++T.data.toList.drop a.toNat)
def CP(T:BA)(m a0 e0 r a e:Int):Prop:=True->CPI T m a0 e0 r a e
theorem CP.c{T:BA}{m a0 e0 r a e:Int}(h:CP T m a0 e0 r a e):∀(n:Int) (rest:BL),0<=n->n<=m->RdB T a0 (eN n++rest)->e0=0->r=n/\RdB T a rest/\e=0:=(h trivial).c
theorem CP.s{T:BA}{m a0 e0 r a e:Int}(h:CP T m a0 e0 r a e):e=0->e0=0/\RdB T a0 (eN r++T.data.toList.drop a.toNat):=(h trivial).s
structure TPI (T:BA) (m a0 e0:Int) (w:BL) (a e:Int):Prop where
 c:∀(s rest:BL),((s.length:Nat):Int)<=m->RdB T a0 (eT s++rest)->e0=0->w=s/\RdB T a rest/\e=0
 s:e=0->e0=0/\RdB T a0 (eT w++T.data.toList.drop a.toNat)
def TP(T:BA)(m a0 e0:Int)(w:BL)(a e:Int):Prop:=True->TPI T m a0 e0 w a e
theorem TP.c{T:BA}{m a0 e0:Int}{w:BL}{a e:Int}(h:TP T m a0 e0 w a e):∀(s rest:BL),((s.length:Nat):Int)<=m->RdB T a0 (eT s++rest)->e0=0->w=s/\RdB T a rest/\e=0:=(h trivial).c
theorem TP.s{T:BA}{m a0 e0:Int}{w:BL}{a e:Int}(h:TP T m a0 e0 w a e):e=0->e0=0/\RdB T a0 (eT w++T.data.toList.drop a.toNat):=(h trivial).s
section
variable {T:BA}{a0 a n u x r m a' e0 e' z:Int}
theorem IP.odd(h:UP T a0 e0 u a e')(hu:0<=u)(hz:z=u%2)(h1:z=1)(hx:x=u / 2)(hr:r= -1 - x):IP T a0 e0 r a e':=fun n rest n0 n1 hd he=>by
 have e:zzI n=if n<0 then -(2*n) - 1 else 2*n:=rfl
 obtain⟨k1,k2,k3⟩:=h.c (zzI n) rest (by rw[e];split<;>omega) (by rw[e];split<;>omega) hd he
 grind
theorem IP.even(h:UP T a0 e0 u a e')(hu:0<=u)(hz:z=u%2)(h1:¬z=1)(hr:r=u / 2):IP T a0 e0 r a e':=fun n rest n0 n1 hd he=>by
 have e:zzI n=if n<0 then -(2*n) - 1 else 2*n:=rfl
 obtain⟨k1,k2,k3⟩:=h.c (zzI n) rest (by rw[e];split<;>omega) (by rw[e];split<;>omega) hd he
 grind
theorem CP.err(h:UP T a0 e0 u a e')(hm:m<=9223372036854775807)(h1:¬e'=0):CP T m a0 e0 r a e':=fun _=>⟨fun n rest n0 n1 hd he=>absurd (h.c n rest n0 (by omega) hd he).2.2 h1,fun k=>absurd k h1⟩
theorem CP.big(h:UP T a0 e0 u a z)(hm:m<=9223372036854775807)(h1:m<u)(hz:¬e'=0):CP T m a0 e0 r a e':=fun _=>⟨fun n rest n0 n1 hd he=>by
 have:=(h.c n rest n0 (by omega) hd he).1;omega,fun k=>absurd k hz⟩
theorem CP.ok(h:UP T a0 e0 u a e')(hm:m<=9223372036854775807)(hr:r=u):CP T m a0 e0 r a e':=fun _=>⟨fun n rest n0 n1 hd he=>by
 obtain⟨k1,k2,k3⟩:=h.c n rest n0 (by omega) hd he
 simp_all,fun k=>hr▸h.s k⟩
theorem TP.err{w:BL}(h:CP T m a0 e0 u a e')(h1:¬e'=0):TP T m a0 e0 w a e':=fun _=>⟨fun s rest hs hd he=>by
 rw[eT,QA] at hd;exact absurd (h.c _ _ (by omega) hs hd he).2.2 h1,fun k=>absurd k h1⟩
theorem bEo{l rest:BL}(h:RdB T a (l++rest))(h0:0<=a)(h1:a<=((T.data.toList.length:Nat):Int)):a+((l.length:Nat):Int)<=((T.data.toList.length:Nat):Int):=by
 have:=congrArg List.length h
 grind
theorem TP.short{w:BL}(h:CP T m a0 e0 u a z)(h0:0<=a)(h2:a<=((T.data.toList.length:Nat):Int))(h1:((T.data.toList.length:Nat):Int) - a<u)(hz:¬e'=0):TP T m a0 e0 w a' e':=fun _=>⟨fun s rest hs hd he=>by
 rw[eT,QA] at hd;obtain⟨k1,k2,_⟩:=h.c _ _ (by omega) hs hd he;have:=bEo k2 h0 h2;omega,fun k=>absurd k hz⟩
theorem TP.ok{w:BL}(h:CP T m a0 e0 u a e')(h0:0<=a)(hu:0<=u)(hb:a+u<=((T.data.toList.length:Nat):Int))(hw:w=(T.data.toList.take (a+u).toNat).drop a.toNat):TP T m a0 e0 w (a+u) e':=by
 have e1:(a+u).toNat=a.toNat+u.toNat:=by omega
 refine fun _=>⟨fun s rest hs hd he=>?_,fun k=>?_⟩
 ·rw[eT,QA] at hd;obtain⟨k1,k2,k3⟩:=h.c _ _ (by omega) hs hd he;have e2:u.toNat=s.length:=by omega
  grind [RdB,List.drop_take,List.take_left',List.drop_drop,List.drop_left']
 ·obtain⟨k1,k2⟩:=h.s k;refine⟨k1,?_⟩;have hl:((w.length:Nat):Int)=u:=by
   grind
  unfold RdB at k2 ⊢;rw[k2,eT,hl,QA];congr 1
  grind [List.drop_take,List.drop_drop,List.take_append_drop]
end
end Go.AM
namespace Go.AM
open Go.RowKit
section
variable {α:Type} [DecidableEq α]
def Gh(val:α->List UInt8)(okv:α->Prop)(T:BA)(a0 e0:Int)(w h:Int)(L:List α)(rest:BL):Prop:=((0<=w/\w<=256)/\(0<=h/\h<=256))/\(w=0↔h=0)/\((L.length:Nat):Int)=w*h/\(∀x∈L,okv x)/\RdB T a0 (eN w++(eN h++(gG val L++rest)))/\e0=0
def Gr2(val:α->List UInt8)(okv:α->Prop)(T:BA)(a0 e0 w h:Int)(L:List α)(rest:BL):Prop:=((L.length:Nat):Int)=w*h/\(∀x∈L,okv x)/\RdB T a0 (gG val L++rest)/\e0=0
def RJ(val:α->List UInt8)(un:α->List CT)(okv:α->Prop)(T:BA)(a0 e0 w h:Int)(R:LX)(p e:Int):Prop:=∀L rest,Gr2 val okv T a0 e0 w h L rest->e=0/\∃k,k<=L.length/\R=(L.take k).map un/\RdB T p (gG val (L.drop k)++rest)/\∀x y,0<k->L[k - 1]?=some x->L[k]?=some y->x≠y
def QR(val:α->List UInt8)(un:α->List CT)(okv:α->Prop)(T:BA)(a0 e0 w h:Int)(R:LX)(p e:Int):Prop:=∀w' h' L rest,Gh val okv T a0 e0 w' h' L rest->w=w'/\h=h'/\e=0/\R=L.map un/\RdB T p rest
def VP(val:α->List UInt8)(okv:α->Prop)(T:BA)(a0 e0:Int)(v:α)(p e:Int):Prop:=∀x rest,okv x->RdB T a0 (val x++rest)->e0=0->v=x/\RdB T p rest/\e=0
variable {val:α->List UInt8}{un:α->List CT}{okv:α->Prop}{T:BA}{a0 e0 w h p e p1 e1 p2 e2 n M wr hr p3 e3:Int}{R R':LX}{v:α}{m:CL->α}
theorem RJ.init(hR:R=[]):RJ val un okv T a0 e0 w h R a0 e0:=fun L rest g=>⟨g.2.2.2,0,Nat.zero_le _,by rw[hR];simp,by simpa using g.2.2.1,fun x y h=>absurd h (Nat.lt_irrefl 0)⟩
theorem Gh.two(c1:CP T (max 256 0) a0 e0 w p1 e1)(c2:CP T (max 256 0) p1 e1 h p2 e2){w' h':Int}{L:List α}{rest:BL}(g:Gh val okv T a0 e0 w' h' L rest):w=w'/\h=h'/\Gr2 val okv T p2 e2 w h L rest:=by
 obtain⟨⟨gw,gh⟩,g0,gl,go,gr,ge⟩:=g;have e256:max (256:Int) 0=256:=rfl;rw[e256] at c1 c2;obtain⟨a,b,c⟩:=c1.c _ _ gw.1 gw.2 gr ge;obtain⟨a',b',c'⟩:=c2.c _ _ gh.1 gh.2 b c;subst a;subst a';exact⟨rfl,rfl,gl,go,b',c'⟩
theorem QR.no(c1:CP T (max 256 0) a0 e0 w p1 e1)(c2:CP T (max 256 0) p1 e1 h p2 e2)(hn:¬(w=0↔h=0)):QR val un okv T a0 e0 wr hr R' p3 e3:=fun w' h' L rest g=>by
 obtain⟨a,b,_⟩:=Gh.two c1 c2 g;subst a;subst b;exact absurd g.2.1 hn
theorem QR.err(c1:CP T (max 256 0) a0 e0 w p1 e1)(c2:CP T (max 256 0) p1 e1 h p2 e2)(h1:RJ val un okv T p2 e2 w h R p e)(he:¬e=0):QR val un okv T a0 e0 wr hr R' p3 e3:=fun w' h' L rest g=>by
 obtain⟨a,b,g2⟩:=Gh.two c1 c2 g;exact absurd (h1 _ _ g2).1 he
theorem QR.ok(c1:CP T (max 256 0) a0 e0 w p1 e1)(c2:CP T (max 256 0) p1 e1 h p2 e2)(h1:RJ val un okv T p2 e2 w h R p e)(hl:¬((R.length:Nat):Int)<w*h):QR val un okv T a0 e0 w h R p e:=fun w' h' L rest g=>by
 obtain⟨a,b,g2⟩:=Gh.two c1 c2 g;obtain⟨c,k,k1,k2,k3,_⟩:=h1 _ _ g2;have qe:=g2.1
 grind [List.length_map,List.length_take,List.take_length,List.drop_length,aGk]
theorem aSv{L:List α}{k:Nat}(hk:k<L.length):∃a j,L[k]?=some a/\k<j/\j<=L.length/\(∀i b,k<=i->i<j->L[i]?=some b->b=a)/\(∀b,L[j]?=some b->b≠a)/\gG val (L.drop k)=eN (((j - k - 1:Nat):Nat):Int)++(val a++gG val (L.drop j)):=by
 have key:∀d j,L.length - j=d->k<j->j<=L.length->(∀i b,k<=i->i<j->L[i]?=some b->b=L[k])->∃j,k<j/\j<=L.length/\(∀i b,k<=i->i<j->L[i]?=some b->b=L[k])/\(∀b,L[j]?=some b->b≠L[k]):=by
  intro d
  induction d with
  |zero=>
   intro j hd h1 h2 h3;exact⟨j,h1,h2,h3,fun b hb=>by grind⟩
  |succ d ih=>
   intro j hd h1 h2 h3;have hj:j<L.length:=by omega
   by_cases e:L[j]=L[k]
   ·refine ih (j+1) (by omega) (by omega) (by omega) fun i b k1 k2 hb=>?_
    grind
   ·exact⟨j,h1,h2,h3,fun b hb hbe=>e (by simp_all)⟩
 obtain⟨j,h1,h2,h3,h4⟩:=key _ (k+1) rfl (by omega) (by omega) (fun i b k1 k2 hb=>by
  grind)
 refine⟨L[k],j,List.getElem?_eq_getElem hk,h1,h2,h3,h4,?_⟩
 grind [aAf,List.getElem?_eq_getElem,QA]
theorem RJ.run(h1:RJ val un okv T a0 e0 w h R p e)(hl:((R.length:Nat):Int)<w*h)(hM:M=w*h - ((R.length:Nat):Int) - 1)(h2:CP T (max M 0) p e n p1 e1)(h3:VP val okv T p1 e1 v p2 e2):∀L rest,Gr2 val okv T a0 e0 w h L rest->e2=0/\∃k j,k<j/\j<=L.length/\n=((j - k - 1:Nat):Int)/\R=(L.take k).map un/\L[k]?=some v/\(∀i b,k<=i->i<j->L[i]?=some b->b=v)/\(∀b,L[j]?=some b->b≠v)/\RdB T p2 (gG val (L.drop j)++rest)/\∀x y,0<k->L[k - 1]?=some x->L[k]?=some y->x≠y:=fun L rest g=>by
 obtain⟨c,k,k1,k2,k3,k4⟩:=h1 _ _ g;have qe:=g.1;have e1:R.length=k:=by simp_all
 have hk:k<L.length:=by omega
 obtain⟨a,j,j1,j2,j3,j4,j5,j6⟩:=aSv (val:=val) hk;rw[j6,QA] at k3;obtain⟨q1,q2,q3⟩:=h2.c _ _ (Int.natCast_nonneg _) (by omega) k3 c;rw[QA] at q2;obtain⟨r1,r2,r3⟩:=h3 _ _ (g.2.1 a (List.mem_of_getElem? j1)) q2 q3
 grind
theorem aTl{L:List α}{k j:Nat}{v:α}(h1:k<j)(h2:j<=L.length)(h3:∀i b,k<=i->i<j->L[i]?=some b->b=v):L.take j=L.take k++List.replicate (j - k) v:=by
 apply List.ext_getElem?
 grind
theorem RJ.next(h1:RJ val un okv T a0 e0 w h R p e)(hl:((R.length:Nat):Int)<w*h)(hM:M=w*h - ((R.length:Nat):Int) - 1)(h2:CP T (max M 0) p e n p1 e1)(h3:VP val okv T p1 e1 v p2 e2){t:Int}(hR:R'=R++List.replicate t.toNat (un v))(ht:t=n+1):RJ val un okv T a0 e0 w h R' p2 e2:=fun L rest g=>by
 obtain⟨c,k,j,k1,k2,k3,k4,k5,k6,k7,k8,_⟩:=RJ.run h1 hl hM h2 h3 _ _ g;refine⟨c,j,k2,?_,k8,fun x y _ hx hy=>?_⟩
 ·rw[hR,aTl k1 k2 k6,List.map_append,List.map_replicate,k4,show t.toNat=j - k by omega]
 grind
theorem QR.err2(c1:CP T (max 256 0) a0 e0 w p1 e1)(c2:CP T (max 256 0) p1 e1 h p2 e2)(h1:RJ val un okv T p2 e2 w h R p e)(hl:((R.length:Nat):Int)<w*h)(hM:M=w*h - ((R.length:Nat):Int) - 1){pa ea pb eb:Int}(h2:CP T (max M 0) p e n pa ea)(h3:VP val okv T pa ea v pb eb)(he:¬eb=0):QR val un okv T a0 e0 wr hr R' p3 e3:=fun w' h' L rest g=>by
 obtain⟨a,b,g2⟩:=Gh.two c1 c2 g
 grind [absurd,RJ.run]
theorem QR.dup(c1:CP T (max 256 0) a0 e0 w p1 e1)(c2:CP T (max 256 0) p1 e1 h p2 e2)(h1:RJ val un okv T p2 e2 w h R p e)(hl:((R.length:Nat):Int)<w*h)(hM:M=w*h - ((R.length:Nat):Int) - 1){pa ea pb eb:Int}(h2:CP T (max M 0) p e n pa ea)(h3:VP val okv T pa ea v pb eb){c:CL}{i:Int}(hc:elC R i=c)(hi:i=((R.length:Nat):Int) - 1)(h0:0<((R.length:Nat):Int))(hm:∀x,m (un x)=x)(hv:m c=v):QR val un okv T a0 e0 wr hr R' p3 e3:=fun w' h' L rest g=>by
 obtain⟨a,b,g2⟩:=Gh.two c1 c2 g
 grind [RJ.run,List.length_map,List.length_take,List.getElem?_take_of_lt,elC]
end
def unI(v:Int):CL:=[.v (.int .i64 v)]
def unP(p:Int×Int×Int×Int):CL:=[.v (.int .i64 p.1),.v (.int .i64 p.2.1),.v (.int .i64 p.2.2.1),.v (.int .i64 p.2.2.2)]
def okI(v:Int):Prop:=U16 v
def okQ(p:Int×Int×Int×Int):Prop:=U16 p.1/\U16 p.2.1/\U16 p.2.2.1/\U16 p.2.2.2
theorem VP.I{T:BA}{p e v p1 e1:Int}(h:CP T (max 65535 0) p e v p1 e1):VP eN okI T p e v p1 e1:=fun x rest hx hr he=>h.c x rest hx.1 hx.2 hr he
theorem VP.P{T:BA}{p e a p1 e1 b p2 e2 c p3 e3 d p4 e4:Int}(h4:CP T (max 65535 0) p3 e3 d p4 e4)(h3:CP T (max 65535 0) p2 e2 c p3 e3)(h2:CP T (max 65535 0) p1 e1 b p2 e2)(h1:CP T (max 65535 0) p e a p1 e1):VP rF okQ T p e (a,b,c,d) p4 e4:=fun x rest hx hr he=>by
 obtain⟨x1,x2,x3,x4⟩:=x;unfold rF at hr;simp only[QA] at hr;obtain⟨rfl,r1,q1⟩:=h1.c _ _ hx.1.1 hx.1.2 hr he;obtain⟨rfl,r2,q2⟩:=h2.c _ _ hx.2.1.1 hx.2.1.2 r1 q1;obtain⟨rfl,r3,q3⟩:=h3.c _ _ hx.2.2.1.1 hx.2.2.1.2 r2 q2;obtain⟨rfl,r4,q4⟩:=h4.c _ _ hx.2.2.2.1 hx.2.2.2.2 r3 q3;exact⟨rfl,r4,q4⟩
theorem mI_un(x:Int):mI (unI x)=x:=rfl
theorem pI_un(x:Int×Int×Int×Int):pI (unP x)=x:=rfl
theorem aMi{w h:Int}(h1:0<=w)(h2:0<=h):((([]:LX).length:Nat):Int)<=w*h:=Int.mul_nonneg h1 h2
theorem aFe{R:LX}{c:CL}:R=R++List.replicate (0:Int).toNat c:=by simp
theorem aFo{R R0 R' m:LX}{c:CL}{t:Int}(hR:R=R0++List.replicate t.toNat c)(e:R'=R++m)(hm:m=[c])(h0:0<=t):R'=R0++List.replicate (t+1).toNat c:=by
 rw[e,hR,hm,show(t+1).toNat=t.toNat+1 by omega,QA,List.replicate_succ']
theorem bDb{p q:Prop} [Decidable p] [Decidable q](h:(decide p !=decide q)=true):¬(p↔q):=by
 simp_all
theorem pI_v{c:CL}{x y z w:Int}(e:EqX [.int .i64 (cI c 0),.int .i64 (cI c 1),.int .i64 (cI c 2),.int .i64 (cI c 3)] [.int .i64 x,.int .i64 y,.int .i64 z,.int .i64 w]):pI c=(x,y,z,w):=by
 have e:=e.h;simp only[oA,and_true] at e
 grind [pI]
end Go.AM
namespace Go.AM
open Go.RowKit
def VC(val:CL->List UInt8)(ok:CL->Prop)(T:BA)(a0 e0:Int)(v:CL)(p e:Int):Prop:=∀x rest,ok x->RdB T a0 (val x++rest)->e0=0->v=x/\RdB T p rest/\e=0
def LP(val:CL->List UInt8)(ok:CL->Prop)(T:BA)(p0 e0 n:Int)(R:LX)(t p e:Int):Prop:=∀L rest,((L.length:Nat):Int)=n->(∀x∈L,ok x)->RdB T p0 (eF val L++rest)->e0=0->R=L.take t.toNat/\RdB T p (eF val (L.drop t.toNat)++rest)/\e=0
def LQ(val:CL->List UInt8)(ok:CL->Prop)(M:Int)(T:BA)(p0 e0:Int)(R:LX)(p e:Int):Prop:=∀L rest,((L.length:Nat):Int)<=M->(∀x∈L,ok x)->RdB T p0 (eN ((L.length:Nat):Int)++(eF val L++rest))->e0=0->R=L/\RdB T p rest/\e=0
section
variable {val:CL->List UInt8}{ok:CL->Prop}{T:BA}{p0 e0 n t p e p1 e1 p2 e2 M p3 e3:Int}{R R' m:LX}{v:CL}
theorem LP.init(hR:R=[]):LP val ok T p e n R 0 p e:=fun L rest _ _ h he=>⟨by rw[hR];simp,by simpa using h,he⟩
theorem LP.step(h:LP val ok T p0 e0 n R t p e)(h0:0<=t)(ht:t<n)(h1:VC val ok T p e v p1 e1)(hR:R'=R++m)(hm:m=[v]):LP val ok T p0 e0 n R' (t+1) p1 e1:=fun L rest hl ho hr he=>by
 obtain⟨k1,k2,k3⟩:=h L rest hl ho hr he;have hk:t.toNat<L.length:=by omega
 rw[List.drop_eq_getElem_cons hk,aZe,QA] at k2;obtain⟨q1,q2,q3⟩:=h1 _ _ (ho _ (List.getElem_mem hk)) k2 k3
 grind [List.take_succ_eq_append_getElem]
theorem LQ.err2(c:CP T (max M 0) p0 e0 n p1 e1)(h:LP val ok T p1 e1 n R t p e)(h0:0<=t)(ht:t<n)(h1:VC val ok T p e v p2 e2)(he:¬e2=0):LQ val ok M T p0 e0 R' p3 e3:=fun L rest hl ho hr hz=>by
 obtain⟨k1,k2,k3⟩:=c.c _ _ (by omega) (by omega) hr hz;exact absurd ((LP.step h h0 ht h1 rfl rfl) L rest k1.symm ho k2 k3).2.2 he
theorem LQ.fine(c:CP T (max M 0) p0 e0 n p1 e1)(h:LP val ok T p1 e1 n R t p e)(ht:n<=t):LQ val ok M T p0 e0 R p e:=fun L rest hl ho hr hz=>by
 obtain⟨k1,k2,k3⟩:=c.c _ _ (by omega) (by omega) hr hz;obtain⟨q1,q2,q3⟩:=h L rest k1.symm ho k2 k3
 grind [List.take_of_length_le,List.drop_of_length_le,bFb]
end
def I64(n:Int):Prop:= -9223372036854775808<=n/\n<=9223372036854775807
def okC(n:Nat)(c:CL):Prop:=c=(List.range n).map (fun j=>.v (.int .i64 (cI c j)))/\∀j,j<n->I64 (cI c j)
def NP(T:BA)(p e:Int)(vs:List Int)(p' e':Int):Prop:=∀ns rest,ns.length=vs.length->(∀x∈ns,I64 x)->RdB T p (ns.flatMap eI++rest)->e=0->vs=ns/\RdB T p' rest/\e'=0
section
variable {T:BA}{p e p1 e1 p' e' v:Int}{vs:List Int}
theorem NP.nil:NP T p e [] p e:=fun ns rest h _ hr he=>by
 simp_all
theorem NP.cons(h:NP T p1 e1 vs p' e')(k:IP T p e v p1 e1):NP T p e (v::vs) p' e':=fun ns rest hl ho hr he=>by
 rcases ns with _|⟨x,ns⟩
 ·cases hl
 ·rw[List.flatMap_cons,QA] at hr;have hx:=ho x (List.mem_cons_self ..);obtain⟨a,b,c⟩:=k x _ hx.1 hx.2 hr he;obtain⟨a',b',c'⟩:=h ns rest (by simpa using hl) (fun y hy=>ho y (List.mem_cons_of_mem _ hy)) b c
  simp_all
theorem VC.C{n:Nat}(h:NP T p e vs p' e')(hn:vs.length=n):VC (eC (List.range n)) (okC n) T p e (vs.map fun v=>.v (.int .i64 v)) p' e':=fun x rest hx hr he=>by
 have e0:eC (List.range n) x=((List.range n).map fun j=>cI x j).flatMap eI:=by simp only[eC,List.flatMap_map]
 rw[e0] at hr
 obtain⟨a,b,c⟩:=h _ rest (by simp_all) (fun y hy=>by
  obtain⟨j,hj,rfl⟩:=List.mem_map.1 hy;exact hx.2 j (List.mem_range.1 hj)) hr he
 refine⟨?_,b,c⟩;rw[a,hx.1,List.map_map];refine List.map_congr_left fun j hj=>?_;have hj:=List.mem_range.1 hj;have:cI ((List.range n).map fun j=>(CT.v (.int .i64 (cI x j)))) j=cI x j:=by
  conv=>rhs;rw[hx.1]
 simp_all
end
section
variable {T:BA}{p e a p1 e1 b p2 e2 c p3 e3 d p4 e4 f p5 e5 g p6 e6 h p7 e7:Int}
theorem VC.I(h1:IP T p e a p1 e1):VC fI (okC 1) T p e [.v (.int .i64 a)] p1 e1:=by
 have:=VC.C (n:=1) (NP.cons NP.nil h1) rfl;exact fun x rest hx hr he=>this x rest hx (by grind [fI,eC,List.range,List.range.loop]) he
theorem VC.P(h2:IP T p1 e1 b p2 e2)(h1:IP T p e a p1 e1):VC fP (okC 2) T p e [.v (.int .i64 a),.v (.int .i64 b)] p2 e2:=VC.C (n:=2) (NP.cons (NP.cons NP.nil h2) h1) rfl
theorem VC.S(h5:IP T p4 e4 f p5 e5)(h4:IP T p3 e3 d p4 e4)(h3:IP T p2 e2 c p3 e3)(h2:IP T p1 e1 b p2 e2)(h1:IP T p e a p1 e1):VC fS (okC 5) T p e [.v (.int .i64 a),.v (.int .i64 b),.v (.int .i64 c),.v (.int .i64 d),.v (.int .i64 f)] p5 e5:=VC.C (n:=5) (NP.cons (NP.cons (NP.cons (NP.cons (NP.cons NP.nil h5) h4) h3) h2) h1) rfl
theorem VC.G(h7:IP T p6 e6 h p7 e7)(h6:IP T p5 e5 g p6 e6)(h5:IP T p4 e4 f p5 e5)(h4:IP T p3 e3 d p4 e4)(h3:IP T p2 e2 c p3 e3)(h2:IP T p1 e1 b p2 e2)(h1:IP T p e a p1 e1):VC fG (okC 7) T p e [.v (.int .i64 a),.v (.int .i64 b),.v (.int .i64 c),.v (.int .i64 d),.v (.int .i64 f),.v (.int .i64 g),.v (.int .i64 h)] p7 e7:=VC.C (n:=7) (NP.cons (NP.cons (NP.cons (NP.cons (NP.cons (NP.cons (NP.cons NP.nil h7) h6) h5) h4) h3) h2) h1) rfl
end
def FP(T:BA)(p e:Int)(b:Bool)(p' e':Int):Prop:=∀(x:Bool) rest,RdB T p (eN (if x=true then 1 else 0)++rest)->e=0->b=x/\RdB T p' rest/\e'=0
theorem FP.fine{T:BA}{p e n p1 e1:Int}(h:UP T p e n p1 e1){b:Bool}(hb:b=decide (n=1)):FP T p e b p1 e1:=fun x rest hr he=>by
 obtain⟨a,k,c⟩:=h.c (if x=true then 1 else 0) rest (by split<;>omega) (by split<;>omega) hr he
 simp_all
theorem FP.bad{T:BA}{p e n p1 e1 e2:Int}(h:UP T p e n p1 e1)(h1:1<n){b:Bool}:FP T p e b p1 e2:=fun x rest hr he=>by
 obtain⟨a,k,c⟩:=h.c (if x=true then 1 else 0) rest (by split<;>omega) (by split<;>omega) hr he;split at a<;>omega
end Go.AM
