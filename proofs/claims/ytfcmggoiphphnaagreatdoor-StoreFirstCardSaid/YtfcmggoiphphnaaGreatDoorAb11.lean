/-
  An abstract machine that runs a program of the given form, and its soundness, part 11.
-/
import Derived.Test.YtfcmggoiphphnaaGreatDoorAb10
set_option linter.unusedVariables false
set_option linter.unusedSimpArgs false
set_option linter.unusedSectionVars false
noncomputable section
namespace Go.AM
open Go.RowKit
variable [σ:Sg]
variable [γ:Gam]
theorem aZl{v:SV}{K:SP}(h:frcP v K):K v:=by
 cases v with
 |ptr i o=>exact fD (K:=fun i=>K (.ptr i o)) h
 |_=>exact jS h
theorem aGm:∀{l:SL} {K:SL->Prop},aVg l K->K l
 |[],K,h=>h
 |x::r,K,h=>aGm (l:=r) (K:=fun r=>K (x::r)) (aZl (v:=x) (K:=fun x=>aVg r fun r=>K (x::r)) h)
theorem aZd{v:SV}{K:SP}(h:frcI v K):K v:=by
 cases v with
 |fn g l=>exact aGm (K:=fun l=>K (.fn g l)) h
 |ow i=>exact fD (K:=fun i=>K (.ow i)) h
 |ptr i o=>exact fD (K:=fun i=>K (.ptr i o)) h
 |_=>exact jS h
theorem wD:∀{l:SL} {K:SL->Prop},aBa l K->K l
 |[],K,h=>h
 |x::r,K,h=>wD (l:=r) (K:=fun r=>K (x::r)) (aZd (v:=x) (K:=fun x=>aBa r fun r=>K (x::r)) h)
variable {P:PG}{E:Env P}
section
variable {ρ' ρ2:RM}{A:NQ}{H:AH}{f:Nat->Nat}
mutual
theorem bFj(hf:∀i v,ρ' i=some v->ρ2 (f i)=some v):∀{s:SV} {v:Value},Rep ρ' A H s v->Rep ρ2 A H (mpS f s) v
 |.ow i,v,h=>by grind [mpS,Rep]
 |.ptr i o,v,h=>by grind [mpS,Rep]
 |.op i j o m,v,h=>by grind [mpS,Rep]
 |.agg l,v,h=>by simp only[mpS,Rep] at h ⊢;obtain⟨vs,h1,h2⟩:=h;exact⟨vs,h1,mpL_ok hf h2⟩
 |.tup l,v,h=>by simp only[mpS,Rep] at h ⊢;obtain⟨vs,h1,h2⟩:=h;exact⟨vs,h1,mpL_ok hf h2⟩
 |.fn g l,v,h=>by simp only[mpS,Rep] at h ⊢;obtain⟨vs,h1,h2⟩:=h;exact⟨vs,h1,mpL_ok hf h2⟩
 |.undef,v,h=>by grind [mpS,Rep]
 |.int _ _,v,h=>by grind [mpS,Rep]
 |.bool _,v,h=>by grind [mpS,Rep]
 |.str _,v,h=>by grind [mpS,Rep]
 |.nil,v,h=>by grind [mpS,Rep]
 |.pnil,v,h=>by grind [mpS,Rep]
 |.row _ _ _,v,h=>by grind [mpS,Rep]
 |.el _ _ _,v,h=>by grind [mpS,Rep]
 |.gp _ _,v,h=>by grind [mpS,Rep]
 |.rng _ _,v,h=>by grind [mpS,Rep]
 |.any,v,h=>by simp only[mpS,Rep]
 |.yl _,v,h=>by grind [mpS,Rep]
 |.ep _ _ _ _ _,v,h=>by grind [mpS,Rep]
 |.xp i o m,v,h=>by grind [mpS,Rep]
theorem mpL_ok(hf:∀i v,ρ' i=some v->ρ2 (f i)=some v):∀{s:SL} {v:VL},Reps ρ' A H s v->Reps ρ2 A H (mpL f s) v
 |[],[],h=>by simp only[mpL,Reps]
 |s::t,v::vs,h=>by simp only[mpL,Reps] at h ⊢;exact⟨bFj hf h.1,mpL_ok hf h.2⟩
 |[],_::_,h=>by simp only[Reps] at h
 |_::_,[],h=>by simp only[Reps] at h
end
theorem RepO.mp(hf:∀i v,ρ' i=some v->ρ2 (f i)=some v){i:Nat}{o:SJ}{L:OL}(h:RepO E ρ' A H i o L):RepO E ρ2 A H (f i) (match o with|.box t cs=>.box t (mpL f cs)|.row b ks l=>.row b ks l|.oth o=>.box 0 []) L\/∃o',o=.oth o':=by
 cases o with
 |box t cs=>obtain⟨N,vs,h1,h2,h3⟩:=h;exact .inl ⟨N,vs,hf _ _ h1,h2,mpL_ok hf h3⟩
 |row b ks l=>obtain⟨x,h1,h2⟩:=h;exact .inl ⟨x,hf _ _ h1,h2⟩
 |oth o=>exact .inr ⟨o,rfl⟩
omit [γ:Gam] in
def aCs(f:Nat->Nat):PSs->PSs
 |[]=>[]
 |(i,L)::r=>(f i,L)::aCs f r
theorem aEi:∀PS:PSs,flt (aCs f PS)=flt PS
 |[]=>rfl
 |(i,L)::r=>by simp only[aCs,flt,aEi r]
theorem aKd(hf:∀i v,ρ' i=some v->ρ2 (f i)=some v){hc:HP}{PSc:PSs}(cv:RepH E ρ2 A H hc PSc):∀{h:HP} {PS:PSs} {K:HP->Prop},RepH E ρ' A H h PS->ins f h hc K->∃qc,K qc/\RepH E ρ2 A H qc (aCs f PS++PSc)
 |[],PS,K,hr,k=>by
  have hr:PS=[]:=hr;subst hr;exact⟨hc,k,cv⟩
 |(i,.box t cs)::r,PS,K,⟨L,PS',h1,h2,h3⟩,k=>by
  have k:=fD (K:=fun j=>aBa (mpL f cs) fun cs=>ins f r hc fun r=>K ((j,.box t cs)::r)) k;have k:=wD k;obtain⟨qc,k1,k2⟩:=aKd hf cv h3 k;subst h1;exact⟨_,k1,L,_,rfl,(h2.mp hf).resolve_right (fun⟨_,e⟩=>by cases e),k2⟩
 |(i,.oth o)::r,PS,K,_,k=>(k:False).elim
 |(i,.row b ks l)::r,PS,K,⟨L,PS',h1,h2,h3⟩,k=>by
  have k:=fD (K:=fun j=>ins f r hc fun r=>K ((j,.row b ks l)::r)) k;obtain⟨qc,k1,k2⟩:=aKd hf cv h3 k;subst h1;exact⟨_,k1,L,_,rfl,(h2.mp hf).resolve_right (fun⟨_,e⟩=>by cases e),k2⟩
end
section
variable {G:RG}{ri:RI}{i n d nx:Nat}{r:OL2}{Q:FQ}{t:Tr Value}{l:LV}{H0:AH}{A:NQ}{ρ:RM}{fs:FR}{hp:HP}{PS:PSs}{L0 L Li:OL}
 {ty:TY}{ps:String}{af:Array Edge}{gd:OB}
theorem RiOk.grw{K:Prop}(hR:RiOk G ri PS L0 nx A H0)(h:wgr ri K):(G.D=true->ri.G=true)/\K:=by
 unfold wgr at h;rw[hR.d] at h
 grind
theorem wV{c:Call}{z:Operand}{g:FuncId}{fa fb vs args:VL}(T':Value->AH->NQ->OL->Prop)(hw:gok G.ops l gd=true)(qd:Nat.ble (d+1) n=true)(hm:G.D=true->i∈G.ms)(hc:c.callee=.value z)(hz:opv l z=some (.func (.func g) ⟨fa⟩ ⟨fb⟩))(hg:∃fn,E.fn g=some fn)(ha:Opvs l c.args.toList vs)(qj:fa++(vs++fb)=args)(ht:(Li++L0).Perm L)(wi:G.D=true->G.Lw.Sublist L0)
 (hk:∀H,HS G.S H0 G.A0 A (Li++L0) H->XCall P g args H fun u H'=>bEl G.S H0 G.A0 A L0 T' u H')
 (h:∀u H1 A1 Lo,Gr A H0 A1 H1->T' u H1 A1 Lo->SO E G (i+1) r Q (fr n t ((d,u)::l)) H1 A1 (Lo++L0)):SO E G i (⟨some d,.call c,ty,ps,af,gd⟩::r) Q (fr n t l) H0 A L:=
 dM hw rfl qd hm fun hD H hH=>by
  obtain⟨fn,hg⟩:=hg;obtain⟨u,H',⟨H1,A1,Lo,q2,q1,hu⟩,zj,qh⟩:=hk H (hH.perm ht);have zk:DSub G H0 A L0:=fun qw=>by
   obtain⟨h1,h2,h3,h4⟩:=hD qw
   grind
  refine⟨u,H',H1,A1,Lo++L0,.inr ⟨zj,g,args,?_,qh⟩,q1,(zk.fresh (H:=H) q2).list fun hD=>(wi hD).trans (List.sublist_append_right _ _),h u H1 _ Lo q2 hu⟩;simp only[bM,hc,aG hz,hg,ha.ok,qj]
theorem aPd{ci:CtrI}{c:Call}{z:Operand}{g:Nat}{ss:SL}{fb vs args:VL}{K:SV->FR->HP->Nat->Prop}(xh:aU E ri.tb g ci)(hg:∃fn,E.fn g=some fn)(hD:Den E ρ nx fs hp PS A H0 l)(hR:RiOk G ri PS L0 nx A H0)(h:aHa ri i ci ss hp nx fun v hp nx=>K v fs hp nx)(hr:Reps ρ A H0 ss args)
 (hw:gok G.ops l gd=true)(qd:Nat.ble (d+1) n=true)(hc:c.callee=.value z)(hz:opv l z=some (.func (.func g) ⟨[]⟩ ⟨fb⟩))(ha:Opvs l c.args.toList vs)(qj:vs++fb=args)
 (hK:∀s qc nx',K s fs qc nx'->∀ρ' PS' A' H' u,Den E ρ' nx' fs qc PS' A' H' l->RiOk G ri PS' L0 nx' A' H'->RMle ρ ρ'->Gr A H0 A' H'->Rep ρ' A' H' s u->SO E G (i+1) r Q (fr n t ((d,u)::l)) H' A' (flt PS'++L0)):
 SO E G i (⟨some d,.call c,ty,ps,af,gd⟩::r) Q (fr n t l) H0 A (flt PS++L0):=by
 unfold aHa at h;obtain⟨hm,h⟩:=hR.mn h;obtain⟨hG,h⟩:=hR.grw h;have m0:MI E ρ A H0 ri (G.D=true) PS [] noR [] 0 [] hp [] PS:=⟨fun _ _=>rfl,(fun i v e=>by cases e),rfl,hD.hp,List.Perm.refl _,fun _=>rfl,(fun i hi=>by cases hi),fun _ i hi=>by cases hi⟩;obtain⟨ss',hl,nl,th,z6,ρk,PSk,PSc,k,m,_,r1,g1⟩:=aMm hR.d m0 h hr;have k:=k ⟨pY r1⟩;refine wV (Li:=flt PSk) (L0:=flt PSc++L0) (fa:=[]) (fb:=fb) (args:=args) (fun u H1 A1 Lo=>∃ρ' PS' ho rs us,Lo=flt PS'/\(∀K:SL->HP->Prop,(wZ (lT ci.ps 0) (plc ci.rs nl (iI (cA ci.ps 0).2 hl)) fun ho=>aOr ci.rs nl fun rs=>K rs ho)->K rs ho)/\(∀i,aJ i (cA ci.ps 0).1=true->∀v,ρk i=some v->ρ' i=some v)/\(∀i,nxR ci.rs nl<=i->ρ' i=none)/\(∀i v,ρ' i=some v->v.oneCell'=true)/\Reps ρ' A1 H1 rs us/\RepH E ρ' A1 H1 ho PS'/\u=bG us/\ci.post ss' hl rs ho) hw qd hm hc hz hg ha (by simp_all) (by rw[<-QA];exact List.Perm.append_right _ (by simpa only[List.nil_append] using m.pm)) (fun qw=>?_) (fun H hH=>?_) ?_
 ·rw[<-hR.lw qw,<-m.lw qw]
  grind [kJ]
 ·refine(xh _ _ _ _ (flt PSc++L0) ρk PSk ss' args hl nl hR.tb.1 (fun KK hK=>g1 KK hK) m.no m.one r1 m.hk k.h H hH).mono ?_;rintro u H' _ ⟨H1,A1,ρ',PS',ho,rs,us,q1,q2,q3,q4,q5,q6,q7,q8,q9,q10⟩;exact⟨H1,A1,flt PS',q1,q2,ρ',PS',ho,rs,us,rfl,q3,q4,q5,q6,q7,q8,q9,q10⟩
 ·rintro u H1 A1 Lo gg ⟨ρ',PS',ho,rs,us,rfl,q3,q4,q5,q6,q7,q8,rfl,q10⟩;have kk:=q3 (fun rs ho=>HyP (ci.post ss' hl rs ho)->ins (bkI (cA ci.ps 0).1 th nx) ho z6 fun qc=>aBa (mpL (bkI (cA ci.ps 0).1 th nx) rs) fun rs'=>oE (nx+nxR ci.rs nl) fun nx'=>K (oB rs') fs qc nx') k.t ⟨q10⟩
  let ρ2:RM:=fun j=>if j<nx then ρ j else ρ' (j - nx)
  have qf:RMle ρ ρ2:=fun j v e=>by
   have:j<nx:=by
    rcases Nat.lt_or_ge j nx with h1|h1
    ·exact h1
    ·rw[hD.no j h1] at e;cases e
   grind
  have hf:∀a v,ρ' a=some v->ρ2 (bkI (cA ci.ps 0).1 th nx a)=some v:=fun a v e=>by
   have far:ρ2 (nx+a)=some v:=by
    grind
   unfold bkI;cases e1:aJ a (cA ci.ps 0).1 with
   |false=>exact far
   |true=>
    rw[QT];cases e2:xG a th with
    |false=>exact far
    |true=>
     rw[QT];obtain⟨w,w1,w2⟩:=m.tt a e2;rw[q4 a e1 w w1] at e;cases e;exact qf _ _ w2
  obtain⟨qc,k1,k2⟩:=aKd (E:=E) hf (RepH.mono qf gg m.hr) q8 kk;have k3:=fD (wD k1);have qv:G.D=true->fA ri.st (aCs (bkI (cA ci.ps 0).1 th nx) PS')=[]:=fun qw=>by
   have key:∀PS:PSs,fA ri.st (aCs (bkI (cA ci.ps 0).1 th nx) PS)=[]:=by
    intro PS
    induction PS with
    |nil=>rfl
    |cons p r ih=>
     obtain⟨a,L⟩:=p;have e:aJ (bkI (cA ci.ps 0).1 th nx a) ri.st=false:=by
      have far:aJ (nx+a) ri.st=false:=by
       cases e:aJ (nx+a) ri.st with
       |false=>rfl
       |true=>exact absurd (hR.lt qw _ e) (by omega)
      unfold bkI;cases e1:aJ a (cA ci.ps 0).1 with
      |false=>exact far
      |true=>
       rw[QT];cases e2:xG a th with
       |false=>exact far
       |true=>rw[QT];exact m.ns qw a e2
     simp only[aCs,fA,e,QF,ih]
   exact key PS'
  have tj:Den E ρ2 (nx+nxR ci.rs nl) fs qc (aCs (bkI (cA ci.ps 0).1 th nx) PS'++PSc) A1 H1 l:=by
   refine⟨fun j hj=>?_,fun j v e=>?_,RepF.mono qf gg hD.fr,k2⟩
   ·grind
   ·have e':(if j<nx then ρ j else ρ' (j - nx))=some v:=e;split at e'
    ·exact hD.one _ _ e'
    ·exact q6 _ _ e'
  have cw:RiOk G ri (aCs (bkI (cA ci.ps 0).1 th nx) PS'++PSc) L0 (nx+nxR ci.rs nl) A1 H1:=
   ⟨hR.d,hR.ops,hR.ms,fun qw=>by rw[gO,qv qw,List.nil_append,m.lw qw];exact hR.lw qw,fun qw j hj=>Nat.lt_of_lt_of_le (hR.lt qw j hj) (Nat.le_add_right _ _),(fun qw e=>by simp_all),hR.tb⟩
  have:=hK _ _ _ k3 ρ2 _ A1 H1 (bG us) tj cw qf gg (rB (mpL_ok hf q7))
  grind [bN,aEi,QA]
theorem aOz{W:IW}{c:Call}{z:Operand}{g:Nat}{ss:SL}{fb vs args:VL}{K:SV->FR->HP->Nat->Prop}(xh:bW E ri.tb g W)(hg:∃fn,E.fn g=some fn)(hD:Den E ρ nx fs hp PS A H0 l)(hR:RiOk G ri PS L0 nx A H0)(h:sD ri i W ss fs hp nx K)(hr:Reps ρ A H0 ss args)
 (hw:gok G.ops l gd=true)(qd:Nat.ble (d+1) n=true)(hc:c.callee=.value z)(hz:opv l z=some (.func (.func g) ⟨[]⟩ ⟨fb⟩))(ha:Opvs l c.args.toList vs)(qj:vs++fb=args)
 (hK:KVx E G ri L0 i n d r Q t l ρ A H0 K):SO E G i (⟨some d,.call c,ty,ps,af,gd⟩::r) Q (fr n t l) H0 A (flt PS++L0):=by
 unfold sD at h;cases eD:ri.D with
 |true=>
  rw[eD,QT] at h;obtain⟨hm,h⟩:=hR.mn h;cases eG:ri.G with
  |false=>rw[eG] at h;exact h.elim
  |true=>
   rw[eG,QT] at h;obtain⟨hb,h,hrb⟩:=aBy h hD.hp;obtain⟨hq,h,hra⟩:=aBy h hD.hp;refine wV (Li:=flt (kpP ri.st false PS)) (L0:=flt (kpP ri.st true PS)++L0) (fa:=[]) (fb:=fb) (args:=args) (fun u H1 A1 Lo=>∃ρ' PS' fx s qc nx',Lo=flt PS'/\(cond (wO ri.fx fx) (cond (okH fx hb) (cond (aOm (lQ qc) ri.st) (cond (Nat.ble nx nx') (kpF fx fs fun fr=>apH qc hb fun hp=>K s fr hp nx') (Bad 101)) (Bad 102)) (Bad 103)) (Bad 104))/\FxR fx ρ ρ'/\(∀i,nx'<=i->ρ' i=none)/\(∀i v,ρ' i=some v->v.oneCell'=true)/\RepH E ρ' A1 H1 qc PS'/\Rep ρ' A1 H1 s u) hw qd hm hc hz hg ha (by simp_all) (by grind [QA,List.Perm.append_right,xA]) (fun qw=>by rw[yD,hR.lw qw];simp_all) (fun H hH=>?_) ?_
   ·refine(xh _ _ _ _ _ (flt (kpP ri.st true PS)++L0) ρ _ ss args hq nx _ hR.tb.1 hD.no hD.one hr hra h H hH).mono ?_;rintro u H' _ ⟨H1,A1,ρ',PS',fx,s,qc,nx',q1,q2,q3,q4,q5,q6,q7,q8⟩;exact⟨H1,A1,flt PS',q1,q2,ρ',PS',fx,s,qc,nx',rfl,q3,q4,q5,q6,q7,q8⟩
   ·rintro u H1 A1 Lo gg ⟨ρ',PS',fx,s,qc,nx',rfl,q3,q4,q5,q6,q7,q8⟩;cases es:wO ri.fx fx with
    |false=>rw[es] at q3;exact q3.elim
    |true=>
     rw[es,QT] at q3;cases eo:okH fx hb with
     |false=>rw[eo] at q3;exact q3.elim
     |true=>
      rw[eo,QT] at q3;cases ed:aOm (lQ qc) ri.st with
      |false=>rw[ed] at q3;exact q3.elim
      |true=>
       rw[ed,QT] at q3;cases en:Nat.ble nx nx' with
       |false=>rw[en] at q3;exact q3.elim
       |true=>
        rw[en,QT] at q3;have km:=QL en;obtain⟨f',k1,k2⟩:=xL q4 q3 (RepF.mono (RMle.refl _) gg hD.fr);obtain⟨ze,k3,k4⟩:=aXt k1 q7 (aQk q4 eo (RepH.mono (RMle.refl _) gg hrb));have:=hK _ _ _ _ k3 ρ' (PS'++kpP ri.st true PS) A1 H1 u ⟨q5,q6,k2,k4⟩ ⟨hR.d,hR.ops,hR.ms,fun qw=>by rw[gO,aAp ed q7,List.nil_append,aBh];exact hR.lw qw,fun qw j hj=>Nat.lt_of_lt_of_le (hR.lt qw j hj) km,(fun _ e=>by rw[eG] at e;cases e),hR.tb⟩ (fun i hi v hv=>q4 i (rX es i hi) v hv) gg q8
        grind [bN,QA]
 |false=>
  rw[eD,QF] at h;have vx:G.D=true->False:=fun e=>by rw[<-hR.d,eD] at e;cases e
  refine wV (Li:=flt PS) (L0:=L0) (fa:=[]) (fb:=fb) (args:=args) (fun u H1 A1 Lo=>∃ρ' PS' fx s qc nx',Lo=flt PS'/\(cond (wO ri.fx fx) (kpF fx fs fun fr=>K s fr qc nx') (Bad 106))/\FxR fx ρ ρ'/\(∀i,nx'<=i->ρ' i=none)/\(∀i v,ρ' i=some v->v.oneCell'=true)/\RepH E ρ' A1 H1 qc PS'/\Rep ρ' A1 H1 s u) hw qd (fun e=>(vx e).elim) hc hz hg ha (by simp_all) (List.Perm.refl _) (fun e=>(vx e).elim) (fun H hH=>?_) ?_
  ·refine(xh _ _ _ _ _ L0 ρ PS ss args hp nx _ hR.tb.1 hD.no hD.one hr hD.hp h H hH).mono ?_;rintro u H' _ ⟨H1,A1,ρ',PS',fx,s,qc,nx',q1,q2,q3,q4,q5,q6,q7,q8⟩;exact⟨H1,A1,flt PS',q1,q2,ρ',PS',fx,s,qc,nx',rfl,q3,q4,q5,q6,q7,q8⟩
  ·rintro u H1 A1 Lo gg ⟨ρ',PS',fx,s,qc,nx',rfl,q3,q4,q5,q6,q7,q8⟩;cases es:wO ri.fx fx with
   |false=>rw[es] at q3;exact q3.elim
   |true=>
    rw[es,QT] at q3;obtain⟨f',k1,k2⟩:=xL q4 q3 (RepF.mono (RMle.refl _) gg hD.fr);exact hK _ _ _ _ k1 ρ' PS' A1 H1 u ⟨q5,q6,k2,q7⟩ ⟨hR.d,hR.ops,hR.ms,fun e=>(vx e).elim,fun e=>(vx e).elim,fun e=>(vx e).elim,hR.tb⟩ (fun i hi v hv=>q4 i (rX es i hi) v hv) gg q8
theorem so_yl{c:Call}{z:Operand}{N:Nat}{vs:VL}(T':Value->AH->NQ->OL->Prop)(hw:gok G.ops l gd=true)(qd:Nat.ble (d+1) n=true)(vx:G.D=false)(hc:c.callee=.value z)(hz:opv l z=some (.func (.yield (2*N+1)) ⟨[]⟩ ⟨[]⟩))(ha:Opvs l c.args.toList vs)(ht:(Li++L0).Perm L)
 (hk:∀H,HS G.S H0 G.A0 A (Li++L0) H->∃u H',bEl G.S H0 G.A0 A L0 T' u H'/\H'.w0=H.w0/\∀(o:Oper) (c:Call) (z:Operand) (f:Fr),o.op=.call c->c.callee=.value z->aK f z=.func (.yield (2*N+1)) ⟨[]⟩ ⟨[]⟩->c.args.toList.map (aK f)=vs->AYield P o f H u H')
 (h:∀u H1 A1 Lo,Gr A H0 A1 H1->T' u H1 A1 Lo->SO E G (i+1) r Q (fr n t ((d,u)::l)) H1 A1 (Lo++L0)):SO E G i (⟨some d,.call c,ty,ps,af,gd⟩::r) Q (fr n t l) H0 A L:=by
 intro hD H hH;obtain⟨u,H',⟨H1,A1,Lo,q2,q1,hu⟩,zj,hy⟩:=hk H (hH.perm ht);obtain⟨Ls,g,K,hr,hq⟩:=h u H1 A1 Lo q2 hu (fun qw=>by simp_all) H' q1;have hp:(fr n t l).put (some d) u=some (fr n t ((d,u)::l)):=mM (QL qd) t l u;exact⟨_,g,K,.cons (.inr (.inr (.inr ⟨cT hw,rfl,(fun qw=>by simp_all),zj,.inr ⟨vx,hy _ c z _ rfl hc (aG hz) ha.ok⟩⟩))) hp hr,hq⟩
theorem aPa{W:Nat->IW}{c:Call}{z:Operand}{N:Nat}{ss:SL}{vs:VL}{K:SV->FR->HP->Nat->Prop}(xh:bBz E ri.tb W)(hD:Den E ρ nx fs hp PS A H0 l)(hR:RiOk G ri PS L0 nx A H0)(h:cond ri.D False (sD ri i (W N) ss fs hp nx K))(hr:Reps ρ A H0 ss vs)
 (hw:gok G.ops l gd=true)(qd:Nat.ble (d+1) n=true)(hc:c.callee=.value z)(hz:opv l z=some (.func (.yield (2*N+1)) ⟨[]⟩ ⟨[]⟩))(ha:Opvs l c.args.toList vs)
 (hK:KVx E G ri L0 i n d r Q t l ρ A H0 K):SO E G i (⟨some d,.call c,ty,ps,af,gd⟩::r) Q (fr n t l) H0 A (flt PS++L0):=by
 unfold sD at h;cases eD:ri.D with
 |true=>simp_all
 |false=>
  rw[eD,QF,QF] at h;have vx:G.D=false:=by rw[<-hR.d,eD]
  refine so_yl (Li:=flt PS) (L0:=L0) (fun u H1 A1 Lo=>∃ρ' PS' fx s qc nx',Lo=flt PS'/\(cond (wO ri.fx fx) (kpF fx fs fun fr=>K s fr qc nx') (Bad 106))/\FxR fx ρ ρ'/\(∀i,nx'<=i->ρ' i=none)/\(∀i v,ρ' i=some v->v.oneCell'=true)/\RepH E ρ' A1 H1 qc PS'/\Rep ρ' A1 H1 s u) hw qd vx hc hz ha (List.Perm.refl _) (fun H hH=>?_) ?_
  ·obtain⟨u,H',⟨H1,A1,ρ',PS',fx,s,qc,nx',q1,q2,q3,q4,q5,q6,q7,q8⟩,w0,hy⟩:=xh _ _ _ _ _ L0 ρ PS ss vs hp nx N _ hR.tb hD.no hD.one hr hD.hp h H hH;exact⟨u,H',⟨H1,A1,flt PS',q1,q2,ρ',PS',fx,s,qc,nx',rfl,q3,q4,q5,q6,q7,q8⟩,w0,hy⟩
  ·rintro u H1 A1 Lo gg ⟨ρ',PS',fx,s,qc,nx',rfl,q3,q4,q5,q6,q7,q8⟩;cases es:wO ri.fx fx with
   |false=>rw[es] at q3;exact q3.elim
   |true=>
    rw[es,QT] at q3;obtain⟨f',k1,k2⟩:=xL q4 q3 (RepF.mono (RMle.refl _) gg hD.fr);exact hK _ _ _ _ k1 ρ' PS' A1 H1 u ⟨q5,q6,k2,q7⟩ ⟨hR.d,hR.ops,hR.ms,(fun e=>by rw[vx] at e;cases e),(fun e=>by rw[vx] at e;cases e),(fun e=>by rw[vx] at e;cases e),hR.tb⟩ (fun i hi v hv=>q4 i (rX es i hi) v hv) gg q8
end
def AllC(E:Env P)(tb:TBs)(C:CTb):Prop:=∀g c,oF g C=some c->(c.ext=0->c.io=none->CtrOk P tb g c/\∃fn,E.fn g=some fn)/\(c.ext≠0->aAj P g c.ext)/\(∀ci,c.io=some (.ctr ci)->aU E tb g ci/\∃fn,E.fn g=some fn)/\(∀W,c.io=some (.inl W)->bW E tb g W/\∃fn,E.fn g=some fn)/\∀W,c.io=some (.yld W)->γ.y=true/\bBz E tb W
end Go.AM
namespace Go.AM
open Go.RowKit
variable [σ:Sg]
variable [γ:Gam]
section
variable {P:PG}{E:Env P}{T:TTb}{C:CTb}{G:RG}{ri:RI}{i n d nx:Nat}{r:OL2}{Q:FQ}{t:Tr Value}{l:LV}{H0:AH}{A:NQ}{ρ:RM}{fs:FR}{hp:HP}{PS:PSs}{L0:OL}
 {ty:TY}{ps:String}{af:Array Edge}{gd:OB}{x y:Operand}
theorem Den.gr{A':NQ}{H':AH}(h:Den E ρ nx fs hp PS A H0 l)(g:Gr A H0 A' H'):Den E ρ nx fs hp PS A' H' l:=⟨h.no,h.one,RepF.mono (RMle.refl _) g h.fr,RepH.mono (RMle.refl _) g h.hp⟩
theorem Den.put{s:SV}{u:Value}(h:Den E ρ nx fs hp PS A H0 l)(k:Rep ρ A H0 s u)(d:Nat):Den E ρ nx ((d,s)::fs) hp PS A H0 ((d,u)::l):=⟨h.no,h.one,⟨u,l,rfl,k,h.fr⟩,h.hp⟩
omit [γ:Gam] [σ:Sg] in
theorem aMw:∀{l:NL} {n m:Nat},atN l n=some m->m∈l
 |[],n,m,h=>by simp[atN] at h
 |x::r,0,m,h=>by grind [atN,List.mem_cons_self]
 |x::r,n+1,m,h=>by simp only[atN] at h;exact List.mem_cons_of_mem _ (aMw h)
omit [γ:Gam] [σ:Sg] in
theorem bFo{n m:Nat}(h:atN aJh n=some m):m<200:=by
 have e:=aMw h;have e2:aJh=List.range' 0 200:=by kernel_rfl
 simp_all
theorem aYo(hT:dA E T)(hD:Den E ρ nx fs hp PS A H0 l){c:Call}{ta:TY}{s:SV}{u:Value}{K:SP}(h:bDy T ta s hp K)(hx:Rep ρ A H0 s u)(hw:gok G.ops l gd=true)(qd:Nat.ble (d+1) n=true)(hc:c.callee=.builtin .len)(ha:c.args.toList=[x])(ht:c.argTypes.toList=[ta])(ho:opv l x=some u)
 (hK:∀s v,K s->Rep ρ A H0 s v->SO E G (i+1) r Q (fr n t ((d,v)::l)) H0 A (flt PS++L0)):SO E G i (⟨some d,.call c,ty,ps,af,gd⟩::r) Q (fr n t l) H0 A (flt PS++L0):=by
 have wfl:∀m:Nat,m<=9223372036854775807->Rep ρ A H0 (.int .i64 ((m:Nat):Int)) (.int .i64 ((m:Nat):Int)):=fun m hm=>by
  simp only[Rep];refine⟨trivial,kP ?_ ?_⟩
  ·grind [IntKind.min,IntKind.bits,IntKind.signed]
  grind [IntKind.max,IntKind.bits,IntKind.signed]
 unfold bDy at h;split at h
 ·rename_i ti qs;obtain⟨w,xx,_,hs⟩:=(hT _ _ qs).und;split at h
  ·rename_i e qn;rw[qn] at hs;simp only[cM] at hs;subst hs;split at h
   ·grind [Rep,sB]
   ·rename_i b ks rr;simp only[Rep] at hx;obtain⟨r2,a,cap,e,rfl,rx⟩:=hx.rowD;cases e;have:=rx.len;exact sB hw qd hc ha ht ho xx (hK _ _ (h (by omega) rx.bytes) (wfl _ (by omega)))
   ·rename_i id;split at h
    ·rename_i b ks rr hg;obtain⟨La,X,Y,qq,⟨x',r1,r2⟩,_⟩:=hD.hp.get hg;simp only[Rep] at hx;rw[hx] at r1;cases r1;have:=r2.1;obtain⟨a,rfl⟩:=r2.shape
     grind [sB]
    ·rename_i cs hg;obtain⟨La,X,Y,qq,⟨M,vs,ex,r1,r2,r3⟩,_⟩:=hD.hp.get hg;simp only[Rep] at hx;rw[hx] at r1;cases r1;have h':=h;unfold oE at h';split at h'
     ·rename_i m hm;have e:=aFn hm;have e2:m<200:=by
       have:=bFo hm;exact this
      have e3:vs.length=m:=by rw[r3.len,<-dQ,<-e]
      grind [sB]
     ·exact h'.elim
    ·exact h.elim
   ·exact h.elim
  ·rename_i qn;rw[qn] at hs;simp only[cM] at hs;subst hs;split at h
   ·rename_i s;simp only[Rep] at hx;obtain⟨rfl,hm⟩:=hx;have tw:s.data.toList.length<=9223372036854775807:=hm
    grind [uM]
   ·exact h.elim
  ·exact h.elim
 ·exact h.elim
theorem aLv{c:Call}{z:Operand}{g k:Nat}{ss:SL}{vs:VL}{K:SP}{F:Func}(ez:aJi z=true)(hz:opv l z=some (.func (.func g) ⟨[]⟩ ⟨[]⟩))(h:bBo (k+1) ss K)(hr:Reps ρ A H0 ss vs)(hF:P.funcs[g]?=some F)(hb:F.body=none)(ho:F.origin= "")(hn:F.name=extN (k+1))
 (hw:gok G.ops l gd=true)(qd:Nat.ble (d+1) n=true)(hm:G.D=true->i∈G.ms)(hc:c.callee=.value z)(ha:Opvs l c.args.toList vs)
 (pk:∀s v,K s->Rep ρ A H0 s v->SO E G (i+1) r Q (fr n t ((d,v)::l)) H0 A (flt PS++L0)):SO E G i (⟨some d,.call c,ty,ps,af,gd⟩::r) Q (fr n t l) H0 A (flt PS++L0):=by
 have z6:z=.func g:=by
  cases z with
  |func g'=>grind [opv,Option.some.injEq,Value.func.injEq,Fn.func.injEq]
  |_=>cases ez
 rw[z6] at hc;unfold bBo at h;split at h
 ·rename_i a b e hk
  match vs,hr with
  |[u1,u2,u3],hr=>
   simp only[Reps,Rep] at hr;obtain⟨⟨rfl,w1⟩,⟨rfl,w2⟩,⟨rfl,w3⟩,_⟩:=hr;have a1:=cD w1;have a2:=cD w2;simp[IntKind.min,IntKind.max,IntKind.bits,IntKind.signed] at a1 a2;have q:=h a1.1 a1.2 a2.1 a2.2;rw[hk] at hn;refine aZm hF hb ho (by rw[hn];rfl) hw qd hm hc ha a1 a2 q.h fun z1 z2 b1 b2=>pk _ _ (q.t z1 z2 b1.1 b1.2 b2.1 b2.2) ?_;simp only[Rep];refine⟨_,rfl,?_⟩;simp only[Reps,Rep];exact⟨⟨trivial,kP (by simp[IntKind.min,IntKind.bits,IntKind.signed];omega) (by simp[IntKind.max,IntKind.bits,IntKind.signed];omega)⟩,⟨trivial,kP (by simp[IntKind.min,IntKind.bits,IntKind.signed];omega) (by simp[IntKind.max,IntKind.bits,IntKind.signed];omega)⟩,trivial⟩
 ·rename_i s b hk
  match vs,hr with
  |[u1,u2],hr=>
   simp only[Reps,Rep] at hr;obtain⟨⟨rfl,w1⟩,⟨rfl,w2⟩,_⟩:=hr;have w1':s.data.toList.length<=9223372036854775807:=w1;rw[hk] at hn;refine bDs hF hb ho ⟨by rw[hn];rfl,by rw[hn];rfl⟩ hw qd hm hc ha fun z hz=>pk _ _ (h w1' z hz.1 hz.2) ?_;simp only[Rep];exact⟨trivial,aLt ⟨by omega,by omega⟩⟩
 ·rename_i s b hk
  match vs,hr with
  |[u1,u2],hr=>
   simp only[Reps,Rep] at hr;obtain⟨⟨rfl,w1⟩,⟨rfl,w2⟩,_⟩:=hr;have w1':s.data.toList.length<=9223372036854775807:=w1;rw[hk] at hn;refine bEh hF hb ho ⟨⟨by rw[hn];rfl,by rw[hn];rfl⟩,by rw[hn];rfl,by rw[hn];rfl⟩ hw qd hm hc ha fun z hz=>pk _ _ (h w1' z hz.1 hz.2) ?_;simp only[Rep];exact⟨trivial,aLt ⟨by omega,by omega⟩⟩
 ·exact h.elim
theorem aNz(hC:AllC E ri.tb C)(hD:Den E ρ nx fs hp PS A H0 l)(hR:RiOk G ri PS L0 nx A H0){c:Call}{z:Operand}{g:Nat}{ss:SL}{vs:VL}{K:SP}(tq:∀ct,oF g C=some ct->ct.io=none)(h:aHl C ri i (aJi z) g ss K)(hr:Reps ρ A H0 ss vs)
 (hw:gok G.ops l gd=true)(qd:Nat.ble (d+1) n=true)(hc:c.callee=.value z)(hz:opv l z=some (.func (.func g) ⟨[]⟩ ⟨[]⟩))(ha:Opvs l c.args.toList vs)
 (hK:KV E G ri L0 i n d r Q t l ρ A H0 fun s fs' qc nx'=>fs'=fs/\qc=hp/\nx'=nx/\K s):SO E G i (⟨some d,.call c,ty,ps,af,gd⟩::r) Q (fr n t l) H0 A (flt PS++L0):=by
 unfold aHl at h;split at h
 ·rename_i ct vy;obtain⟨hm,h⟩:=hR.mn h;split at h
  case h_2 k he=>
   obtain⟨F,hF,hb,ho,hn⟩:=(hC _ _ vy).2.1 (by rw[he];simp);rw[he] at hn;have pk:∀s v,K s->Rep ρ A H0 s v->SO E G (i+1) r Q (fr n t ((d,v)::l)) H0 A (flt PS++L0):=fun s v k q=>hK.here hD hR ⟨rfl,rfl,rfl,k⟩ q;cases ez:aJi z with
   |false=>simp_all
   |true=>
    rw[ez,QT] at h
    grind [aLv]
  rename_i he;obtain⟨xh,hg⟩:=(hC _ _ vy).1 he (tq _ vy);have key:∀h:xC ct.ps ss fun vs=>HyX (bK vs)->Ob (ct.pre vs) (aAr ct.rs fun rs=>HyP (ct.post vs rs)->K (oB rs)),(pW ct.rs=true\/(G.D=true->ri.G=true))->SO E G i (⟨some d,.call c,ty,ps,af,gd⟩::r) Q (fr n t l) H0 A (flt PS++L0):=by
   intro h yc;obtain⟨ss',k1,k2,k3⟩:=aCx h hr;have k1:=k1 ⟨pY k3⟩;refine aPi (Li:=[]) (L0:=flt PS++L0) (fa:=[]) (fb:=[]) (args:=vs) (fun u H1 A1 Lo=>Lo=[]/\(pW ct.rs=true->H1=H0/\A1=A)/\∃rs us,AreP ct.rs rs/\Reps noR A1 H1 rs us/\u=bG us/\ct.post ss' rs) hw qd hm hc hz hg ha (List.append_nil vs) .nil (fun qw=>hR.sub qw) (fun H hH=>?_) ?_
   ·refine(xh _ _ _ _ _ ss' vs hR.tb.1 k2 (mY k2 k3) k1.h H hH).mono ?_;rintro u H' _ ⟨H1,A1,g1,g2,rs,us,q1,q2,q3,q4⟩;cases e:pW ct.rs with
    |true=>exact⟨H0,A,[],Gr.refl _ _,g2.shrink g1,rfl,fun _=>⟨rfl,rfl⟩,rs,us,q1,nX e q1 q2,q3,q4⟩
    |false=>exact⟨H1,A1,[],g1,g2,rfl,(fun h=>by cases h),rs,us,q1,q2,q3,q4⟩
   ·rintro u H1 A1 Lo g1 ⟨rfl,q0,rs,us,q1,q2,rfl,q4⟩;have kk:K (oB rs):=qJ k1.t q1 ⟨q4⟩;have R1:RiOk G ri PS L0 nx A1 H1:=by
     rcases yc with yc|yc
     ·simp_all
     ·exact hR.grow yc
    exact hK _ _ _ _ ⟨rfl,rfl,rfl,kk⟩ _ _ _ _ _ (hD.gr g1) R1 (RMle.refl _) g1 (rB (mY q1 q2))
  cases e:pW ct.rs with
  |true=>simp_all
  |false=>
   rw[e,QF] at h;unfold wgr at h;rw[hR.d] at h
   grind
 ·exact h.elim
section
variable {H:AH}
theorem aUr(g:Gr A H0 (fun j=>j<H.nx) H)(hH:RepH E ρ A H0 hp PS)(hg:∀p∈flt PS,H.tr.get p.1=some p.2/\p.1<H.nx){s:SV}{v:Value}{K:SP}(h:bwS s hp K)(hr:Rep ρ A H0 s v):∃s',K s'/\Rep ρ (fun j=>j<H.nx) H s' v:=by
 unfold bwS at h;split at h
 ·rename_i i;split at h
  ·rename_i b ks l cx;obtain⟨La,X,Y,qq,⟨x,r1,r2⟩,_⟩:=hH.get cx;simp only[Rep] at hr;rw[hr] at r1;cases r1;refine⟨_,h,?_⟩;simp only[Rep];obtain⟨o1,o2,⟨rfl,rfl,rfl⟩|⟨M,cs,ex,rfl,rfl,h5⟩⟩:=r2
   ·simp only[CellA];simp_all
   ·obtain⟨q1,q2⟩:=hg (M,.cells cs ks.length ex) (by rw[qq,bN];exact List.mem_append_right _ (List.mem_append_left _ (List.mem_cons_self ..)));exact aMc (A:=fun j=>j<H.nx) q1 q2 (b:=b) rfl rfl (by rw[h5.1];exact Nat.le_refl _) (fun i c hc=>CellsA.gr g _ _ _ (h5.2.2 i c hc)) (Nat.le_refl _) o1 o2
  ·exact h.elim
 ·exact⟨_,h,hr.mono (RMle.refl _) g⟩
theorem aIb(g:Gr A H0 (fun j=>j<H.nx) H)(hH:RepH E ρ A H0 hp PS)(hg:∀p∈flt PS,H.tr.get p.1=some p.2/\p.1<H.nx):∀{l:SL} {vs:VL} {K:SL->Prop},bwL l hp K->Reps ρ A H0 l vs->∃l',K l'/\Reps ρ (fun j=>j<H.nx) H l' vs
 |[],[],K,h,_=>⟨[],h,by simp only[Reps]⟩
 |s::r,v::vs,K,h,hr=>by
  simp only[Reps] at hr;obtain⟨s',k1,k2⟩:=aUr g hH hg (K:=fun v=>bwL r hp fun r=>K (v::r)) h hr.1;obtain⟨l',k3,k4⟩:=aIb g hH hg k1 hr.2
  grind [Reps]
 |[],_::_,K,_,h=>by simp only[Reps] at h
 |_::_,[],K,_,h=>by simp only[Reps] at h
theorem bDv(g:Gr A H0 (fun j=>j<H.nx) H)(hH:RepH E ρ A H0 hp PS)(hg:∀p∈flt PS,H.tr.get p.1=some p.2/\p.1<H.nx){p:PK}{s:SV}{v:Value}{K:SP}(h:coB p s hp K)(hr:Rep ρ A H0 s v):∃s',K s'/\isP p s'/\Rep ρ (fun j=>j<H.nx) H s' v:=by
 unfold coB at h;split at h
 ·obtain⟨s',k1,k2⟩:=aUr g hH hg h hr;exact tB (p:=.sc _) k1 k2
 ·simp only[Rep] at hr;obtain⟨vs,rfl,hr⟩:=hr;obtain⟨l',k1,k2⟩:=aIb g hH hg h hr;exact tB (p:=.ag _) (s:=.agg l') k1 (by simp only[Rep];exact⟨vs,rfl,k2⟩)
 ·rename_i b ks i o;cases e0:Nat.beq o 0 with
  |false=>simp_all
  |true=>
   rw[e0,QT] at h;have e0:=QN e0;subst e0;cases en:Nat.beq ks.length 0 with
   |true=>simp_all
   |false=>?_
   rw[en,QF] at h;have en:=Nat.ne_of_beq_eq_false en;split at h
   ·rename_i t cs cx;obtain⟨La,X,Y,qq,⟨N,vs,r1,rfl,r2⟩,_⟩:=hH.get cx;simp only[Rep] at hr;obtain⟨N',r3,rfl⟩:=hr;rw[r3] at r1;simp only[Option.some.injEq,Value.pointer.injEq,Addr.mk.injEq] at r1;have eN:N'=N:=by omega
    subst eN;obtain⟨l',k1,k2⟩:=aIb g hH hg h ((r2.drop (n:=b)).take (n:=ks.length));obtain⟨ss,k3,k4,k5,_⟩:=lC k1 k2;obtain⟨q1,q2⟩:=hg (N',.cells vs (dV E t) true) (by rw[qq,bN];exact List.mem_append_right _ (List.mem_append_left _ (List.mem_cons_self ..)));have k6:Reps ρ (fun j=>j<H.nx) H (aN ks (ss.map cSV) 0) ((vs.drop b).take ks.length):=by rw[<-k4];exact k5
    have hc:=pU k6;rw[<-k4] at hc;refine⟨_,k3,⟨_,by rw[<-k4]⟩,?_⟩;simp only[Rep];simp only at q1 q2;refine⟨k4,⟨2*N'+1,0,none⟩,_,rfl,InA.own q2,?_,hc⟩;have hl:=(CellsA.len hc).1;rw[List.length_take,List.length_drop] at hl;cases b with
    |zero=>rw[show(⟨2*N'+1,0,none⟩:Addr).add 0=⟨2*N'+1,0,none⟩ from rfl,dH q1 0 ks.length none (by omega)]
    |succ b=>rw[show(⟨2*N'+1,0,none⟩:Addr).add (b+1)=⟨2*N'+1,0+(b+1),none⟩ from rfl,dH q1 (0+(b+1)) ks.length none (by omega),Nat.zero_add]
   ·exact h.elim
 ·rename_i b ks b' ks' c o l;exact tB (p:=.pt b ks) (s:=.ep b' ks' c o l) h (hr.mono (RMle.refl _) g)
 ·exact h.elim
theorem aMs(g:Gr A H0 (fun j=>j<H.nx) H)(hH:RepH E ρ A H0 hp PS)(hg:∀p∈flt PS,H.tr.get p.1=some p.2/\p.1<H.nx):∀{ps:List PK} {ss:SL} {vs:VL} {K:SL->Prop},bFf ps ss hp K->Reps ρ A H0 ss vs->∃ss',K ss'/\AreP ps ss'/\Reps ρ (fun j=>j<H.nx) H ss' vs
 |[],[],[],K,h,_=>⟨[],h,.nil,by simp only[Reps]⟩
 |p::ps,s::ss,v::vs,K,h,hr=>by
  simp only[Reps] at hr;obtain⟨s',h1,h2,h3⟩:=bDv g hH hg (K:=fun v=>bFf ps ss hp fun vs=>K (v::vs)) h hr.1;obtain⟨ss',q1,q2,q3⟩:=aMs g hH hg h1 hr.2;exact⟨s'::ss',q1,.cons h2 q2,by grind [Reps]⟩
 |[],_::_,_,K,h,_=>h.elim
 |_::_,[],_,K,h,_=>h.elim
 |[],[],_::_,K,_,h=>by simp only[Reps] at h
 |_::_,_::_,[],K,_,h=>by simp only[Reps] at h
end
theorem aNp(hC:AllC E ri.tb C)(hD:Den E ρ nx fs hp PS A H0 l)(hR:RiOk G ri PS L0 nx A H0){c:Call}{z:Operand}{g:Nat}{ss:SL}{vs:VL}{K:SP}(tq:∀ct,oF g C=some ct->ct.io=none)(h:aJn C ri i (aJi z) g ss hp K)(hr:Reps ρ A H0 ss vs)
 (hw:gok G.ops l gd=true)(qd:Nat.ble (d+1) n=true)(hc:c.callee=.value z)(hz:opv l z=some (.func (.func g) ⟨[]⟩ ⟨[]⟩))(ha:Opvs l c.args.toList vs)
 (hK:KV E G ri L0 i n d r Q t l ρ A H0 fun s fs' qc nx'=>fs'=fs/\qc=hp/\nx'=nx/\K s):SO E G i (⟨some d,.call c,ty,ps,af,gd⟩::r) Q (fr n t l) H0 A (flt PS++L0):=by
 unfold aJn at h;split at h
 ·rename_i ct vy;obtain⟨hm,h⟩:=hR.mn h;have pk:∀s v,K s->Rep ρ A H0 s v->SO E G (i+1) r Q (fr n t ((d,v)::l)) H0 A (flt PS++L0):=fun s v k q=>hK.here hD hR ⟨rfl,rfl,rfl,k⟩ q;split at h
  case h_2 k he=>
   obtain⟨F,hF,hb,ho,hn⟩:=(hC _ _ vy).2.1 (by rw[he];simp);rw[he] at hn;cases ez:aJi z with
   |false=>simp_all
   |true=>
    rw[ez,QT] at h
    grind [aLv]
  rename_i he;obtain⟨xh,hg⟩:=(hC _ _ vy).1 he (tq _ vy);cases efl:pW ct.rs with
  |false=>simp_all
  |true=>
   rw[efl,QT] at h;refine bAk (args:=vs) (fa:=[]) (fb:=[]) (T:=fun u=>∃s,K s/\Rep ρ A H0 s u) hw qd hm hc hz hg ha (List.append_nil vs) (fun H hH=>?_) fun u hu=>by
    grind
   have g:Gr A H0 (fun j=>j<H.nx) H:=⟨fun j hj=>hH.lt j hj,hH.base,hH.w0.symm⟩;obtain⟨ss',k1,k2,k3⟩:=aMs g hD.hp (fun p hp=>by
    obtain⟨a,_,b,_⟩:=hH.own p (List.mem_append_left _ hp);exact⟨a,b⟩) h hr
   have k1:=k1 ⟨pY k3⟩;have qz:aVb H.w0 ri.tb:=hH.kept.w0▸hR.tb.1;refine(xh H H (fun j=>j<H.nx) (fun j=>j<H.nx) [] ss' vs qz k2 (mY k2 k3) k1.h H (HS.start fun j hj=>hj)).mono ?_;rintro u H' _ ⟨H1,A1,g1,g2,rs,us,q1,q2,rfl,q4⟩;exact⟨⟨oB rs,qJ k1.t q1 ⟨q4⟩,rB (nX efl q1 q2)⟩,g2.kept⟩
 ·exact h.elim
omit [γ:Gam] in
theorem yA{A:NQ}{H:AH}:∀{l:LX} {cs:VL},Typd A H [.int .u8] l cs->iV cs=some (dW l)
 |[],cs,h=>by
  have:=h.1;simp at this;subst this;rfl
 |c::l,cs,h=>by
  have h1:=h.1;simp only[List.length_cons,List.length_singleton,Nat.mul_one,List.length_nil] at h1
  match cs,h1 with
  |x::cs,h1=>
   have hc:=h.2.2 0 c rfl;simp only[List.length_singleton,Nat.zero_mul,List.drop_zero,List.length_cons,List.length_nil] at hc;have ho:=h.2.1;have ht:Typd A H [.int .u8] l cs:=by
    refine⟨by simp at h1 ⊢;omega,?_,fun i c' z6=>?_⟩
    ·simp only[aZ,QB] at ho;exact ho.2
    ·have:=h.2.2 (i+1) c' z6;simpa using this
   have ih:=yA ht
   match c,hc with
   |[d],hc=>
    simp only[List.take_succ_cons,List.take_zero,CellsA] at hc;obtain⟨m,rfl,rfl,hm⟩:=hc.1.int;have:=cD hm;simp[IntKind.min,IntKind.max,IntKind.bits,IntKind.signed] at this
    grind [iV,dW,cI,cV,List.getElem?_cons_zero]
   |[],hc=>simp[CellsA] at hc
   |_::_::_,hc=>simp[CellsA] at hc
theorem bCf(hT:dA E T)(hC:AllC E ri.tb C)(hD:Den E ρ nx fs hp PS A H0 l)(hR:RiOk G ri PS L0 nx A H0){op:Op}{K:SV->FR->HP->Nat->Prop}(h:wpOp E T C ri i op fs hp nx K)(hw:gok G.ops l gd=true)(qd:Nat.ble (d+1) n=true)
 (cy:KVx E G ri L0 i n d r Q t l ρ A H0 K):SO E G i (⟨some d,op,ty,ps,af,gd⟩::r) Q (fr n t l) H0 A (flt PS++L0):=by
 have hK:=cy.kv;have pk:∀s v,K s fs hp nx->Rep ρ A H0 s v->SO E G (i+1) r Q (fr n t ((d,v)::l)) H0 A (flt PS++L0):=fun s v k q=>hK.here hD hR k q;have pk':∀s fs' qc nx',K s fs' qc nx'->fs'=fs->qc=hp->nx'=nx->∀v,Rep ρ A H0 s v->SO E G (i+1) r Q (fr n t ((d,v)::l)) H0 A (flt PS++L0):=fun s _ _ _ k e1 e2 e3 v q=>by grind
 unfold wpOp at h;split at h
 ·obtain⟨s,u,h1,h2,h3⟩:=aR hD.fr h
  grind [aI]
 ·obtain⟨s,u,h1,h2,h3⟩:=aR hD.fr h
  grind [aW]
 ·obtain⟨s,u,h1,h2,h3⟩:=aR hD.fr h;split at h3
  ·obtain⟨s',u',k1,k2,k3⟩:=aR hD.fr h3
   grind [Rep,aOs]
  ·obtain⟨s',u',k1,k2,k3⟩:=aR hD.fr h3
   grind [Rep,aOp]
  ·exact h3.elim
 ·obtain⟨s,u,h1,h2,h3⟩:=aR hD.fr h;split at h3
  ·have xe:=h2;simp only[Rep] at xe;obtain⟨N,_,rfl⟩:=xe
   grind [bH]
  ·have xe:=h2;simp only[Rep] at xe;obtain⟨p,xs,rfl,_⟩:=xe
   grind [bH]
  ·have xe:=h2;simp only[Rep] at xe;obtain⟨_,p,xs,rfl,_⟩:=xe
   grind [bH]
  ·have xe:=h2;simp only[Rep] at xe;obtain⟨M,a,b,_,rfl⟩:=xe
   grind [bH]
  ·have xe:=h2;simp only[Rep] at xe;obtain⟨vs,rfl,_⟩:=xe
   grind [bR]
  ·exact h3.elim
 ·obtain⟨s,u,h1,h2,h3⟩:=aR hD.fr h;split at h3
  ·simp only[Rep] at h2;subst h2;exact aXh hw qd h1 rfl (pk _ _ h3 (by simp only[Rep];rfl))
  ·simp only[Rep] at h2;subst h2;exact aXh hw qd h1 rfl (pk _ _ h3 (by simp only[Rep];rfl))
  ·rename_i k m;simp only[Rep] at h2;obtain⟨rfl,hm⟩:=h2;have q:=gZ h3 (cD hm).1 (cD hm).2;exact aQd hw qd h1 rfl (pk _ _ (q.h (k.wrap (0 - m)) (bB k _).1 (bB k _).2 (fun a b=>by rw[Int.zero_sub];exact kQ a b) fun a=>by rw[Int.zero_sub];exact nO a) (by simp only[Rep];exact⟨trivial,kP (bB k _).1 (bB k _).2⟩))
  ·rename_i k m;simp only[Rep] at h2;obtain⟨rfl,hm⟩:=h2;have q:=gZ (K:=fun lo hi=>Nx lo hi m fun z=>K (.int k z) fs hp nx) h3;exact aQd hw qd h1 rfl (pk _ _ (q.h _ (cN _ _ _ _).1 (cN _ _ _ _).2 (fun a b c=>aPk a b c) (aAy (cD hm).1 (cD hm).2).1 (aAy (cD hm).1 (cD hm).2).2) (by simp only[Rep];exact⟨trivial,kP (cN _ _ _ _).1 (cN _ _ _ _).2⟩))
  ·exact h3.elim
 ·obtain⟨s,u,h1,h2,h3⟩:=aR hD.fr h;obtain⟨s',u',k1,k2,k3⟩:=aR hD.fr h3;split at k3
  ·split at k3
   ·rename_i hg;obtain⟨La,X,Y,_,ho,_⟩:=hD.hp.get hg;simp only[RepO,Rep] at ho h2 k2;obtain⟨x,hx,ho⟩:=ho;rw[h2] at hx;cases hx;subst k2;obtain⟨_,_,ho⟩:=ho;rcases ho with⟨rfl,rfl,_⟩|⟨M,cs,ex,rfl,_⟩
    ·obtain⟨v,s2,q1,q2,q3⟩:=qX (ρ:=ρ) (A:=A) (H:=H0) (a:=none) (n:=0) (c:=0) hT k3 fun _=>⟨rfl,rfl⟩
     grind [bQ]
    ·obtain⟨v,s2,q1,q2,q3⟩:=qX (ρ:=ρ) (A:=A) (H:=H0) (a:=some ⟨2*M+1,0,none⟩) (n:=_) (c:=_) hT k3 (fun e=>nomatch e);exact bQ hw qd h1 k1 q1 (pk _ _ q3 q2)
   ·exact k3.elim
  ·intro hds H hH;have sp:ri.tb.ne=true->H0.w0.em=false:=fun e=>by rw[hH.w0,hH.kept.w0];exact hR.tb.1.1 e
   obtain⟨v,s2,q1,q2,q3⟩:=aZy hT sp k3 h2 k2;exact bQ hw qd h1 k1 q1 (pk _ _ q3 q2) hds H hH
 ·obtain⟨s,u,h1,h2,h3⟩:=aR hD.fr h;split at h3
  ·simp only[Rep] at h2;obtain⟨vs,rfl,h2⟩:=h2;split at h3
   ·rename_i v hv;obtain⟨y',q1,q2⟩:=h2.at (xX hv)
    grind [aIs]
   ·exact h3.elim
  ·exact h3.elim
 ·obtain⟨s,u,h1,h2,h3⟩:=aR hD.fr h;split at h3
  ·rename_i kk m _ td cz ba;simp only[Rep] at h2;obtain⟨rfl,hm⟩:=h2;obtain⟨ws,mj,_,_⟩:=(hT _ _ cz).und;obtain⟨wd,fc,_,hs⟩:=(hT _ _ ba).und;split at h3
   ·rename_i k qn;rw[qn] at hs;simp only[cM] at hs;subst hs;have q:=gZ (h3 ⟨aKs hm⟩);exact iT hw qd h1 mj fc rfl (pk _ _ (q.h _ (bB k _).1 (bB k _).2 kQ nO) (by simp only[Rep];exact⟨trivial,kP (bB k _).1 (bB k _).2⟩))
   ·exact h3.elim
  ·rename_i id ts td cz ba;simp only[Rep] at h2;unfold aXe at h3;obtain⟨ws,mj,_,bc⟩:=(hT _ _ cz).und;obtain⟨wd,fc,_,pq⟩:=(hT _ _ ba).und;split at h3
   ·rename_i e si hde;rw[si] at bc;simp only[cM] at bc;subst bc;rw[hde] at pq;simp only[cM] at pq;subst pq;split at h3
    ·rename_i te zw;obtain⟨we,jm,_,hs⟩:=(hT _ _ zw).und;split at h3
     ·rename_i qn;rw[qn] at hs;simp only[cM] at hs;subst hs;split at h3
      ·rename_i b rr hg;rw[hR.d] at h3;cases eD:G.D with
       |true=>simp_all
       |false=>
        rw[eD,QF] at h3;obtain⟨La,X,Y,qq,⟨x',r1,r2⟩,_⟩:=hD.hp.get hg;rw[h2] at r1;cases r1;have fin:∀v:Value,v=.string ⟨⟨dW rr⟩⟩->SO E G (i+1) r Q (fr n t ((d,v)::l)) H0 A (flt PS++L0):=by
         rintro _ rfl;have e0:(⟨⟨dW rr⟩⟩:BA).data.toList=dW rr:=rfl;have qe:(dW rr).length=rr.length:=List.length_map _;have fm:=r2.1;refine pk _ _ (h3 ⟨⟨dW rr⟩⟩ (by rw[e0];exact qe) (by simp_all) ⟨rfl⟩) ?_;simp only[Rep];refine⟨trivial,?_⟩;show(dW rr).length<=9223372036854775807;omega
        obtain⟨_,_,⟨rfl,rfl,rfl⟩|⟨M,cs,ex,rfl,rfl,nz⟩⟩:=r2
        ·exact aJq hw qd (by simp_all) h1 mj jm fc (fin _ rfl)
        ·have hb:=yA nz;refine zY hw qd (by simp_all) h1 mj jm fc (N:=M) (sz:=[Kd.int .u8].length) (ex:=ex) (cs:=cs) ?_ ?_ hb (fin _ rfl)
         ·rw[qq,bN];simp only[flt]
          simp_all
         ·have:=nz.1;simpa using this
      ·exact h3.elim
     ·exact h3.elim
    ·exact h3.elim
   ·exact h3.elim
  ·exact h3.elim
 ·obtain⟨s,u,h1,h2,h3⟩:=aR hD.fr h;split at h3
  ·rename_i cl yd;obtain⟨hm,h3⟩:=hR.mn h3;have R:=(Rep.one hD.one h2 yd).1;refine bFn hw qd hm h1 rfl fun N=>?_;exact hK.new hD hR (o:=.box _ cl) (La:=[(N,_)]) (s:=.ptr nx 0) rfl hD hR (fun qf hr=>⟨N,_,hr,rfl,Reps.mono qf (Gr.refl _ _) R⟩) h3 (fun _ hr=>by simp only[Rep];exact⟨N,hr,rfl⟩)
  ·exact h3.elim
 ·split at h
  ·rename_i ti qs;obtain⟨z,hi,hz⟩:=(hT _ _ qs).inf;split at h
   ·rename_i qn;obtain⟨w,xq,_,hs⟩:=(hT _ _ qs).und;rw[qn] at hs;simp only[cM] at hs;obtain⟨F,rfl⟩:=hs;split at h
    ·rename_i mv;obtain⟨hm,h⟩:=hR.mn h;have q:=hz noR (fun _=>True) H0;rw[mv] at q;have q':(ext z).cells.toList=[.pointer none,.slice none 0 0]:=by
      generalize (ext z).cells.toList=cs at q
      match cs,q with
      |[a,b],q=>grind [Reps,Rep]
      |[],q=>simp only[Reps] at q
      |[_],q=>grind [Reps]
      |_::_::_::_,q=>grind [Reps]
     refine lX hw qd hm hi rfl q' fun N=>?_;refine hK.new hD hR (o:=.oth (.bl _ [])) (La:=[(N,_)]) (s:=.ptr nx 0) rfl hD hR (fun qf hr=>⟨N,0,hr,?_⟩) (h [] rfl rfl) (fun _ hr=>by simp only[Rep];exact⟨N,hr,rfl⟩)
     grind [bld,dV]
    ·exact h.elim
   obtain⟨hm,h⟩:=hR.mn h;have h:=cJ h;refine lX hw qd hm hi rfl rfl fun N=>?_;exact hK.new hD hR (o:=.box _ ti.zs) (La:=[(N,_)]) (s:=.ptr nx 0) rfl hD hR (fun qf hr=>⟨N,_,hr,rfl,hz _ _ _⟩) h (fun _ hr=>by simp only[Rep];exact⟨N,hr,rfl⟩)
  ·exact h.elim
 ·obtain⟨ss,us,h1,h2,h3⟩:=wW hD.fr h
  grind [aNw,aUj]
 ·obtain⟨ss,us,h1,h2,h3⟩:=wW hD.fr h
  grind [aHm]
 ·obtain⟨s,u,h1,h2,h3⟩:=aR hD.fr h;obtain⟨s',u',k1,k2,k3⟩:=aR hD.fr h3
  grind [aVc]
 ·obtain⟨s,u,h1,h2,h3⟩:=aR hD.fr h;obtain⟨s',v,k1,k2,k3⟩:=aPj hT h3 h2;exact bL hw rfl qd rfl (fun H=>by grind [aop,aG,aL]) (pk _ _ k1 k2)
 ·split at h
  ·obtain⟨s',u',k1,k2,k3⟩:=aR hD.fr h
   grind [bAo]
  obtain⟨s,u,h1,h2,h3⟩:=aR hD.fr h;obtain⟨s',u',k1,k2,k3⟩:=aR hD.fr h3;obtain⟨s2,v,q1,q2,q3⟩:=aJf hT hD k3 h2 k2;exact bL hw rfl qd rfl (fun H=>by grind [aop,aG,aL]) (pk _ _ q1 q2)
 ·obtain⟨s,u,h1,h2,h3⟩:=aR hD.fr h;obtain⟨s',u',k1,k2,k3⟩:=aR hD.fr h3;obtain⟨s2,v,q1,q2,q3⟩:=aPo hT k3 h2 k2;exact bL hw rfl qd rfl (fun H=>by grind [aop,aG,aL]) (pk _ _ q1 q2)
 ·obtain⟨s,u,h1,h2,h3⟩:=aR hD.fr h;obtain⟨s',v,a,k1,k2,rfl,k4⟩:=aQn hT hD hR h3 h2
  grind [aWs]
 ·split at h
  ·obtain⟨s,u,h1,h2,h3⟩:=aR hD.fr h;unfold wSlc at h3;split at h3
   ·rename_i id;refine aKp hD hR h3 fun b ks rr fs' qc PS' A1 H1 k zk wg g hs=>?_;have xe:Rep ρ A1 H1 (.row b ks rr) u:=by
     have:=hs (s:=[.ow id]) (v:=[u]) (by simp only[Reps];exact⟨h2,trivial⟩);simp only[sbL,sbS,Nat.beq_refl,QT,Reps] at this;exact this.1
    obtain⟨sl,vl,a1,a2,a3⟩:=uK zk.fr k;obtain⟨sh,vh,b1,b2,b3⟩:=uK zk.fr a2;exact zK hT wg b2 xe a3 b3 hw qd h1 a1 b1 fun s v k q=>hK s fs' qc nx k ρ PS' A1 H1 v zk wg (RMle.refl _) g q
   ·obtain⟨sl,vl,a1,a2,a3⟩:=uK hD.fr h3;obtain⟨sh,vh,b1,b2,b3⟩:=uK hD.fr a2
    grind [zK]
  ·exact h.elim
 ·split at h
  ·rename_i g hb;obtain⟨ss,us,h1,h2,h3⟩:=uU hD.fr h;refine aFp (va:=[]) hw qd (by rw[hb];exact .nil) h1 (pk _ _ h3 ?_);simp only[Rep];exact⟨us,rfl,h2⟩
  ·exact h.elim
 ·split at h
  ·rename_i hc;split at h
   ·rename_i ha ht;obtain⟨s,u,h1,h2,h3⟩:=aR hD.fr h
    grind [aYo]
   ·rename_i ha;obtain⟨s,u,h1,h2,h3⟩:=aR hD.fr h;obtain⟨s',u',k1,k2,k3⟩:=aR hD.fr h3;split at k3
    ·rename_i k a k' b;simp only[Rep] at h2 k2;obtain⟨rfl,h2⟩:=h2;obtain⟨rfl,k2⟩:=k2;cases e:kEq k k' with
     |false=>simp_all
     |true=>
      rw[e,QT] at k3;have:=fR e;subst this;refine aYx hw qd hc ha h1 k1 rfl (pk _ _ (k3 _ rfl) ?_);simp only[Rep]
      grind
    ·exact k3.elim
   ·rename_i ha;obtain⟨s,u,h1,h2,h3⟩:=aR hD.fr h;obtain⟨s',u',k1,k2,k3⟩:=aR hD.fr h3;split at k3
    ·rename_i k a k' b;simp only[Rep] at h2 k2;obtain⟨rfl,h2⟩:=h2;obtain⟨rfl,k2⟩:=k2;cases e:kEq k k' with
     |false=>simp_all
     |true=>
      rw[e,QT] at k3;have:=fR e;subst this;refine bAe hw qd hc ha h1 k1 rfl (pk _ _ (k3 _ rfl) ?_);simp only[Rep]
      grind
    ·exact k3.elim
   ·rename_i ha ht;obtain⟨s,u,h1,h2,h3⟩:=aR hD.fr h;obtain⟨s',u',k1,k2,k3⟩:=aR hD.fr h3
    grind [aJv]
   ·exact h.elim
  ·rename_i f hc;obtain⟨s,u,h1,h2,h3⟩:=aR hD.fr h;split at h3
   ·rename_i g caps;simp only[Rep] at h2;obtain⟨vs,rfl,h2⟩:=h2;obtain⟨ss,us,k1,k2,k3⟩:=uU hD.fr h3;split at k3
    ·rename_i ct vy;split at k3
     ·rename_i tq;split at k3
      ·cases vs with
       |cons _ _=>simp only[Reps] at h2
       |nil=>
        cases ebw:(cond ri.bw (pW ct.rs) false) with
        |true=>
         rw[ebw,QT] at k3
         exact aNp hC hD hR (fun ct' e=>by simp_all) k3 k2 hw qd hc h1 k1 fun s fs' qc nx' q ρ' PS' A' H' u a b c d e=>by
          obtain⟨rfl,rfl,rfl,q⟩:=q;exact hK _ _ _ _ q _ _ _ _ _ a b c d e
        |false=>
        rw[ebw,QF] at k3;refine vM hD hR k2 k3 fun ss' fs2 ze PS2 A1 H1 k3 zk wg g k2=>?_
        exact aNz hC zk wg (fun ct' e=>by simp_all) k3 k2 hw qd hc h1 k1 fun s fs' qc nx' q ρ' PS' A' H' u a b c d e=>by
         obtain⟨rfl,rfl,rfl,q⟩:=q;exact hK _ _ _ _ q _ _ _ _ _ a b c (g.trans d) e
      ·exact k3.elim
     ·rename_i ci tq;obtain⟨xh,hg⟩:=(hC _ _ vy).2.2.1 ci tq;exact aPd xh hg hD hR k3 (k2.app h2) hw qd hc h1 k1 rfl fun s qc nx' q ρ' PS' A' H' u a b c d e=>hK _ _ _ _ q _ _ _ _ _ a b c d e
     ·rename_i W tq;obtain⟨xh,hg⟩:=(hC _ _ vy).2.2.2.1 W tq;exact aOz xh hg hD hR k3 (k2.app h2) hw qd hc h1 k1 rfl cy
     ·exact k3.elim
    ·exact k3.elim
   ·rename_i N;simp only[Rep] at h2;subst h2;obtain⟨ss,us,k1,k2,k3⟩:=uU hD.fr h3;split at k3
    ·rename_i ct vy;split at k3
     ·rename_i W tq;exact aPa ((hC _ _ vy).2.2.2.2 W tq).2 hD hR k3 k2 hw qd hc h1 k1 cy
     ·exact k3.elim
    ·exact k3.elim
   ·exact h3.elim
  ·exact h.elim
 ·obtain⟨s,u,h1,h2,h3⟩:=aR hD.fr h;obtain⟨s',u',k1,k2,k3⟩:=aR hD.fr h3
  grind [aId,aXm]
 ·unfold aVa at h;obtain⟨kt,et,k,te,z,_,_,_,_,_,h⟩:=xE hT h;obtain⟨hm,h⟩:=hR.mn h;refine aQo hw qd hm fun N=>?_;exact hK.new hD hR (o:=.oth (.mp k te.ks te.agg fun _=>none)) (La:=[(N,_)]) (s:=.ow nx) rfl hD hR (fun qf hr=>⟨N,[],0,hr,rfl,MpOk.emp⟩) h (fun _ hr=>by grind [Rep])
 ·exact h.elim
theorem aSn(hT:dA E T)(hD:Den E ρ nx fs hp PS A H0 l)(hR:RiOk G ri PS L0 nx A H0){op:Op}{K:FR->HP->Nat->Prop}(h:aLd T ri i op fs hp nx K)(hw:gok G.ops l gd=true)
 (hK:KS E G ri L0 i n r Q t l ρ A H0 K):SO E G i (⟨none,op,ty,ps,af,gd⟩::r) Q (fr n t l) H0 A (flt PS++L0):=by
 unfold aLd at h;split at h
 ·obtain⟨s,u,h1,h2,h3⟩:=aR hD.fr h;obtain⟨s',u',k1,k2,k3⟩:=aR hD.fr h3;obtain⟨hm,k3⟩:=hR.mn k3;split at k3
  ·exact bAa hT hD hR k3 h2 k2 hw hm h1 k1 fun qc PS' q a b=>hK _ _ _ q _ _ _ _ a b (RMle.refl _) (Gr.refl _ _)
  ·exact aOj hT hD hR k3 h2 k2 hw hm h1 k1 fun qc PS' q a b=>hK _ _ _ q _ _ _ _ a b (RMle.refl _) (Gr.refl _ _)
 ·obtain⟨s,u,h1,h2,h3⟩:=aR hD.fr h;split at h3
  ·simp only[Rep] at h2;obtain⟨N,_,rfl⟩:=h2;exact iE hw h1 (hK _ _ _ h3 _ _ _ _ hD hR (RMle.refl _) (Gr.refl _ _))
  ·simp only[Rep] at h2;obtain⟨p,xs,rfl,_⟩:=h2;exact iE hw h1 (hK _ _ _ h3 _ _ _ _ hD hR (RMle.refl _) (Gr.refl _ _))
  ·simp only[Rep] at h2;obtain⟨_,p,xs,rfl,_⟩:=h2;exact iE hw h1 (hK _ _ _ h3 _ _ _ _ hD hR (RMle.refl _) (Gr.refl _ _))
  ·simp only[Rep] at h2;obtain⟨M,a,b,_,rfl⟩:=h2;exact iE hw h1 (hK _ _ _ h3 _ _ _ _ hD hR (RMle.refl _) (Gr.refl _ _))
  ·exact h3.elim
 ·obtain⟨s,u,h1,h2,h3⟩:=aR hD.fr h;obtain⟨s',u',k1,k2,k3⟩:=aR hD.fr h3;obtain⟨s2,u2,q1,q2,q3⟩:=aR hD.fr k3;obtain⟨hm,q3⟩:=hR.mn q3;exact aTh hT hD hR q3 h2 k2 q2 hw hm h1 k1 q1 fun qc PS' q a b=>hK _ _ _ q _ _ _ _ a b (RMle.refl _) (Gr.refl _ _)
 ·exact h.elim
def KR(E:Env P)(G:RG)(ri:RI)(L0:OL)(n:Nat)(Q:FQ)(ρ:RM)(A:NQ)(H0:AH)(K:FR->HP->Nat->Prop):Prop:=
 ∀fs' qc nx',K fs' qc nx'->∀ρ' PS' A' H' l' t' i',Den E ρ' nx' fs' qc PS' A' H' l'->FxR ri.fx ρ ρ'->Gr A H0 A' H'->SO E G i' [] Q (fr n t' l') H' A' (flt PS'++L0)
theorem gY(hT:dA E T)(hC:AllC E ri.tb C):∀{ops:OL2} {i nx:Nat} {fs:FR} {hp:HP} {PS:PSs} {l:LV} {H0:AH} {A:NQ} {ρ:RM} {t:Tr Value} {K:FR->HP->Nat->Prop},Den E ρ nx fs hp PS A H0 l->RiOk G ri PS L0 nx A H0->oP E T C n ri i ops fs hp nx K->KR E G ri L0 n Q ρ A H0 K->SO E G i ops Q (fr n t l) H0 A (flt PS++L0)
 |[],i,nx,fs,hp,PS,l,H0,A,ρ,t,K,hD,hR,h,hK=>hK _ _ _ h _ _ _ _ _ _ _ hD (RMle.refl _).fx (Gr.refl _ _)
 |⟨dst,op,ty,ps,af,gd⟩::r,i,nx,fs,hp,PS,l,H0,A,ρ,t,K,hD,hR,h,hK=>by
  have tr:∀{ρ' A' H'},FxR ri.fx ρ ρ'->Gr A H0 A' H'->KR E G ri L0 n Q ρ' A' H' K:=fun hr g fs' qc nx' k ρ2 PS2 A2 H2 l2 t2 i2 a b c=>hK fs' qc nx' k ρ2 PS2 A2 H2 l2 t2 i2 a (hr.trans b) (g.trans c);simp only[aHg] at h;rw[hR.ops] at h;cases dst with
  |some d=>
   simp only at h;cases e:Nat.ble (d+1) n with
   |false=>simp_all
   |true=>
    rw[e,QT] at h;rcases aVp hD.fr h with⟨hw,h⟩|⟨hw,h⟩
    ·refine bCf hT hC hD hR h hw e fun s fs' qc nx' q ρ' PS' A' H' u a b c g k=>?_;exact gY hT hC (a.put k d) b q (tr c g)
    ·exact aYr hw rfl e (gY hT hC (hD.put (s:=.undef) (u:=undef) (by simp only[Rep]) d) hR h hK)
  |none=>
   simp only at h;rcases aVp hD.fr h with⟨hw,h⟩|⟨hw,h⟩
   ·refine aSn hT hD hR h hw fun fs' qc nx' q ρ' PS' A' H' a b c g=>?_;exact gY hT hC a b q (tr c.fx g)
   ·exact aVn hw rfl (gY hT hC hD hR h hK)
end
end Go.AM
namespace Go.AM
open Go.RowKit
variable [σ:Sg]
def rn(th:List (Nat×Nat))(i:Nat):Nat:=match th with
 |[]=>i
 |(a,b)::r=>cond (Nat.beq a i) b (rn r i)
mutual
def rnS(th:List (Nat×Nat)):SV->SV
 |.ow i=>.ow (rn th i)
 |.ptr i o=>.ptr (rn th i) o
 |.op i j o m=>.op (rn th i) j o m
 |.agg l=>.agg (rnL th l)
 |.tup l=>.tup (rnL th l)
 |.fn g l=>.fn g (rnL th l)
 |.undef=>.undef
 |.int k n=>.int k n
 |.bool b=>.bool b
 |.str s=>.str s
 |.nil=>.nil
 |.pnil=>.pnil
 |.row b ks l=>.row b ks l
 |.el ks c o=>.el ks c o
 |.gp g o=>.gp g o
 |.rng lo hi=>.rng lo hi
 |.any=>.any
 |.yl i=>.yl i
 |.xp i o m=>.xp (rn th i) o m
 |.ep b ks c o l=>.ep b ks c o l
def rnL(th:List (Nat×Nat)):SL->List SV
 |[]=>[]
 |v::r=>rnS th v::rnL th r
end
mutual
def bdS(nx:Nat):SV->Bool
 |.ow i=>Nat.blt i nx
 |.ptr i _=>Nat.blt i nx
 |.op i _ _ _=>Nat.blt i nx
 |.agg l=>bdL nx l
 |.tup l=>bdL nx l
 |.fn _ l=>bdL nx l
 |.undef=>true
 |.int _ _=>true
 |.bool _=>true
 |.str _=>true
 |.nil=>true
 |.pnil=>true
 |.row _ _ _=>true
 |.el _ _ _=>true
 |.gp _ _=>true
 |.rng _ _=>true
 |.any=>true
 |.yl _=>true
 |.xp i _ _=>Nat.blt i nx
 |.ep _ _ _ _ _=>true
def bdL(nx:Nat):SL->Bool
 |[]=>true
 |v::r=>cond (bdS nx v) (bdL nx r) false
end
def rnX(th:List (Nat×Nat)):SJx->SJx
 |.wk b ks l=>.wk b ks l
 |.ho b ks l j id=>.ho b ks l j (rn th id)
 |.mp kk vk ag m=>.mp kk vk ag m
 |.vals us cs=>.vals us (rnL th cs)
 |.bl t u=>.bl t u
 |.vr cs=>.vr (rnL th cs)
def bdX(nx:Nat):SJx->Bool
 |.wk _ _ _=>true
 |.ho _ _ _ _ id=>Nat.blt id nx
 |.mp _ _ _ _=>true
 |.vals _ cs=>bdL nx cs
 |.bl _ _=>true
 |.vr cs=>bdL nx cs
def bdO(nx:Nat):SJ->Bool
 |.box _ cs=>bdL nx cs
 |.row _ _ _=>true
 |.oth o=>bdX nx o
def bDw(v:SV)(K:SP):Prop:=match v with
 |.agg l=>aNd aHs l fun l=>K (.agg l)
 |v=>havC v K
inductive ShC:SV->SV->Prop
 |int {k:IntKind} {a b:Int}:ShC (.int k a) (.int k b)
 |bool {a b:Bool}:ShC (.bool a) (.bool b)
 |str {a b:BA}:ShC (.str a) (.str b)
 |row {b:Nat} {ks:KL} {l m:LX}:ShC (.row b ks l) (.row b ks m)
 |same {v:SV}:ShC v v
inductive ShL:SL->List SV->Prop
 |nil:ShL [] []
 |cons {a b:SV} {r q:SL} (h:ShC a b) (t:ShL r q):ShL (a::r) (b::q)
inductive ShS:SV->SV->Prop
 |sc {a b:SV} (h:ShC a b) (hn:∀l,a≠.agg l):ShS a b
 |agg {l m:SL} (h:ShL l m):ShS (.agg l) (.agg m)
theorem aYl{v w:SV}{K:SP}(h:havC v K)(s:ShC v w):K w:=by
 cases s with
 |int=>exact h _
 |bool=>
  rename_i a b;cases b with
  |true=>exact h.1
  |false=>exact h.2
 |str=>exact h _
 |row=>exact h _
 |same=>
  cases v<;>first|exact h _|exact jS h|skip
  rename_i b;cases b with
  |true=>exact h.1
  |false=>exact h.2
theorem bBm{v w:SV}{K:SP}(h:aHs v K)(s:ShC v w):K w:=by
 cases s with
 |int=>exact h _
 |bool=>exact h _
 |str=>exact h _
 |row=>exact h _
 |same=>cases v<;>first|exact h _|exact jS h
theorem rN:∀{l m:SL} {K:SL->Prop},aNd aHs l K->ShL l m->K m
 |[],[],K,h,.nil=>h
 |_::r,w::q,K,h,.cons s t=>rN (l:=r) (m:=q) (K:=fun r=>K (w::r)) (bBm (K:=fun v=>aNd aHs r fun r=>K (v::r)) h s) t
theorem bAu{v w:SV}{K:SP}(h:bDw v K)(s:ShS v w):K w:=by
 cases s with
 |sc s hn=>
  refine aYl ?_ s;cases v<;>first|exact h|(exact absurd rfl (hn _))
 |agg s=>exact rN h s
def mtC(v w:SV):SV:=match v,w with
 |.int k _,.int k' n=>cond (kEq k k') (.int k n) v
 |.bool _,.bool b=>.bool b
 |.str _,.str s=>.str s
 |.row b ks _,.row b' ks' l=>cond (Nat.beq b b') (cond (kdsEq ks ks') (.row b ks l) v) v
 |.row b ks _,.nil=>.row b ks []
 |v,_=>v
def mtL:SL->List SV->List SV
 |[],_=>[]
 |v::r,w::q=>mtC v w::mtL r q
 |v::r,[]=>v::r
def mtS(v w:SV):SV:=match v,w with
 |.agg l,.agg m=>.agg (mtL l m)
 |v,w=>mtC v w
theorem aPz(v w:SV):ShC v (mtC v w):=by
 unfold mtC;split
 ·rename_i k _ k' n;cases e:kEq k k' with
  |true=>exact .int
  |false=>exact .same
 ·exact .bool
 ·exact .str
 ·rename_i b ks _ b' ks' l;cases e:Nat.beq b b' with
  |true=>
   cases e2:kdsEq ks ks' with
   |true=>exact .row
   |false=>exact .same
  |false=>exact .same
 ·exact .row
 ·exact .same
theorem ShL.refl:∀l:SL,ShL l l
 |[]=>.nil
 |_::r=>.cons .same (ShL.refl r)
theorem aGv:∀l m:SL,ShL l (mtL l m)
 |[],_=>.nil
 |v::r,w::q=>.cons (aPz v w) (aGv r q)
 |v::r,[]=>ShL.refl _
theorem bEi(v w:SV):ShS v (mtS v w):=by
 cases v with
 |agg l=>
  cases w with
  |agg m=>exact .agg (aGv l m)
  |_=>exact .agg (ShL.refl l)
 |_=>grind [ShS.sc,mtS,aPz]
def thC(v w:SV):List (Nat×Nat):=match v,w with
 |.ow i,.ow j=>[(i,j)]
 |_,_=>[]
def thL:SL->List SV->List (Nat×Nat)
 |v::r,w::q=>thC v w++thL r q
 |_,_=>[]
def thS(v w:SV):List (Nat×Nat):=match v,w with
 |.agg l,.agg m=>thL l m
 |v,w=>thC v w
def agC(th:List (Nat×Nat))(v w:SV):Prop:=match v,w with
 |.row _ _ l,.nil=>l=[]
 |v,w=>w=rnS th v
def agL(th:List (Nat×Nat)):SL->List SV->Prop
 |[],[]=>True
 |v::r,w::q=>agC th v w/\agL th r q
 |_,_=>False
def agS(th:List (Nat×Nat))(v w:SV):Prop:=match v,w with
 |.agg l,.agg m=>agL th l m
 |v,w=>agC th v w
section
variable {ρ:RM}{A:NQ}{H:AH}{nx:Nat}{th:List (Nat×Nat)}
def mD(ρ:RM)(nx:Nat)(th:List (Nat×Nat)):RM:=fun i=>if i<nx then ρ (rn th i) else none
theorem aJt{a b:Nat}(h:Nat.blt a b=true):a<b:=QL h
mutual
theorem aTw:∀{s:SV} {v:Value},bdS nx s=true->Rep ρ A H (rnS th s) v->Rep (mD ρ nx th) A H s v
 |.ow i,v,hb,h=>by
  simp only[rnS,Rep,bdS] at h hb ⊢;unfold mD;simp_all
 |.ptr i o,v,hb,h=>by
  simp only[rnS,Rep,bdS] at h hb ⊢;unfold mD;simp_all
 |.op i j o m,v,hb,h=>by
  simp only[rnS,Rep,bdS] at h hb ⊢;unfold mD;simp_all
 |.agg l,v,hb,h=>by simp only[rnS,Rep,bdS] at h hb ⊢;obtain⟨vs,h1,h2⟩:=h;exact⟨vs,h1,rnL_ok hb h2⟩
 |.tup l,v,hb,h=>by simp only[rnS,Rep,bdS] at h hb ⊢;obtain⟨vs,h1,h2⟩:=h;exact⟨vs,h1,rnL_ok hb h2⟩
 |.fn g l,v,hb,h=>by simp only[rnS,Rep,bdS] at h hb ⊢;obtain⟨vs,h1,h2⟩:=h;exact⟨vs,h1,rnL_ok hb h2⟩
 |.undef,v,_,h=>by grind [rnS,Rep]
 |.int _ _,v,_,h=>by grind [rnS,Rep]
 |.bool _,v,_,h=>by grind [rnS,Rep]
 |.str _,v,_,h=>by grind [rnS,Rep]
 |.nil,v,_,h=>by grind [rnS,Rep]
 |.pnil,v,_,h=>by grind [rnS,Rep]
 |.row _ _ _,v,_,h=>by grind [rnS,Rep]
 |.el _ _ _,v,_,h=>by grind [rnS,Rep]
 |.gp _ _,v,_,h=>by grind [rnS,Rep]
 |.rng _ _,v,_,h=>by grind [rnS,Rep]
 |.any,v,_,h=>by simp only[Rep]
 |.ep _ _ _ _ _,v,_,h=>by grind [rnS,Rep]
 |.yl _,v,_,h=>by grind [rnS,Rep]
 |.xp i o m,v,hb,h=>by
  simp only[rnS,Rep,bdS] at h hb ⊢;unfold mD;simp_all
theorem rnL_ok:∀{s:SL} {v:VL},bdL nx s=true->Reps ρ A H (rnL th s) v->Reps (mD ρ nx th) A H s v
 |[],[],_,h=>by simp only[Reps]
 |s::t,v::vs,hb,h=>by
  simp only[rnL,Reps,bdL] at h hb ⊢;cases e:bdS nx s with
  |false=>rw[e] at hb;cases hb
  |true=>rw[e,QT] at hb;exact⟨aTw e h.1,rnL_ok hb h.2⟩
 |[],_::_,_,h=>by grind [rnL,Reps]
 |_::_,[],_,h=>by grind [rnL,Reps]
end
theorem aHn{s w:SV}{v:Value}(hb:bdS nx s=true)(h:agC th s w)(k:Rep ρ A H w v):Rep (mD ρ nx th) A H s v:=by
 unfold agC at h
 grind [Rep,uT,aTw]
theorem aHj:∀{s w:SL} {v:VL},bdL nx s=true->agL th s w->Reps ρ A H w v->Reps (mD ρ nx th) A H s v
 |[],[],v,_,_,k=>by grind [Reps]
 |s::r,w::q,v::vs,hb,h,k=>by
  simp only[Reps,bdL] at k hb ⊢;cases e:bdS nx s with
  |false=>rw[e] at hb;cases hb
  |true=>rw[e,QT] at hb;exact⟨aHn e h.1 k.1,aHj hb h.2 k.2⟩
 |[],_::_,_,_,h,_=>h.elim
 |_::_,[],_,_,h,_=>h.elim
 |_::_,_::_,[],_,_,k=>by simp only[Reps] at k
theorem aRe{s w:SV}{v:Value}(hb:bdS nx s=true)(h:agS th s w)(k:Rep ρ A H w v):Rep (mD ρ nx th) A H s v:=by
 unfold agS at h
 grind [Rep,bdS,aHj,aHn]
end
def uH(k:Nat)(v:SV)(f:FR):(FR->Prop)->Prop:=List.rec (motive:=fun _=>(FR->Prop)->Prop) (fun K=>K []) (fun p r ih K=>match p with
 |(j,w)=>cond (Nat.beq j k) (K ((j,v)::r)) (ih fun r=>K ((j,w)::r))) f
theorem aNl{k j:Nat}{v w:SV}{r:FR}{K:FR->Prop}:uH k v ((j,w)::r) K=cond (Nat.beq j k) (K ((j,v)::r)) (uH k v r fun r=>K ((j,w)::r)):=rfl
def cvt(vr:List (Nat×Option (Nat×List Kd))):FR->HP->Nat->(FR->HP->Nat->Prop)->Prop:=List.rec (motive:=fun _=>FR->HP->Nat->(FR->HP->Nat->Prop)->Prop) (fun fr hp nx K=>K fr hp nx) (fun p _ ih fr hp nx K=>match p with
 |(_,none)=>ih fr hp nx K
 |(k,some (b,ks))=>(match bP k fr with
  |some .nil=>uH k (.ow nx) fr fun fr=>ih fr ((nx,.row b ks [])::hp) (nx+1) K
  |_=>ih fr hp nx K)) vr
theorem aRn{k b:Nat}{ks:KL}{r:List (Nat×Option (Nat×List Kd))}{fr:FR}{hp:HP}{nx:Nat}{K:FR->HP->Nat->Prop}:cvt ((k,some (b,ks))::r) fr hp nx K=(match bP k fr with
 |some .nil=>uH k (.ow nx) fr fun fr=>cvt r fr ((nx,.row b ks [])::hp) (nx+1) K
 |_=>cvt r fr hp nx K):=rfl
def wfz(fz:List (Nat×Nat×List Kd)):FR->HP->(FR->HP->Prop)->Prop:=List.rec (motive:=fun _=>FR->HP->(FR->HP->Prop)->Prop) (fun fr hp K=>K fr hp) (fun p _ ih fr hp K=>match p with
 |(k,b,ks)=>(match bP k fr with
  |some .nil=>uH k (.row b ks []) fr fun fr=>ih fr hp K
  |some (.ow i)=>(match hget i hp with
   |some (.row b ks l)=>lR i hp fun hp=>sbF i b ks l fr fun fr=>sbH i b ks l hp fun hp=>ih fr hp K
   |_=>False)
  |_=>ih fr hp K)) fz
theorem aRu{k b:Nat}{ks:KL}{r:List (Nat×Nat×List Kd)}{fr:FR}{hp:HP}{K:FR->HP->Prop}:wfz ((k,b,ks)::r) fr hp K=(match bP k fr with
 |some .nil=>uH k (.row b ks []) fr fun fr=>wfz r fr hp K
 |some (.ow i)=>(match hget i hp with
  |some (.row b ks l)=>lR i hp fun hp=>sbF i b ks l fr fun fr=>sbH i b ks l hp fun hp=>wfz r fr hp K
  |_=>False)
 |_=>wfz r fr hp K):=rfl
def cvB(cb:List (Nat×Nat×Nat×List Kd))(fr:FR):HP->Nat->(HP->Nat->Prop)->Prop:=List.rec (motive:=fun _=>HP->Nat->(HP->Nat->Prop)->Prop) (fun hp nx K=>K hp nx) (fun p _ ih hp nx K=>match p with
 |(k,j,b,ks)=>(match lW k fr hp with
  |some (.ptr id _)=>(match hget id hp with
   |some (.box t cs)=>(match atS cs j with
    |some .nil=>(match qB cs j [.ow nx] with
     |some cs=>gQ cs fun cs=>jW id (.box t cs) hp fun hp=>ih ((nx,.row b ks [])::hp) (nx+1) K
     |none=>False)
    |_=>ih hp nx K)
   |_=>ih hp nx K)
  |_=>ih hp nx K)) cb
theorem aUd{k j b:Nat}{ks:KL}{r:List (Nat×Nat×Nat×List Kd)}{fr:FR}{hp:HP}{nx:Nat}{K:HP->Nat->Prop}:cvB ((k,j,b,ks)::r) fr hp nx K=(match lW k fr hp with
 |some (.ptr id _)=>(match hget id hp with
  |some (.box t cs)=>(match atS cs j with
   |some .nil=>(match qB cs j [.ow nx] with
    |some cs=>gQ cs fun cs=>jW id (.box t cs) hp fun hp=>cvB r fr ((nx,.row b ks [])::hp) (nx+1) K
    |none=>False)
   |_=>cvB r fr hp nx K)
  |_=>cvB r fr hp nx K)
 |_=>cvB r fr hp nx K):=rfl
def wkn(wk:List (Nat×Nat×List Kd)):FR->HP->Nat->(FR->HP->Nat->Prop)->Prop:=List.rec (motive:=fun _=>FR->HP->Nat->(FR->HP->Nat->Prop)->Prop) (fun fr hp nx K=>K fr hp nx) (fun p _ ih fr hp nx K=>match p with
 |(k,b,ks)=>(match bP k fr with
  |some (.ow i)=>(match hget i hp with
   |some (.row b' ks' l)=>jW i (.oth (.wk b' ks' l)) hp fun hp=>ih fr hp nx K
   |_=>ih fr hp nx K)
  |some .nil=>uH k (.ow nx) fr fun fr=>ih fr ((nx,.oth (.wk b ks []))::hp) (nx+1) K
  |some (.row _ _ _)=>uH k (.ow nx) fr fun fr=>ih fr ((nx,.oth (.wk b ks []))::hp) (nx+1) K
  |_=>ih fr hp nx K)) wk
theorem aVk{k b:Nat}{ks:KL}{r:List (Nat×Nat×List Kd)}{fr:FR}{hp:HP}{nx:Nat}{K:FR->HP->Nat->Prop}:wkn ((k,b,ks)::r) fr hp nx K=(match bP k fr with
 |some (.ow i)=>(match hget i hp with
  |some (.row b' ks' l)=>jW i (.oth (.wk b' ks' l)) hp fun hp=>wkn r fr hp nx K
  |_=>wkn r fr hp nx K)
 |some .nil=>uH k (.ow nx) fr fun fr=>wkn r fr ((nx,.oth (.wk b ks []))::hp) (nx+1) K
 |some (.row _ _ _)=>uH k (.ow nx) fr fun fr=>wkn r fr ((nx,.oth (.wk b ks []))::hp) (nx+1) K
 |_=>wkn r fr hp nx K):=rfl
def aTs(h:Hk)(fr:FR)(hp:HP)(K:FR->HP->Prop):Prop:=match h with
 |.st k=>(match bP k fr with
  |some (.ow i)=>(match hget i hp with
   |some (.oth (.wk b ks l))=>Ob (1<=((l.length:Nat):Int)) (jW i (.row b ks l) hp fun hp=>K fr hp)
   |some (.row _ _ _)=>K fr hp
   |_=>False)
  |_=>False)
 |.fz k b ks=>wfz [(k,b,ks)] fr hp K
 |.as p=>Ob (p fr hp) (HyP (p fr hp)->K fr hp)
 |.fl k=>(match bP k fr with
  |some (.ow i)=>(match hget i hp with
   |some (.oth (.ho _ _ _ _ id))=>(match hget id hp with
    |some (.row b2 ks2 l2)=>lR id hp fun hp=>sbF id b2 ks2 l2 fr fun fr=>sbH id b2 ks2 l2 hp fun hp=>(match hget i hp with
     |some (.oth (.ho b ks l j id'))=>cond (Nat.beq id' id) (cond (kdsEq ks [.row b2 ks2]) (∀l':LX,l'.length=l.length->l'=l.set j.toNat [.row l2]->jW i (.row b ks l') hp fun hp=>K fr hp) False) False
     |_=>False)
    |_=>False)
   |_=>K fr hp)
  |_=>False)
def wHk(hs:List Hk):FR->HP->(FR->HP->Prop)->Prop:=List.rec (motive:=fun _=>FR->HP->(FR->HP->Prop)->Prop) (fun fr hp K=>K fr hp) (fun h _ ih fr hp K=>aTs h fr hp fun fr hp=>ih fr hp K) hs
theorem aPv{h:Hk}{hs:List Hk}{fr:FR}{hp:HP}{K:FR->HP->Prop}:wHk (h::hs) fr hp K=aTs h fr hp fun fr hp=>wHk hs fr hp K:=rfl
def inR(lo hi:Int)(c:SV)(K:Prop):Prop:=match c with
 |.int .i64 z=>Ob (lo<=z/\z<=hi) K
 |_=>False
def wdH(wd:List (Nat×Nat×Nat×Mu×Mu))(fr:FR):HP->(HP->Prop)->Prop:=List.rec (motive:=fun _=>HP->(HP->Prop)->Prop) (fun hp K=>K hp) (fun p _ ih hp K=>match p with
 |(k,o,m,lo,hi)=>(match bP k fr with
  |some (.ptr id _)=>(match hget id hp with
   |some (.box t cs)=>evK lo fr hp fun lo=>evK hi fr hp fun hi=>(match uG o cs with
    |some (c::r)=>Ag (qT m (c::r)=some (gD m [c])) (inR lo hi c (match qB cs o (gD m [.rng lo hi]) with
     |some cs=>gQ cs fun cs=>jW id (.box t cs) hp fun hp=>ih hp K
     |none=>False))
    |_=>False)
   |_=>False)
  |_=>False)) wd
theorem aSa{k o m:Nat}{lo hi:Mu}{r:List (Nat×Nat×Nat×Mu×Mu)}{fr:FR}{hp:HP}{K:HP->Prop}:wdH ((k,o,m,lo,hi)::r) fr hp K=(match bP k fr with
 |some (.ptr id _)=>(match hget id hp with
  |some (.box t cs)=>evK lo fr hp fun lo=>evK hi fr hp fun hi=>(match uG o cs with
   |some (c::r')=>Ag (qT m (c::r')=some (gD m [c])) (inR lo hi c (match qB cs o (gD m [.rng lo hi]) with
    |some cs=>gQ cs fun cs=>jW id (.box t cs) hp fun hp=>wdH r fr hp K
    |none=>False))
   |_=>False)
  |_=>False)
 |_=>False):=rfl
def pkF(fr:FR)(ks:NL):(FR->Prop)->Prop:=List.rec (motive:=fun _=>(FR->Prop)->Prop) (fun K=>K []) (fun k _ ih K=>match bP k fr with
    |some v=>ih fun q=>K ((k,v)::q)
    |none=>False) ks
theorem aFx{fr:FR}{k:Nat}{r:NL}{K:FR->Prop}:pkF fr (k::r) K=(match bP k fr with
 |some v=>pkF fr r fun q=>K ((k,v)::q)
 |none=>False):=rfl
def vks:List (Nat×Option (Nat×List Kd))->List Nat
 |[]=>[]
 |(k,_)::r=>k::vks r
def owC(v:SV):NL:=match v with
 |.ow i=>[i]
 |_=>[]
def aTu:SL->List Nat
 |[]=>[]
 |v::r=>owC v++aTu r
def owS(v:SV):NL:=match v with
 |.agg l=>aTu l
 |v=>owC v
def hvR(fr:FR):NL->List Nat
 |[]=>[]
 |k::r=>(match bP k fr with
  |some v=>owS v++hvR fr r
  |none=>hvR fr r)
def hvP(hp:HP)(v:SV):NL:=match v with
 |.ptr i _=>(match hget i hp with
  |some (.box _ cs)=>i::aTu cs
  |some (.oth (.bl _ _))=>[i]
  |_=>[])
 |.ow i=>(match hget i hp with
  |some (.oth (.ho _ _ _ _ id))=>[i,id]
  |_=>[i])
 |.op i _ _ _=>[i]
 |.agg l=>aTu l
 |_=>[]
def hvPs(hp:HP):SL->List Nat
 |[]=>[]
 |v::r=>hvP hp v++hvPs hp r
def hvB(fr:FR)(hp:HP):NL->List Nat
 |[]=>[]
 |k::r=>(match lW k fr hp with
  |some (.fn _ l)=>hvPs hp l++hvB fr hp r
  |some v=>hvP hp v++hvB fr hp r
  |none=>hvB fr hp r)
def aNe(ks:NL)(f:FR):(FR->Prop)->Prop:=List.rec (motive:=fun _=>(FR->Prop)->Prop) (fun K=>K []) (fun p _ ih K=>match p with
 |(k,v)=>cond (aJ k ks) (bDw v fun v=>ih fun r=>K ((k,v)::r)) (ih fun r=>K ((k,v)::r))) f
theorem aAn{ks:NL}{k:Nat}{v:SV}{r:FR}{K:FR->Prop}:aNe ks ((k,v)::r) K=cond (aJ k ks) (bDw v fun v=>aNe ks r fun r=>K ((k,v)::r)) (aNe ks r fun r=>K ((k,v)::r)):=rfl
def havX(o:SJx)(K:SJx->Prop):Prop:=match o with
 |.wk b ks _=>∀l,K (.wk b ks l)
 |.mp kk vk ag _=>∀m,K (.mp kk vk ag m)
 |.bl t _=>∀u,K (.bl t u)
 |o=>K o
def bEv(o:SJ)(K:SJ->Prop):Prop:=match o with
 |.box t cs=>aNd aHs cs fun cs=>K (.box t cs)
 |.row b ks _=>∀l,K (.row b ks l)
 |.oth o=>havX o fun o=>K (.oth o)
def aPc(hv:NL)(h:HP):(HP->Prop)->Prop:=List.rec (motive:=fun _=>(HP->Prop)->Prop) (fun K=>K []) (fun p _ ih K=>match p with
 |(i,o)=>cond (aJ i hv) (bEv o fun o=>ih fun r=>K ((i,o)::r)) (ih fun r=>K ((i,o)::r))) h
theorem aAm{hv:NL}{i:Nat}{o:SJ}{r:HP}{K:HP->Prop}:aPc hv ((i,o)::r) K=cond (aJ i hv) (bEv o fun o=>aPc hv r fun r=>K ((i,o)::r)) (aPc hv r fun r=>K ((i,o)::r)):=rfl
inductive ShO:SJ->SJ->Prop
 |box {t:TY} {l m:SL} (h:ShL l m):ShO (.box t l) (.box t m)
 |row {b:Nat} {ks:KL} {l m:LX}:ShO (.row b ks l) (.row b ks m)
 |wk {b:Nat} {ks:KL} {l m:LX}:ShO (.oth (.wk b ks l)) (.oth (.wk b ks m))
 |mp {kk:IntKind} {vk:KL} {ag:Bool} {m m':Int->Option CL}:ShO (.oth (.mp kk vk ag m)) (.oth (.mp kk vk ag m'))
 |ho {b:Nat} {ks:KL} {l:LX} {j:Int} {id:Nat}:ShO (.oth (.ho b ks l j id)) (.oth (.ho b ks l j id))
 |vals {us:VL} {cs:SL}:ShO (.oth (.vals us cs)) (.oth (.vals us cs))
 |bl {t:TY} {u v:BL}:ShO (.oth (.bl t u)) (.oth (.bl t v))
 |vr {cs:SL}:ShO (.oth (.vr cs)) (.oth (.vr cs))
inductive InF (ks:NL):FR->FR->Prop
 |nil:InF ks [] []
 |turn {k:Nat} {v w:SV} {r q:FR} (hk:aJ k ks=true) (h:ShS v w) (t:InF ks r q):InF ks ((k,v)::r) ((k,w)::q)
 |stay {k:Nat} {v:SV} {r q:FR} (hk:aJ k ks=false) (t:InF ks r q):InF ks ((k,v)::r) ((k,v)::q)
inductive InH (hv:NL):HP->HP->Prop
 |nil:InH hv [] []
 |turn {i:Nat} {v w:SJ} {r q:HP} (hk:aJ i hv=true) (h:ShO v w) (t:InH hv r q):InH hv ((i,v)::r) ((i,w)::q)
 |stay {i:Nat} {v:SJ} {r q:HP} (hk:aJ i hv=false) (t:InH hv r q):InH hv ((i,v)::r) ((i,v)::q)
theorem aCg{ks:NL}:∀{f g:FR} {K:FR->Prop},aNe ks f K->InF ks f g->K g
 |_,_,K,h,.nil=>h
 |(k,v)::r,(_,w)::q,K,h,.turn hk hs t=>by
  simp only[aAn,hk,QT] at h;exact aCg (f:=r) (g:=q) (K:=fun r=>K ((k,w)::r)) (bAu (K:=fun v=>aNe ks r fun r=>K ((k,v)::r)) h hs) t
 |(k,v)::r,(_,_)::q,K,h,.stay hk t=>by
  simp only[aAn,hk,QF] at h;exact aCg (f:=r) (g:=q) (K:=fun r=>K ((k,v)::r)) h t
theorem aZa{v w:SJ}{K:SJ->Prop}(h:bEv v K)(s:ShO v w):K w:=by
 cases s with
 |box s=>exact rN h s
 |row=>exact h _
 |wk=>exact h _
 |mp=>exact h _
 |ho=>exact h
 |vals=>exact h
 |bl=>exact h _
 |vr=>exact h
theorem aBq{hv:NL}:∀{f g:HP} {K:HP->Prop},aPc hv f K->InH hv f g->K g
 |_,_,K,h,.nil=>h
 |(k,v)::r,(_,w)::q,K,h,.turn hk hs t=>by
  simp only[aAm,hk,QT] at h;exact aBq (f:=r) (g:=q) (K:=fun r=>K ((k,w)::r)) (aZa (K:=fun v=>aPc hv r fun r=>K ((k,v)::r)) h hs) t
 |(k,v)::r,(_,_)::q,K,h,.stay hk t=>by
  simp only[aAm,hk,QF] at h;exact aBq (f:=r) (g:=q) (K:=fun r=>K ((k,v)::r)) h t
def thF(ks:NL)(fr':FR):FR->List (Nat×Nat)
 |[]=>[]
 |(k,v)::r=>cond (aJ k ks) (match bP k fr' with
  |some w=>thS v w++thF ks fr' r
  |none=>thF ks fr' r) (thF ks fr' r)
def thH(hv:NL)(qc:HP):HP->List (Nat×Nat)
 |[]=>[]
 |(i,.box _ cs)::r=>cond (aJ i hv) (match hget i qc with
  |some (.box _ cs')=>thL cs cs'++thH hv qc r
  |_=>thH hv qc r) (thH hv qc r)
 |(_,.row _ _ _)::r=>thH hv qc r
 |(_,.oth _)::r=>thH hv qc r
def nxF(ks:NL)(th:List (Nat×Nat))(nx:Nat)(fr' f:FR):(FR->Prop)->Prop:=List.rec (motive:=fun _=>(FR->Prop)->Prop) (fun K=>K []) (fun p _ ih K=>match p with
 |(k,v)=>(match bP k fr' with
  |some w=>cond (aJ k ks) (frc (mtS v w) fun u=>cond (bdS nx u) (Ag (agS th u w) (ih fun r=>K ((k,u)::r))) False) (cond (bdS nx v) (Ag (agS th v w) (ih fun r=>K ((k,v)::r))) False)
  |none=>False)) f
theorem aUo{ks:NL}{th:List (Nat×Nat)}{nx k:Nat}{fr' r:FR}{v:SV}{K:FR->Prop}:nxF ks th nx fr' ((k,v)::r) K=(match bP k fr' with
 |some w=>cond (aJ k ks) (frc (mtS v w) fun u=>cond (bdS nx u) (Ag (agS th u w) (nxF ks th nx fr' r fun r=>K ((k,u)::r))) False) (cond (bdS nx v) (Ag (agS th v w) (nxF ks th nx fr' r fun r=>K ((k,v)::r))) False)
 |none=>False):=rfl
def mtO(v w:SJ):SJ:=match v,w with
 |.box t cs,.box _ cs'=>.box t (mtL cs cs')
 |.row b ks _,.row _ _ l=>.row b ks l
 |.oth (.wk b ks _),.oth (.wk _ _ l)=>.oth (.wk b ks l)
 |.oth (.mp kk vk ag _),.oth (.mp _ _ _ m)=>.oth (.mp kk vk ag m)
 |.oth (.bl t _),.oth (.bl _ u)=>.oth (.bl t u)
 |v,_=>v
def agO(th:List (Nat×Nat))(v w:SJ):Prop:=match v,w with
 |.box t cs,.box t' cs'=>t=t'/\agL th cs cs'
 |.row b ks l,.row b' ks' l'=>b=b'/\ks=ks'/\l=l'
 |.oth o,.oth o'=>o'=rnX th o
 |_,_=>False
def bFp(o:SJ)(K:SJ->Prop):Prop:=match o with
 |.box t cs=>gQ cs fun cs=>K (.box t cs)
 |.row b ks l=>K (.row b ks l)
 |.oth (.wk b ks l)=>K (.oth (.wk b ks l))
 |.oth (.mp kk vk ag m)=>K (.oth (.mp kk vk ag m))
 |.oth (.ho b ks l j id)=>K (.oth (.ho b ks l j id))
 |.oth (.vals us cs)=>K (.oth (.vals us cs))
 |.oth (.bl t u)=>K (.oth (.bl t u))
 |.oth (.vr cs)=>K (.oth (.vr cs))
theorem bBf{o:SJ}{K:SJ->Prop}(h:bFp o K):K o:=by
 cases o with
 |box t cs=>exact cJ h
 |row b ks l=>exact h
 |oth o=>cases o<;>exact h
def nxH(hv:NL)(th:List (Nat×Nat))(nx:Nat)(h:HP):HP->(HP->HP->Prop)->Prop:=List.rec (motive:=fun _=>HP->(HP->HP->Prop)->Prop) (fun qc K=>K [] qc) (fun p _ ih qc K=>match p with
 |(i,o)=>(match hget (rn th i) qc with
  |some o'=>cond (Nat.blt i nx) (cond (aJ i hv) (bFp (mtO o o') fun u=>cond (bdO nx u) (Ag (agO th u o') (lR (rn th i) qc fun qc=>ih qc fun r q=>K ((i,u)::r) q)) False) (cond (bdO nx o) (Ag (agO th o o') (lR (rn th i) qc fun qc=>ih qc fun r q=>K ((i,o)::r) q)) False)) False
  |none=>False)) h
theorem aQl{hv:NL}{th:List (Nat×Nat)}{nx i:Nat}{o:SJ}{r qc:HP}{K:HP->HP->Prop}:nxH hv th nx ((i,o)::r) qc K=(match hget (rn th i) qc with
 |some o'=>cond (Nat.blt i nx) (cond (aJ i hv) (bFp (mtO o o') fun u=>cond (bdO nx u) (Ag (agO th u o') (lR (rn th i) qc fun qc=>nxH hv th nx r qc fun r q=>K ((i,u)::r) q)) False) (cond (bdO nx o) (Ag (agO th o o') (lR (rn th i) qc fun qc=>nxH hv th nx r qc fun r q=>K ((i,o)::r) q)) False)) False
 |none=>False):=rfl
def fxB(th:List (Nat×Nat))(nx:Nat):NL->Bool
 |[]=>true
 |i::r=>cond (Nat.beq (rn th i) i) (cond (Nat.blt i nx) (fxB th nx r) false) false
end Go.AM
