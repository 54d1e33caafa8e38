/-
  An abstract machine that runs a program of the given form, and its soundness, part 10.
-/
import Derived.Test.YtfcmggoiphphnaaGreatDoorAb9
set_option linter.unusedVariables false
set_option linter.unusedSimpArgs false
set_option linter.unusedSectionVars false
noncomputable section
namespace Go.AM
open Go.RowKit
variable [σ:Sg]
variable [γ:Gam]
section
variable {P:PG}{E:Env P}{T:TTb}{C:CTb}{G:RG}{ri:RI}{i n d nx:Nat}{r:OL2}{Q:FQ}{t:Tr Value}{l:LV}{H0:AH}{A:NQ}{ρ:RM}{fs:FR}{hp:HP}{PS:PSs}{L0:OL}
 {ty:TY}{ps:String}{af:Array Edge}{gd:OB}{x y:Operand}
def KS(E:Env P)(G:RG)(ri:RI)(L0:OL)(i n:Nat)(r:OL2)(Q:FQ)(t:Tr Value)(l:LV)(ρ:RM)(A:NQ)(H0:AH)(K:FR->HP->Nat->Prop):Prop:=
 ∀fs' qc nx',K fs' qc nx'->∀ρ' PS' A' H',Den E ρ' nx' fs' qc PS' A' H' l->RiOk G ri PS' L0 nx' A' H'->RMle ρ ρ'->Gr A H0 A' H'->SO E G (i+1) r Q (fr n t l) H' A' (flt PS'++L0)
theorem dF(X Y:PSs)(k:Nat)(L:OL):flt (X++(k,L)::Y)++L0=flt X++(L++(flt Y++L0)):=by grind [bN,flt,QA]
theorem aOb{id:Nat}{o:SJ}:∀{hp:HP} {K K':HP->Prop},(∀r,K r->K' r)->jW id o hp K->jW id o hp K'
 |[],K,K',hk,h=>h
 |(j,v)::r,K,K',hk,h=>by
  rw[nN] at h ⊢;cases e:Nat.beq j id with
  |true=>simp_all
  |false=>simp only[e,QF] at h ⊢;exact aOb (fun r'=>hk _) h
theorem aAs{id:Nat}{o:SJ}:∀{hp:HP},hget id hp=some o->jW id o hp fun qc=>qc=hp
 |[],h=>by cases h
 |(j,v)::r,h=>by
  simp only[hget] at h;rw[nN];cases e:Nat.beq j id with
  |true=>simp_all
  |false=>
   simp only[e,QF] at h ⊢;have:=aAs h
   simp_all
theorem aOj(hT:dA E T)(hD:Den E ρ nx fs hp PS A H0 l)(hR:RiOk G ri PS L0 nx A H0){ta:TY}{p v:SV}{up uv:Value}{K:HP->Prop}(h:aHr T ri ta p v hp K)(rb:Rep ρ A H0 p up)(hv:Rep ρ A H0 v uv)
 (hw:gok G.ops l gd=true)(hm:G.D=true->i∈G.ms)(hx:opv l x=some up)(hy:opv l y=some uv)
 (hK:∀qc PS',K qc->Den E ρ nx fs qc PS' A H0 l->RiOk G ri PS' L0 nx A H0->SO E G (i+1) r Q (fr n t l) H0 A (flt PS'++L0)):SO E G i (⟨none,.store ta x y,ty,ps,af,gd⟩::r) Q (fr n t l) H0 A (flt PS++L0):=by
 unfold aHr at h;split at h
 ·rename_i cl ti yd qs;obtain⟨z,hi,_⟩:=(hT _ _ qs).inf;cases es:scS cl with
  |false=>simp_all
  |true=>
   rw[es,QT] at h;cases el:Nat.beq (fV cl) ti.size with
   |false=>simp_all
   |true=>
    rw[el,QT] at h;have el:=QN el;rw[dQ] at el;have R:=(Rep.one hD.one hv yd).1;have zp:=aGh hD.one es R;have qe:=R.len;split at h
    ·rename_i id o;simp only[Rep] at rb;obtain⟨N,e1,rfl⟩:=rb;split at h
     ·rename_i bt cs hg;obtain⟨qv,h⟩:=hR.ns h;obtain⟨La,X,Y,qq,⟨N',vs,r1,r2,r3⟩,_,xd,_⟩:=hD.hp.get hg;rw[e1] at r1;simp only[Option.some.injEq,Value.pointer.injEq,Addr.mk.injEq] at r1;have eN:N'=N:=by omega
      subst eN;subst r2;split at h
      ·rename_i cs' ya;have q:=nK ya;obtain⟨qc,k1,k2⟩:=xd _ _ (cJ h);subst qq;have hl3:=r3.len;refine kE (L':=flt (X++(id,[(N',.cells (vs.take o++(uv.cells.toList++vs.drop (o+uv.cells.toList.length))) (dV E bt) true)])::Y)++L0) hw hm hx hy hi rfl (by rw[qe,el]) zp (by rw[dF,dF];exact Upd.split _ _) rfl (by omega) (fun qw=>(hR.put qv).sub qw) ?_;refine hK qc _ k1 ⟨hD.no,hD.one,hD.fr,k2 (RMle.refl _) (Gr.refl _ _) ⟨N',_,e1,rfl,?_⟩⟩ (hR.put qv);rw[q.1];exact r3.spl R
      ·exact h.elim
     ·exact h.elim
    ·rename_i id j o m;simp only[Rep] at rb;obtain⟨M,ln,cp,e1,rfl⟩:=rb;split at h
     ·rename_i b ks rr hg;cases em:Nat.beq m ks.length with
      |false=>simp_all
      |true=>
       rw[em,QT] at h;have em:=QN em;obtain⟨qv,h⟩:=hR.ns h;obtain⟨La,X,Y,qq,⟨x',r1,r2⟩,_,xd,_⟩:=hD.hp.get hg;obtain⟨M',cs,ex,q1,q2,q3⟩:=r2.pos h.h;rw[e1] at r1;rw[q1] at r1;simp only[Option.some.injEq,Value.slice.injEq,Addr.mk.injEq] at r1;have eM:M'=M:=by omega
       subst eM;subst q2;have hk:=h.t;split at hk
       ·rename_i ks' rz;have w0:=aBc rz;split at hk
        ·rename_i kk yf;have w:=aCl yf;rw[dQ,w0.1] at w;obtain⟨ss',k1,_,_,k4⟩:=lC hk R;subst qq;have ua:=w.2;rw[List.length_drop] at ua;have wx:=w0.2;rw[w.1,<-qe] at k4;have ho:o+uv.cells.toList.length<=ks.length:=by omega
         refine bEu (L'':=fun cs'=>flt (X++(id,[(M',.cells cs' ks.length ex)])::Y)++L0) (o:=o) (m:=m) r2.1 r2.2.1 q3 h.h.1 h.h.2 hw hm hx em hy hi rfl (by rw[qe,el]) (Nat.ble_eq_true_of_le ho) k4 (fun cs'=>by rw[dF,dF];exact Upd.split _ _) (fun cs' qw=>(hR.put qv).sub qw) ?_;rintro cs' rr' ⟨hl,hX⟩ t';obtain⟨qc,p1,p2⟩:=xd _ _ (k1 rr' hl (by rw[hX,dQ,qe]));refine hK qc _ p1 ⟨hD.no,hD.one,hD.fr,p2 (RMle.refl _) (Gr.refl _ _) ⟨_,e1,?_⟩⟩ (hR.put qv);have:=OwS.mk (M:=M') (ex:=ex) (A:=A) (H:=H0) (b:=b) (by rw[hl];exact r2.1) (by rw[hl];exact r2.2.1) t'
         grind
        ·exact hk.elim
       ·exact hk.elim
     ·exact h.elim
    ·rename_i id o m;simp only[Rep] at rb;obtain⟨N,k,e1,hk,rfl⟩:=rb;split at h
     ·rename_i bt cs zz hg nu;obtain⟨qv,h⟩:=hR.ns h;split at h
      ·rename_i lo qi rr hd;obtain⟨La,X,Y,qq,⟨N',vs,r1,r2,r3⟩,_,xd,_⟩:=hD.hp.get hg;rw[e1] at r1;simp only[Option.some.injEq,Value.pointer.injEq,Addr.mk.injEq] at r1;have eN:N'=N:=by omega
       subst eN;subst r2;have hc:=aSc hd h.h hk;have R1:Reps ρ A H0 [.rng lo qi] uv.cells.toList:=by
        cases hu:uv.cells.toList with
        |nil=>grind
        |cons a q=>
         rw[hu] at R;simp only[Reps,Rep] at R ⊢;obtain⟨⟨rfl,w1⟩,w2⟩:=R;exact⟨⟨_,rfl,w1,h.t.h.1,h.t.h.2⟩,w2⟩
       have ut:uv.cells.toList.length=1:=R1.len;have wu:o+k<cs.length:=by
        grind
       have hl3:=r3.len;have same:cs.take (o+k)++([.rng lo qi]++cs.drop (o+k+[SV.rng lo qi].length))=cs:=by
        grind [List.getElem?_eq_getElem,Option.some.inj,List.length_singleton,List.singleton_append,List.drop_eq_getElem_cons,List.take_append_drop]
       obtain⟨qc,k1,k2⟩:=xd (.box bt cs) (fun qc=>qc=hp) (aAs hg);subst qq;subst k1;refine kE (L':=flt (X++(id,[(N',.cells (vs.take (o+k)++(uv.cells.toList++vs.drop (o+k+uv.cells.toList.length))) (dV E bt) true)])::Y)++L0) hw hm hx hy hi rfl (by rw[qe,el]) zp (by rw[dF,dF];exact Upd.split _ _) rfl (by omega) (fun qw=>(hR.put qv).sub qw) ?_;refine hK _ _ h.t.t ⟨hD.no,hD.one,hD.fr,k2 (RMle.refl _) (Gr.refl _ _) ⟨N',_,e1,rfl,?_⟩⟩ (hR.put qv);have:=r3.spl (o:=o+k) R1
       simp_all
      ·exact h.elim
     ·exact h.elim
    ·exact h.elim
 ·exact h.elim
theorem aKh{v:SV}{w:Value}{b:Nat}{ks:KL}{K:LX->Prop}(hH:RepH E ρ A H0 hp PS)(hv:Rep ρ A H0 v w)(h:bAb v hp b ks K){S:AH}{A0:NQ}{L:OL}(hL:∀q∈flt PS,q∈L):∃l2,K l2/\aCj S H0 A0 A L ks l2 w/\l2.length<=140737488351232/\l2.length*b<=140737488351232:=by
 unfold bAb at h;split at h
 ·simp only[Rep] at hv;subst hv;have:=(RowD.zero (A:=A) (H:=H0) (b:=b) (ks:=ks)).firsts (S:=S) (A0:=A0) (L:=L)
  grind
 ·rename_i b' ks' l2;cases e1:Nat.beq b b' with
  |false=>simp_all
  |true=>
   rw[e1,QT] at h;cases e2:kdsEq ks ks' with
   |false=>simp_all
   |true=>
    rw[e2,QT] at h;have e1:=QN e1;have e2:=kdsEq_ok e2;subst e1;subst e2;simp only[Rep] at hv;obtain⟨l',a,cap,e,rfl,rx⟩:=hv.rowD;cases e;exact⟨l2,h,rx.firsts,rx.len,rx.bytes⟩
 ·rename_i j;split at h
  ·rename_i b' ks' l2 hg;cases e1:Nat.beq b b' with
   |false=>simp_all
   |true=>
    rw[e1,QT] at h;cases e2:kdsEq ks ks' with
    |false=>simp_all
    |true=>
     rw[e2,QT] at h;have e1:=QN e1;have e2:=kdsEq_ok e2;subst e1;subst e2;obtain⟨La,X,Y,qq,⟨x',r1,r2⟩,_⟩:=hH.get hg;simp only[Rep] at hv;rw[hv] at r1;cases r1;exact⟨l2,h,r2.firsts (fun q hq=>hL q (by grind [bN,flt,List.mem_append_right,List.mem_append_left])),r2.1,r2.2.1⟩
  ·exact h.elim
 ·exact h.elim
theorem aJv(hT:dA E T)(hD:Den E ρ nx fs hp PS A H0 l)(hR:RiOk G ri PS L0 nx A H0){c:Call}{sT xT:TY}{u v:SV}{uu uv:Value}{K:SV->FR->HP->Nat->Prop}(h:aDj T ri i sT xT u v hp nx fun s hp nx=>K s fs hp nx)(hu:Rep ρ A H0 u uu)(hv:Rep ρ A H0 v uv)
 (hw:gok G.ops l gd=true)(qd:Nat.ble (d+1) n=true)(hc:c.callee=.builtin .append)(ha:c.args.toList=[x,y])(ht:c.argTypes.toList=[sT,xT])(hx:opv l x=some uu)(hy:opv l y=some uv)
 (hK:KV E G ri L0 i n d r Q t l ρ A H0 K):SO E G i (⟨some d,.call c,ty,ps,af,gd⟩::r) Q (fr n t l) H0 A (flt PS++L0):=by
 unfold aDj at h;split at h
 ·rename_i ti tx qs htx;obtain⟨w,xx,_,hs⟩:=(hT _ _ qs).und;obtain⟨w2,jl,_,yw⟩:=(hT _ _ htx).und;split at h
  ·rename_i e e2 qn cu;rw[qn] at hs;simp only[cM] at hs;subst hs;rw[cu] at yw;simp only[cM] at yw;subst yw;split at h
   ·rename_i te zw;obtain⟨z,hi,_⟩:=(hT _ _ zw).inf;cases e0:Nat.beq te.size 0 with
    |true=>simp_all
    |false=>
     rw[e0,QF] at h;cases e1:Nat.beq te.size te.ks.length with
     |false=>simp_all
     |true=>
      rw[e1,QT] at h;have e1:=QN e1;have e0:te.size≠0:=fun e=>by rw[e] at e0;cases e0
      obtain⟨hm,h⟩:=hR.mn h;split at h
      ·simp only[Rep] at hu;subst hu;obtain⟨l2,k1,k2,k3,k4⟩:=aKh (S:=G.S) (A0:=G.A0) (L:=flt PS++L0) hD.hp hv h (fun q hq=>List.mem_append_left _ hq);have k1:=k1 k3 k4;refine aUu (b:=te.bytes) OwS.nil .nil k2 hw qd hm hc ha ht hx hy xx jl rfl hi rfl e1 (by rw[<-e1];exact e0) rfl (by simpa using k1.h) (by simpa using k3) (fun qw=>hR.sub qw) ?_;intro x' Lr' ow;rw[List.nil_append] at ow;exact KV.row hK hD hD hR ow (k1.t _ rfl rfl)
      ·rename_i id;split at h
       ·rename_i b ks l1 hg;cases eb:Nat.beq b te.bytes with
        |false=>simp_all
        |true=>
         rw[eb,QT] at h;cases ek:kdsEq ks te.ks with
         |false=>simp_all
         |true=>
          rw[ek,QT] at h;have eb:=QN eb;have ek:=kdsEq_ok ek;subst eb;subst ek;obtain⟨qv,h⟩:=hR.ns h;obtain⟨La,X,Y,qq,⟨x',r1,r2⟩,_,_,xc⟩:=hD.hp.get hg;obtain⟨qc,h,hh⟩:=xc _ h;simp only[Rep] at hu;rw[r1] at hu;cases hu;obtain⟨l2,k1,k2,k3,k4⟩:=aKh (S:=G.S) (A0:=G.A0) (L:=flt PS++L0) hh hv h (fun q hq=>by
           grind [bN,flt,List.mem_append_left,List.mem_append_right])
          have k1:=k1 r2.1 k3 k4;subst qq;refine aUu (L':=flt (X++Y)++L0) (b:=te.bytes) r2 (by grind [dF,bN,QA,Takes.ow]) k2 hw qd hm hc ha ht hx hy xx jl rfl hi rfl e1 (by rw[<-e1];exact e0) rfl k1.h.1 k1.h.2 (fun qw=>(hR.del qv).sub qw) ?_;intro x2 Lr' ow;exact KV.row hK hD ⟨hD.no,hD.one,hD.fr,hh⟩ (hR.del qv) ow (k1.t _ (by simp) rfl)
       ·exact h.elim
      ·exact h.elim
   ·exact h.elim
  ·exact h.elim
 ·exact h.elim
theorem aVc(hT:dA E T)(hD:Den E ρ nx fs hp PS A H0 l)(hR:RiOk G ri PS L0 nx A H0){ta:TY}{u v:SV}{uu uv:Value}{K:SV->FR->HP->Nat->Prop}(h:aWh T ri i ta u v hp nx fun s hp nx=>K s fs hp nx)(hu:Rep ρ A H0 u uu)(hv:Rep ρ A H0 v uv)
 (hw:gok G.ops l gd=true)(qd:Nat.ble (d+1) n=true)(hx:opv l x=some uu)(hy:opv l y=some uv)
 (hK:KV E G ri L0 i n d r Q t l ρ A H0 K):SO E G i (⟨some d,.makeSlice ta x y,ty,ps,af,gd⟩::r) Q (fr n t l) H0 A (flt PS++L0):=by
 unfold aWh at h;split at h
 ·rename_i k j k' j';simp only[Rep] at hu hv;obtain⟨rfl,_⟩:=hu;obtain⟨rfl,_⟩:=hv;split at h
  ·rename_i ti qs;obtain⟨w,xx,_,hs⟩:=(hT _ _ qs).und;split at h
   ·rename_i e qn;rw[qn] at hs;simp only[cM] at hs;subst hs;split at h
    ·rename_i te zw;obtain⟨z,hi,hz⟩:=(hT _ _ zw).inf;cases e0:Nat.beq te.size 0 with
     |true=>simp_all
     |false=>
      rw[e0,QF] at h;have e0:te.size≠0:=fun e=>by rw[e] at e0;cases e0
      obtain⟨hm,h⟩:=hR.mn h;obtain⟨q1,q2,q3,q4⟩:=h.h;subst q1;have Z:=hz ρ A H0;rw[tI] at Z;obtain⟨ss,k1,_,_,k4⟩:=lC h.t Z;have zl:z.cells.size=te.size:=E.zs_ok _ _ _ hi rfl;have kl:=k4.len.1;have ez:∀l:VL,(extL l).length=l.length:=fun l=>by
       induction l with
       |nil=>rfl
       |cons a l ih=>simp[extL,ih]
      rw[ez,Array.length_toList,zl] at kl;obtain⟨a,rfl⟩:∃a:Nat,j=((a:Nat):Int):=⟨j.toNat,by omega⟩;have nv:a*te.bytes<=140737488351232:=by
       omega
      refine aZx (a:=a) (c:=a) hw qd hm hx hy xx hi rfl (Nat.le_refl _) (by omega) (by grind) rfl kl fun N=>?_;have tt:=Typd.rep (A:=A) (H:=H0) k4 a;have z9:extL (cP (if a*te.size=0 then #[] else z.cells) (a*te.size))=(List.replicate a (extL z.cells.toList)).flatten:=by
       by_cases nw:a=0
       ·grind [cP,extL]
       ·rw[if_neg (fun h=>by grind [Nat.mul_eq_zero]),<-zl,oT (by rw[zl];exact e0)]
      have ow:OwS A H0 te.bytes te.ks (List.replicate a (ss.map cSV)) (.slice (some ⟨2*N+1,0,none⟩) a a) [(N,.cells (List.replicate a (extL z.cells.toList)).flatten te.ks.length true)]:=by
       grind [OwS.mk,List.replicate,cSV,List.length_replicate]
      simp only;rw[z9];exact KV.row hK hD hD hR ow (k1 _ (by grind) (by rw[Int.toNat_natCast]))
    ·exact h.elim
   ·exact h.elim
  ·exact h.elim
 ·exact h.elim
theorem aHm(hT:dA E T)(hD:Den E ρ nx fs hp PS A H0 l)(hR:RiOk G ri PS L0 nx A H0){ta:TY}{len:Nat}{parts:Array (Nat×Operand)}{vs:List (Nat×SV)}{us:LV}{K:SV->FR->HP->Nat->Prop}(h:aDn T ri i ta len vs fs hp nx K)(hv:RepF ρ A H0 vs us)
 (hw:gok G.ops l gd=true)(qd:Nat.ble (d+1) n=true)(d6:Opps l parts.toList us)
 (hK:KV E G ri L0 i n d r Q t l ρ A H0 K):SO E G i (⟨some d,.buildSlice ta len parts,ty,ps,af,gd⟩::r) Q (fr n t l) H0 A (flt PS++L0):=by
 unfold aDn at h;split at h
 ·rename_i ti qs;obtain⟨w,xx,_,hs⟩:=(hT _ _ qs).und;split at h
  ·rename_i e qn;rw[qn] at hs;simp only[cM] at hs;subst hs;split at h
   ·rename_i te zw;obtain⟨z,hi,hz⟩:=(hT _ _ zw).inf;cases e0:Nat.beq te.size 0 with
    |true=>simp_all
    |false=>
     rw[e0,QF] at h;cases e1:Nat.ble (len*te.size) 16777216 with
     |false=>simp_all
     |true=>
      rw[e1,QT] at h;cases e2:Nat.ble (len*te.bytes) 140737488351232 with
      |false=>simp_all
      |true=>
       rw[e2,QT] at h;have e0':te.size≠0:=fun e=>by rw[e] at e0;cases e0
       cases e3:Nat.beq te.size te.ks.length with
       |false=>
        rw[e3,QF] at h;unfold aKj at h;cases e5:Nat.beq te.size 1 with
        |false=>simp_all
        |true=>
         rw[e5,QT] at h;have e5:=QN e5;have zl:z.cells.size=te.size:=E.zs_ok _ _ _ hi rfl;have Z:=hz ρ A H0;rw[tI] at Z;have z9:extL (cP (if len*te.size=0 then #[] else z.cells) (len*te.size))=(List.replicate len (extL z.cells.toList)).flatten:=by
          by_cases nw:len=0
          ·grind [cP,extL]
          ·rw[if_neg (fun h=>by simp_all),<-zl,oT (by rw[zl];exact e0')]
         split at h
         ·rename_i cells yd;obtain⟨os,k1,k2⟩:=qI hD.one yd (aCc Z len) hv;cases e6:ptL cells with
          |false=>simp_all
          |true=>
           rw[e6,QT] at h;cases e7:Nat.beq (fV cells) len with
           |false=>simp_all
           |true=>
            rw[e7,QT] at h;have e7:=QN e7;rw[dQ,<-k2.len] at e7;obtain⟨hm,h⟩:=hR.mn h;have h:=cJ h;refine jT hw qd hm d6 xx hi (by simp only[e1,e0];rfl) rfl (by simp only[z9];exact k1) (by simp_all) (s:=1) e5 fun N=>?_;refine hK.new hD hR (o:=.oth (.vr cells)) (La:=[(N,_)]) (s:=.ow nx) rfl hD hR (fun qf hr=>⟨N,os,true,by rw[e7];exact hr,rfl,Reps.mono qf (Gr.refl _ _) k2⟩) h (fun _ hr=>by grind [Rep])
         ·exact h.elim
       |true=>
        rw[e3,QT] at h;have e3:=QN e3;obtain⟨hm,h⟩:=hR.mn h;have zl:z.cells.size=te.size:=E.zs_ok _ _ _ hi rfl;have Z:=hz ρ A H0;rw[tI] at Z;have z9:extL (cP (if len*te.size=0 then #[] else z.cells) (len*te.size))=(List.replicate len (extL z.cells.toList)).flatten:=by
         by_cases nw:len=0
         ·grind [cP,extL]
         ·rw[if_neg (fun h=>by grind [Nat.mul_eq_zero]),<-zl,oT (by rw[zl];exact e0')]
        split at h
        ·rename_i cells yd;obtain⟨os,k1,k2⟩:=qI hD.one yd (aCc Z len) hv;refine vM hD hR k2 h fun ss' fs' qc PS' A1 H1 kk zk wg g nr=>?_;cases e4:Nat.ble len 140737488351232 with
         |false=>simp_all
         |true=>
          rw[e4,QT] at kk;have hk:te.ks≠[]:=fun e=>by simp_all
          obtain⟨rr,ll,k3,k4,k5,k6⟩:=aKk hk kk nr;have ht:=k5.1;refine jT hw qd hm d6 xx hi (by simp only[e1,e0];rfl) rfl (by simp only[z9];exact k1) (by simp_all) (s:=te.ks.length) e3 fun N=>?_;have ow:=OwS.mk (M:=N) (ex:=true) (A:=A1) (H:=H1) (b:=te.bytes) (l:=ll) (by simp_all) (by simp_all) k5;rw[k4] at ow;have:=KV.row (A:=A1) (H0:=H1) (K:=K) (ρ:=ρ) (fun s fs' qc nx' q ρ' PS' A' H' u a b c d e=>hK s fs' qc nx' q ρ' PS' A' H' u a b c (g.trans d) e) zk zk wg ow (k3 _ k4 k6);exact this
        ·exact h.elim
   ·exact h.elim
  ·exact h.elim
 ·exact h.elim
theorem bAa(hT:dA E T)(hD:Den E ρ nx fs hp PS A H0 l)(hR:RiOk G ri PS L0 nx A H0){ta:TY}{id o m id2:Nat}{j:Int}{u uv:Value}{K:HP->Prop}(h:bDn T ri ta id j o m id2 hp K)(rb:Rep ρ A H0 (.op id j o m) u)(ov:Rep ρ A H0 (.ow id2) uv)
 (hw:gok G.ops l gd=true)(hm:G.D=true->i∈G.ms)(hx:opv l x=some u)(hy:opv l y=some uv)
 (hK:∀qc PS',K qc->Den E ρ nx fs qc PS' A H0 l->RiOk G ri PS' L0 nx A H0->SO E G (i+1) r Q (fr n t l) H0 A (flt PS'++L0)):SO E G i (⟨none,.store ta x y,ty,ps,af,gd⟩::r) Q (fr n t l) H0 A (flt PS++L0):=by
 unfold bDn at h;split at h
 ·rename_i b ks rr ti hg qs;obtain⟨z,hi,_⟩:=(hT _ _ qs).inf;cases e1:Nat.beq ti.size 1 with
  |false=>simp_all
  |true=>
   cases e2:Nat.beq o 0 with
   |false=>simp_all
   |true=>
    cases e3:Nat.beq m ks.length with
    |false=>simp_all
    |true=>
     cases e4:Nat.beq ks.length 1 with
     |false=>simp_all
     |true=>
      rw[e1,e2,e3,e4] at h;simp only[QT] at h;have e1:=QN e1;have e2:=QN e2;have e3:=QN e3;have e4:=QN e4;subst e2;subst e3;obtain⟨qv,h⟩:=hR.ns h;obtain⟨La,X,Y,qq,⟨x',r1,r2⟩,_,xd,_⟩:=hD.hp.get hg;simp only[Rep] at rb ov;obtain⟨M,ln,cp,f1,rfl⟩:=rb;obtain⟨M',cs,ex,q1,q2,q3⟩:=r2.pos h.h;rw[f1] at r1;rw[q1] at r1;simp only[Option.some.injEq,Value.slice.injEq,Addr.mk.injEq] at r1;have eM:M'=M:=by omega
      subst eM;subst q2;obtain⟨qc,k1,k2⟩:=xd _ _ h.t;have ho:=hD.one _ _ ov;have hl:cs.length=rr.length:=by rw[q3.1,e4,Nat.mul_one]
      have hj:=h.h;subst qq;refine kE (L':=flt (X++(id,[(M',.cells (cs.take (j.toNat*ks.length+0)++([uv]++cs.drop (j.toNat*ks.length+0+[uv].length))) ks.length ex)])::Y)++L0) hw hm hx hy hi (nD ho) (by rw[e1];rfl) (by simp[aZ,ho]) (by rw[dF,dF];exact Upd.split _ _) rfl (by grind) (fun qw=>(hR.put qv).sub qw) ?_;refine hK qc _ k1 ⟨hD.no,hD.one,hD.fr,k2 (RMle.refl _) (Gr.refl _ _) ⟨_,uv,f1,ov,hj.1,hj.2,r2.1,r2.2.1,e4,ho,M',cs,ex,?_,rfl,q3⟩⟩ (hR.put qv)
      simp_all
 ·exact h.elim
end
end Go.AM
namespace Go.AM
open Go.RowKit
variable [σ:Sg]
variable [γ:Gam]
section
variable {P:PG}{E:Env P}{T:TTb}{C:CTb}{G:RG}{ri:RI}{i n d nx:Nat}{r:OL2}{Q:FQ}{t:Tr Value}{l:LV}{H0:AH}{A:NQ}{ρ:RM}{fs:FR}{hp:HP}{PS:PSs}{L0:OL}
 {ty:TY}{ps:String}{af:Array Edge}{gd:OB}{x y:Operand}
theorem aNw(hT:dA E T)(hD:Den E ρ nx fs hp PS A H0 l){ta:TY}{vs:List (Nat×SV)}{us:LV}{K:SP}(h:aJj T ta vs K)(hv:RepF ρ A H0 vs us):∃s v,K s/\Rep ρ A H0 s v/\pQ E ta us=some v:=by
 unfold aJj at h;split at h
 ·rename_i ti qs;obtain⟨w,xx,_,hs⟩:=(hT _ _ qs).und;obtain⟨z,hi,hz⟩:=(hT _ _ qs).inf;split at h
  ·rename_i fl qn;rw[qn] at hs;obtain⟨F,rfl,r9,_⟩:=hs;split at h
   ·rename_i out ox;obtain⟨os,k1,k2⟩:=qI hD.one ox (hz ρ A H0) hv;have e:(fun i=>(fl.map fun x=>(x.1,x.2.2))[i]?)=plF fl:=by
     have key:∀(fl:List (Nat×Nat×Nat)) (i:Nat),(fl.map fun x=>(x.1,x.2.2))[i]?=plF fl i:=by
      intro fl
      induction fl with
      |nil=>grind [plF,atF]
      |cons a fl ih=>
       intro i;cases i with
       |zero=>simp[plF,atF]
       |succ i=>grind [List.getElem?_cons_succ,plF,atF]
     simp_all
    refine⟨_,.agg ⟨os⟩,cJ h,by simp only[Rep];exact⟨_,rfl,k2⟩,?_⟩
    grind [pQ]
   ·exact h.elim
  ·rename_i m e qn;rw[qn] at hs;simp only[cM] at hs;subst hs;split at h
   ·rename_i te zw;obtain⟨z2,v5,_⟩:=(hT _ _ zw).inf;split at h
    ·rename_i out ox;obtain⟨os,k1,k2⟩:=qI hD.one ox (hz ρ A H0) hv;refine⟨_,.agg ⟨os⟩,cJ h,by simp only[Rep];exact⟨_,rfl,k2⟩,?_⟩
     grind [pQ]
    ·exact h.elim
   ·exact h.elim
  ·exact h.elim
 ·exact h.elim
theorem bAo(hT:dA E T){ta:TY}{g:Nat}{s2:SV}{u2:Value}{K:SP}{L:OL}(h:aWr T ta g s2 K)(hy:Rep ρ A H0 s2 u2)(hw:gok G.ops l gd=true)(qd:Nat.ble (d+1) n=true)(ho:opv l y=some u2)
 (hK:∀s v,K s->Rep ρ A H0 s v->SO E G (i+1) r Q (fr n t ((d,v)::l)) H0 A L):SO E G i (⟨some d,.indexAddr ta (.global g) y,ty,ps,af,gd⟩::r) Q (fr n t l) H0 A L:=by
 unfold aWr at h;split at h
 ·rename_i kk j;simp only[Rep] at hy;obtain⟨rfl,hj⟩:=hy
  replace h:=gZ h (cD hj).1 (cD hj).2
  split at h
  ·rename_i ti qs;obtain⟨w,xx,_,hs⟩:=(hT _ _ qs).und;split at h
   ·rename_i m e qn;rw[qn] at hs;simp only[cM] at hs;subst hs;split at h
    ·rename_i te zw;obtain⟨z,hi,_⟩:=(hT _ _ zw).inf;cases es:Nat.beq te.size 1 with
     |false=>simp_all
     |true=>
      rw[es,QT] at h;exact bDl hw qd ho xx hi (QN es) h.h.1 h.h.2 (hK _ _ h.t (by simp only[Rep]))
    ·exact h.elim
   ·exact h.elim
  ·exact h.elim
 ·exact h.elim
theorem aUl{K:SL->Prop}:∀{m:Nat} {zs:List Int},bDd m K->zs.length=m->(∀z∈zs,sJ z)->K (zs.map (SV.int .i64)):=by
 intro m
 induction m generalizing K with
 |zero=>intro zs h hl _;cases zs with
  |nil=>exact h
  |cons _ _=>simp at hl
 |succ m ih=>
  intro zs h hl hz;cases zs with
  |nil=>simp at hl
  |cons a zs=>
   have ha:=hz a (List.mem_cons_self ..);exact ih (K:=fun l=>K (.int .i64 a::l)) (h a ha.1 ha.2) (by simpa using hl) fun z xm=>hz z (List.mem_cons_of_mem _ xm)
theorem aLt{z:Int}(h:sJ z):(Lit.int .i64 z).wf=true:=kP (by simp[IntKind.min,IntKind.bits,IntKind.signed];omega) (by simp_all)
theorem aDu:∀{zs:List Int},(∀z∈zs,sJ z)->Reps ρ A H0 (zs.map (SV.int .i64)) (zs.map (Value.int .i64))
 |[],_=>by simp[Reps]
 |z::zs,h=>by
  simp only[List.map_cons,Reps,Rep];exact⟨⟨trivial,aLt (h z (List.mem_cons_self ..))⟩,aDu fun z hz=>h z (List.mem_cons_of_mem _ hz)⟩
theorem aFd:∀{ss:SL} {us:VL},aAq ss=true->Reps ρ A H0 ss us->∃zs:List Int,us=zs.map (Value.int .i64)/\∀z∈zs,sJ z
 |[],[],_,_=>⟨[],rfl,fun z h=>by cases h⟩
 |s::ss,u::us,h,k=>by
  simp only[Reps] at k;cases s with
  |int kk m=>
   cases kk<;>simp only[aAq] at h<;>first|(cases h;done)|skip
   obtain⟨zs,rfl,hz⟩:=aFd h k.2;have k1:=k.1;simp only[Rep] at k1;obtain⟨rfl,hm⟩:=k1;refine⟨m::zs,rfl,fun z xm=>?_⟩;rcases List.mem_cons.1 xm with rfl|xm
   ·have:=cD hm
    grind [IntKind.min,IntKind.max,IntKind.bits,IntKind.signed]
   ·exact hz z xm
  |_=>simp[aAq] at h
 |[],_::_,_,h=>by simp only[Reps] at h
 |_::_,[],_,h=>by simp only[Reps] at h
theorem aPo(hT:dA E T){ta:TY}{s s2:SV}{u u2:Value}{lit:Bool}{K:SP}(h:aIo T ta s s2 lit K)(hx:Rep ρ A H0 s u)(hy:Rep ρ A H0 s2 u2):∃s' v,K s'/\Rep ρ A H0 s' v/\jU E ta u u2=some v:=by
 unfold aIo at h;split at h
 ·rename_i kk j;simp only[Rep] at hy;obtain⟨rfl,hj⟩:=hy
  replace h:=gZ h (cD hj).1 (cD hj).2
  split at h
  ·rename_i ti qs;obtain⟨w,hw,_,hs⟩:=(hT _ _ qs).und;split at h
   ·rename_i s;split at h
    ·rename_i qn;rw[qn] at hs;simp only[cM] at hs;subst hs;simp only[Rep] at hx;obtain⟨rfl,hl⟩:=hx;have q:=h hl;have hb:j.toNat<s.data.toList.length:=by have:=q.h;omega
     refine⟨_,.int .u8 (((s.data.toList[j.toNat]).toNat:Nat):Int),q.t (((s.data.toList[j.toNat]).toNat:Nat):Int) (Int.natCast_nonneg _) (by have:=(s.data.toList[j.toNat]).toNat_lt;omega) (by simp only[sBt,List.getElem?_eq_getElem hb,Option.getD_some]),?_,?_⟩
     ·simp only[Rep];refine⟨trivial,kP ?_ ?_⟩
      ·simp[IntKind.min,IntKind.bits,IntKind.signed]
      ·have:=(s.data.toList[j.toNat]).toNat_lt
       grind [IntKind.max,IntKind.bits,IntKind.signed]
     ·simp only[jU,hw,dP q.h.1 q.h.2,List.getElem?_eq_getElem hb]
    ·exact h.elim
   ·rename_i cs;split at h
    ·rename_i m e qn;rw[qn] at hs;simp only[cM] at hs;subst hs;split at h
     ·rename_i te zw;obtain⟨z,hi,_⟩:=(hT _ _ zw).inf;obtain⟨we,jm,yn,_⟩:=(hT _ _ zw).und;simp only[Rep] at hx;obtain⟨vs,rfl,hx⟩:=hx;rcases h.h with h|h
      rotate_left
      ·obtain⟨h0,h1,hk⟩:=kT h;obtain⟨s',v,q1,q2,dd,q3,q4⟩:=nF hT hk hx;refine⟨s',v,q1,q2,?_⟩;rcases q4 with⟨k1,k2⟩|⟨k1,ii,xs,k2,k3,k4,rfl⟩
       ·simp only[jU,hw,hi,dP h0 h1,apart,q3,k1,QF,k2]
       ·rw[hi] at k2;cases k2;have c1:Nat.ble (j.toNat*te.size+te.size) vs.length=true:=Nat.ble_eq_true_of_le k3;simp only[jU,hw,hi,dP h0 h1,apart,q3,k1,QT,c1,k4]
      cases e1:aAq cs with
      |false=>simp_all
      |true=>
       rw[e1,QT] at h;cases e2:Nat.ble (m*te.size) (fV cs) with
       |false=>simp_all
       |true=>
        rw[e2,QT] at h;have e2:=QL e2;obtain⟨zs,ww,pg⟩:=aFd e1 hx;have hl:=hx.len;rw[dQ,<-hl] at e2;subst ww;rw[List.length_map] at e2;have q:=h.h;have qf:(j.toNat+1)*te.size<=m*te.size:=Nat.mul_le_mul_right _ (by omega);rw[Nat.add_mul,Nat.one_mul] at qf;have ht:=h.t;split at ht
        ·rename_i ha;have qe:((zs.drop (j.toNat*te.size)).take te.size).length=te.size:=by grind
         have zy:∀z∈(zs.drop (j.toNat*te.size)).take te.size,sJ z:=fun z hz=>pg z (List.mem_of_mem_drop (List.mem_of_mem_take hz));refine⟨_,.agg ⟨((zs.drop (j.toNat*te.size)).take te.size).map (Value.int .i64)⟩,aUl ht qe zy,?_,?_⟩
         ·simp only[Rep];exact⟨_,rfl,aDu zy⟩
         ·have c1:Nat.ble (j.toNat*te.size+te.size) (zs.map (Value.int .i64)).length=true:=Nat.ble_eq_true_of_le (by grind);simp only[jU,hw,hi,dP q.1 q.2,apart,jm,yn,ha,c1,QT,List.map_take,List.map_drop]
        ·rename_i ha;cases e3:Nat.beq te.size 1 with
         |false=>simp_all
         |true=>
          rw[e3,QT] at ht;have e3:=QN e3;rw[e3,Nat.mul_one] at e2;have hk:j.toNat<zs.length:=by omega
          have zy:=pg _ (List.getElem_mem hk);refine⟨_,.int .i64 zs[j.toNat],ht _ zy.1 zy.2,by simp only[Rep];exact⟨trivial,aLt zy⟩,?_⟩;have c3:(zs.map (Value.int .i64))[j.toNat]?=some (.int .i64 zs[j.toNat]):=by simp[hk]
          simp only[jU,hw,hi,dP q.1 q.2,apart,jm,yn,ha,QF,e3,Nat.mul_one,c3]
     ·exact h.elim
    ·exact h.elim
   ·exact h.elim
  ·exact h.elim
 ·exact h.elim
omit [γ:Gam] in
def OpR(ρ:RM)(A:NQ)(H0:AH):Option SV->Option Value->Prop
 |none,none=>True
 |some s,some v=>Rep ρ A H0 s v
 |_,_=>False
theorem uK(hF:RepF ρ A H0 fs l){o:Option Operand}{K:Option SV->Prop}(h:aNb o fs K):∃s v,OpO l o v/\K s/\OpR ρ A H0 s v:=by
 unfold aNb at h;split at h
 ·exact⟨none,none,.none,h,trivial⟩
 ·obtain⟨s,u,h1,h2,h3⟩:=aR hF h;exact⟨some s,some u,.some h1,h3,h2⟩
theorem zK(hT:dA E T)(hR:RiOk G ri PS L0 nx A H0){ta:TY}{s:SV}{u:Value}{lo hi:Option Operand}{sl sh:Option SV}{vl vh:Option Value}{K:SP}(h:aBd T ri ta s sl sh K)(hx:Rep ρ A H0 s u)
 (hl:OpR ρ A H0 sl vl)(hh:OpR ρ A H0 sh vh)
 (hw:gok G.ops l gd=true)(qd:Nat.ble (d+1) n=true)(jn:opv l x=some u)(ol:OpO l lo vl)(oh:OpO l hi vh)
 (hK:∀s v,K s->Rep ρ A H0 s v->SO E G (i+1) r Q (fr n t ((d,v)::l)) H0 A (flt PS++L0)):SO E G i (⟨some d,.slice ta x lo hi none,ty,ps,af,gd⟩::r) Q (fr n t l) H0 A (flt PS++L0):=by
 unfold aBd at h;split at h
 ·rename_i ti qs;obtain⟨w,xx,_,hs⟩:=(hT _ _ qs).und;split at h
  ·rename_i e qn;rw[qn] at hs;simp only[cM] at hs;subst hs;split at h
   ·rename_i te zw;obtain⟨z,qi,_⟩:=(hT _ _ zw).inf;cases e0:Nat.beq te.size 0 with
    |true=>simp_all
    |false=>
     rw[e0,QF] at h;have e0:te.size≠0:=fun e=>by rw[e] at e0;cases e0
     split at h
     ·rename_i b ks rr kk hv;have hq:qA G A=A/\qH G H0=H0:=by
       unfold wng at h;rw[hR.d] at h;unfold qA qH;cases eD:G.D with
       |false=>exact⟨rfl,rfl⟩
       |true=>
        rw[eD,QT] at h;cases eg:ri.G with
        |true=>simp_all
        |false=>
         obtain⟨a,b⟩:=hR.gr eD eg
         simp_all
      have h':cond (Nat.beq ks.length te.size) (rr.length<=140737488351232->Ob (0<=hv/\hv<=((rr.length:Nat):Int)) (∀l',((l'.length:Nat):Int)=hv->l'=rr.take hv.toNat->K (.row b ks l'))) False:=by
       grind [wng]
      cases ek:Nat.beq ks.length te.size with
      |false=>simp_all
      |true=>
       rw[ek,QT] at h';have ek:=QN ek;cases vl with
       |some _=>exact hl.elim
       |none=>
        cases vh with
        |none=>exact hh.elim
        |some vh=>
         simp only[OpR,Rep] at hh;obtain⟨rfl,_⟩:=hh;cases ol;cases oh with
         |some oh=>
          simp only[Rep] at hx;obtain⟨r2,a,cap,e,rfl,rx⟩:=hx.rowD;cases e;have q:=h' rx.len;refine bAt (by rw[hq.1,hq.2];exact rx) hw qd jn oh xx qi ek e0 q.h.1 q.h.2 ?_;intro a' rx';rw[hq.1,hq.2] at rx';exact hK _ _ (q.t _ (by rw[List.length_take];have:=q.h;omega) rfl) (by simp only[Rep];exact rx'.cell)
     ·rename_i b ks rr kk hv;have hq:qA G A=A/\qH G H0=H0:=by
       unfold wng at h;rw[hR.d] at h;unfold qA qH;cases eD:G.D with
       |false=>exact⟨rfl,rfl⟩
       |true=>
        rw[eD,QT] at h;cases eg:ri.G with
        |true=>simp_all
        |false=>
         obtain⟨a,b⟩:=hR.gr eD eg
         simp_all
      have h':cond (Nat.beq ks.length te.size) (rr.length<=140737488351232->Ob (0<=hv/\hv<=((rr.length:Nat):Int)) (∀l',((l'.length:Nat):Int)=((rr.length:Nat):Int) - hv->l'=rr.drop hv.toNat->K (.row b ks l'))) False:=by
       grind [wng]
      cases ek:Nat.beq ks.length te.size with
      |false=>simp_all
      |true=>
       rw[ek,QT] at h';have ek:=QN ek;cases vh with
       |some _=>exact hh.elim
       |none=>
        cases vl with
        |none=>exact hl.elim
        |some vl=>
         simp only[OpR,Rep] at hl;obtain⟨rfl,_⟩:=hl;cases oh;cases ol with
         |some ol=>
          simp only[Rep] at hx;obtain⟨r2,a,cap,e,rfl,rx⟩:=hx.rowD;cases e;have q:=h' rx.len;have km:hv=((hv.toNat:Nat):Int):=by have:=q.h;omega
          refine aVq (p:=hv.toNat) hw qd jn xx qi (by rw[ol,<-km]) (by rw[hq.1,hq.2];exact rx) ek (by have:=q.h;omega) ?_;intro a' rx';rw[hq.1,hq.2] at rx';exact hK _ _ (q.t _ (by rw[List.length_drop];have:=q.h;omega) rfl) (by simp only[Rep];exact rx'.cell)
     ·exact h.elim
   ·exact h.elim
  ·rename_i qn;rw[qn] at hs;simp only[cM] at hs;subst hs;have fin:∀{s:BA} {a b m:Nat},s.size<=maxLen->bD s.data.toList.length s.data.toList.length vl vh none=some (a,b,m)->a<=b->b<=s.data.toList.length->opv l x=some (.string s)->(∀w:BA,w.data.toList.length=b - a->w.data.toList=(s.data.toList.take b).drop a->K (.str w))->SO E G i (⟨some d,.slice ta x lo hi none,ty,ps,af,gd⟩::r) Q (fr n t l) H0 A (flt PS++L0):=by
    intro s a b m hm hb h1 h2 ho hk;refine bCg hw qd ho xx ol oh hb (hK _ _ (hk ⟨⟨(s.data.toList.take b).drop a⟩⟩ ?_ rfl) ?_)
    ·simp_all
    ·simp only[Rep];refine⟨trivial,?_⟩;show((s.data.toList.take b).drop a).length<=maxLen;have:s.data.toList.length<=maxLen:=hm
     grind
   split at h
   ·rename_i s kk hv;simp only[Rep] at hx;obtain⟨rfl,hm⟩:=hx;cases vl with
    |some _=>exact hl.elim
    |none=>
     cases vh with
     |none=>exact hh.elim
     |some vh=>
      simp only[OpR,Rep] at hh;obtain⟨rfl,_⟩:=hh;have q:=h hm;obtain⟨b,rfl⟩:∃b:Nat,hv=((b:Nat):Int):=⟨hv.toNat,by have:=q.h;omega⟩;refine fin hm (zG (by have:=q.h;omega)) (Nat.zero_le _) (by have:=q.h;omega) jn fun w xq zc=>q.t w (by omega) ⟨by simp_all⟩
   ·rename_i s kk hv;simp only[Rep] at hx;obtain⟨rfl,hm⟩:=hx;cases vh with
    |some _=>exact hh.elim
    |none=>
     cases vl with
     |none=>exact hl.elim
     |some vl=>
      simp only[OpR,Rep] at hl;obtain⟨rfl,_⟩:=hl;have q:=h hm;obtain⟨b,rfl⟩:∃b:Nat,hv=((b:Nat):Int):=⟨hv.toNat,by have:=q.h;omega⟩;have ha:bD s.data.toList.length s.data.toList.length (some (.int kk (b:Int))) none none=some (b,s.data.toList.length,s.data.toList.length):=by
       have e1:bO none s.data.toList.length s.data.toList.length=some s.data.toList.length:=rfl;have e2:bO none 0 s.data.toList.length=some 0:=rfl;have e4:bO (none:Option Value) s.data.toList.length s.data.toList.length=some s.data.toList.length:=rfl;have e3:bO (some (Value.int kk (b:Int))) 0 s.data.toList.length=some b:=by have:=q.h;simp only[bO];simp_all
       grind [bD]
      refine fin hm ha (by have:=q.h;omega) (Nat.le_refl _) jn fun w xq zc=>q.t w (by have:=q.h;omega) ⟨by grind⟩
   ·rename_i s k1 v1 k2 v2;simp only[Rep] at hx;obtain⟨rfl,hm⟩:=hx;cases vh with
    |none=>exact hh.elim
    |some vh=>
     cases vl with
     |none=>exact hl.elim
     |some vl=>
      simp only[OpR,Rep] at hl hh;obtain⟨rfl,_⟩:=hl;obtain⟨rfl,_⟩:=hh;have q:=h hm;obtain⟨a,rfl⟩:∃b:Nat,v1=((b:Nat):Int):=⟨v1.toNat,by have:=q.h;omega⟩;obtain⟨b,rfl⟩:∃b:Nat,v2=((b:Nat):Int):=⟨v2.toNat,by have:=q.h;omega⟩;refine fin hm (aHf (by have:=q.h;omega) (by have:=q.h;omega)) (by have:=q.h;omega) (by have:=q.h;omega) jn fun w xq zc=>q.t w (by have:=q.h;omega) ⟨by rw[zc];rfl⟩
   ·exact h.elim
  ·exact h.elim
 ·exact h.elim
end
end Go.AM
namespace Go.AM
open Go.RowKit
variable [σ:Sg]
variable [γ:Gam]
theorem wT{kk:IntKind}{z:Int}:∀{es:List (Value×Value×Nat)} {i:Nat},(∀e∈es,∃y,e.1=.int kk y)->(∀e∈es,e.1≠.int kk z)->iQ (.int kk) (.int kk z) es i=some none
 |[],i,_,_=>rfl
 |(k,v,b)::r,i,h1,h2=>by
  obtain⟨y,hy⟩:=h1 _ (List.mem_cons_self ..);simp only at hy;subst hy;have qr:y≠z:=fun e=>h2 _ (List.mem_cons_self ..) (by simp only[e]);have ek:dJ (.int kk) (.int kk y)=true:=by simp[dJ]
  have es:kA (.int kk z) (.int kk y)=false:=by grind [kA]
  simp only[iQ,ek,es,QT,QF];exact wT (fun e he=>h1 e (List.mem_cons_of_mem _ he)) (fun e he=>h2 e (List.mem_cons_of_mem _ he))
theorem sI{kk:IntKind}{z:Int}{v:Value}{b:Nat}:∀{es:List (Value×Value×Nat)} {j i:Nat},(∀e∈es,∃y,e.1=.int kk y)->es[j]?=some (.int kk z,v,b)->(∀j' e,j'<j->es[j']?=some e->e.1≠.int kk z)->iQ (.int kk) (.int kk z) es i=some (some (i+j,v))
 |[],j,i,_,h,_=>by simp at h
 |(k,w,c)::r,0,i,h1,h2,h3=>by
  simp only[List.getElem?_cons_zero,Option.some.injEq,Prod.mk.injEq] at h2;obtain⟨rfl,rfl,rfl⟩:=h2;have ek:dJ (.int kk) (.int kk z)=true:=by simp[dJ]
  have es:kA (.int kk z) (.int kk z)=true:=by simp[kA]
  simp only[iQ,ek,es,QT,Nat.add_zero]
 |(k,w,c)::r,j+1,i,h1,h2,h3=>by
  obtain⟨y,hy⟩:=h1 _ (List.mem_cons_self ..);simp only at hy;subst hy;have qr:y≠z:=fun e=>h3 0 _ (Nat.succ_pos _) rfl (by simp only[e]);have ek:dJ (.int kk) (.int kk y)=true:=by simp[dJ]
  have es:kA (.int kk z) (.int kk y)=false:=by grind [kA]
  simp only[List.getElem?_cons_succ] at h2;simp only[iQ,ek,es,QT,QF];rw[sI (i:=i+1) (fun e he=>h1 e (List.mem_cons_of_mem _ he)) h2 (fun j' e hj he=>h3 (j'+1) e (by omega) (by simpa using he))];congr 3;omega
section
variable {A:NQ}{H:AH}{kk:IntKind}{vk:KL}{ag:Bool}{m:Int->Option CL}{es:List (Value×Value×Nat)}
theorem MpOk.emp:MpOk A H kk vk ag (fun _=>none) []:=⟨fun e h=>(by cases h),fun z=>fun e h=>(by cases h)⟩
omit [γ:Gam] in
def zE(A:NQ)(H:AH)(vk:KL)(ag:Bool)(v:Value)(c:CL):Prop:=match ag with
 |true=>∃vs,v=.agg ⟨vs⟩/\CellsA A H vk vs c
 |false=>CellsA A H vk [v] c
theorem MpOk.put{z:Int}{v:Value}{c:CL}{cl:Nat}(h:MpOk A H kk vk ag m es)(hv:zE A H vk ag v c):
 ∃es' cl',((∃j b,iQ (.int kk) (.int kk z) es 0=some (some (j,b))/\es'=es.modify j (fun e=>(.int kk z,v,e.2.2))/\cl'=cl)\/(iQ (.int kk) (.int kk z) es 0=some none/\es'=es++[(.int kk z,v,cl)]/\cl'=cl+1))/\MpOk A H kk vk ag (xI m z c) es':=by
 cases em:m z with
 |some d=>
  have q:=h.2 z;rw[em] at q;obtain⟨i,w,b,q1,q2,_⟩:=q;refine⟨_,cl,.inl ⟨i,w,by rw[sI h.1 q1 q2,Nat.zero_add],rfl,rfl⟩,?_,fun y=>?_⟩
  ·intro e he;obtain⟨j,hj⟩:=List.mem_iff_getElem?.1 he;rw[List.getElem?_modify] at hj;cases e2:es[j]? with
   |none=>simp_all
   |some e'=>
    rw[e2] at hj;simp only[Option.map_eq_map,Option.map_some,Option.some.injEq] at hj;by_cases yq:i=j
    ·grind
    ·rw[if_neg yq] at hj;subst hj;exact h.1 _ (List.mem_of_getElem? e2)
  ·unfold xI;by_cases hy:y=z
   ·subst hy;rw[if_pos rfl];refine⟨i,v,b,by simp_all,fun j e hj he=>?_,?_⟩
    ·grind
    ·cases ag<;>exact hv
   ·rw[if_neg hy];have qy:=h.2 y;cases ey:m y with
    |none=>
     rw[ey] at qy;intro e he;obtain⟨j,hj⟩:=List.mem_iff_getElem?.1 he
     grind
    |some d'=>
     rw[ey] at qy;obtain⟨i',w',b',p1,p2,p3⟩:=qy;have qr:i≠i':=fun e=>by simp_all
     refine⟨i',w',b',by simp_all,fun j e hj he=>?_,p3⟩
     grind
 |none=>
  have q:=h.2 z;rw[em] at q;refine⟨_,_,.inr ⟨wT h.1 q,rfl,rfl⟩,?_,fun y=>?_⟩
  ·intro e he;rcases List.mem_append.1 he with he|he
   ·exact h.1 e he
   simp_all
  ·unfold xI;by_cases hy:y=z
   ·subst hy;rw[if_pos rfl];refine⟨es.length,v,cl,by simp,fun j e hj he=>?_,?_⟩
    ·grind
    ·cases ag<;>exact hv
   ·rw[if_neg hy];have qy:=h.2 y;cases ey:m y with
    |none=>
     grind
    |some d'=>
     rw[ey] at qy;obtain⟨i',w',b',p1,p2,p3⟩:=qy;have qm:i'<es.length:=lt_of_getElem? p1;refine⟨i',w',b',by grind,fun j e hj he=>?_,p3⟩
     grind
end
section
variable {P:PG}{E:Env P}{T:TTb}{G:RG}{ri:RI}{i n d nx:Nat}{r:OL2}{Q:FQ}{t:Tr Value}{l:LV}{H0:AH}{A:NQ}{ρ:RM}{fs:FR}{hp:HP}{PS:PSs}{L0:OL}
 {ty:TY}{ps:String}{af:Array Edge}{gd:OB}{x y z:Operand}
theorem RiOk.ldG{K:Prop}{id:Nat}{X Y:PSs}{La:OL}{M:Nat}{ob:AObj}{Pl:AH->Prop}(h:RiOk G ri PS L0 nx A H0)(k:wld ri i id K)(qq:PS=X++(id,La)::Y)(hm:(M,ob)∈La)(hl:∀{S H0:AH} {A0 A:NQ} {L:OL},(M,ob)∈L->∀H,HS S H0 A0 A L H->Pl H):
 K/\((∀H,HS G.S (qH G H0) G.A0 (qA G A) (qL G (flt PS++L0)) H->Pl H)\/(fF (bef G.ops) G.ms i=true/\∀H,HS G.S H0 G.A0 A (flt PS++L0) H->Pl H)):=by
 have yg:(M,ob)∈flt PS++L0:=by
  grind [bN,flt,List.mem_append_left,List.mem_append_right]
 unfold wld at k;rw[h.d,h.ops,h.ms] at k;cases hD:G.D with
 |false=>
  rw[hD,QF] at k;refine⟨k,.inl ?_⟩;unfold qH qA qL
  grind
 |true=>
  rw[hD,QT] at k;cases hg:aJ id ri.st with
  |true=>
   rw[hg,QT] at k;refine⟨k,.inl ?_⟩;unfold qH qA qL;rw[hD,QT,QT,QT,<-h.lw hD];refine hl ?_;rw[qq,gO];simp only[fA,hg,QT]
   simp_all
  |false=>
   rw[hg,QF] at k;exact⟨k.t,.inr ⟨k.h,hl yg⟩⟩
theorem xE(hT:dA E T){ta:TY}{K:IntKind->TyI->Prop}(h:aFr T ta K):∃kt et k te z,E.und ta=some (.map kt et)/\E.und kt=some (.int k)/\E.inf et=some ⟨te.size,te.bytes,some z⟩/\(∀ρ A H,Reps ρ A H te.zs (ext z).cells.toList)/\zAg te.agg z=true/\K k te:=by
 unfold aFr at h;split at h
 ·rename_i ti qs;obtain⟨u,hu,_,hs⟩:=(hT _ _ qs).und;split at h
  ·rename_i kt et qn;rw[qn] at hs;simp only[cM] at hs;subst hs;split at h
   ·rename_i tk te htk zw;obtain⟨u2,gz,_,yw⟩:=(hT _ _ htk).und;obtain⟨z,ww,pg⟩:=(hT _ _ zw).inf;split at h
    ·rename_i k hk;rw[hk] at yw;simp only[cM] at yw;subst yw;exact⟨kt,et,k,te,z,hu,gz,ww,pg,(hT _ _ zw).zag _ _ ww rfl,h⟩
    ·exact h.elim
   ·exact h.elim
  ·exact h.elim
 ·exact h.elim
theorem bAp{vk:KL}{ag:Bool}{c:CL}{v:Value}{K:SP}(h:bFx vk ag c K)(hv:zE A H0 vk ag v c):∃s,K s/\Rep ρ A H0 s v:=by
 unfold bFx at h;split at h
 ·obtain⟨vs,rfl,hc⟩:=hv;exact⟨_,mL h,by simp only[Rep];exact⟨vs,rfl,CellsA.reps hc rfl⟩⟩
 ·rename_i k;have h:=rP h;have hv:CellsA A H0 [k] [v] c:=hv
  match c,hv with
  |[d],hv=>
   simp only[CellsA] at hv;exact⟨_,h,CellA.rep hv.1 rfl⟩
 ·exact h.elim
theorem aYy{zs:SL}{ag:Bool}{z:Value}{K:SP}(h:bEq zs ag K)(hz:Reps ρ A H0 zs (ext z).cells.toList)(ha:zAg ag z=true):∃s,K s/\Rep ρ A H0 s (ext z):=by
 unfold bEq at h;split at h
 ·cases z with
  |agg cs=>
   cases cs with
   |mk l=>
    refine⟨_,cJ h,?_⟩;simp only[ext,Value.cells] at hz;simp only[ext,Rep];exact⟨_,rfl,hz⟩
  |_=>cases ha
 ·rename_i s;refine⟨s,jS h,?_⟩;cases z with
  |agg cs=>cases ha
  |tuple cs=>cases ha
  |pointer a=>cases a<;>(simp only[ext,Value.cells,Reps] at hz ⊢;exact hz.1)
  |slice a _ _=>cases a<;>(simp only[ext,Value.cells,Reps] at hz ⊢;exact hz.1)
  |map a=>cases a<;>(simp only[ext,Value.cells,Reps] at hz ⊢;exact hz.1)
  |chan a=>cases a<;>(simp only[ext,Value.cells,Reps] at hz ⊢;exact hz.1)
  |func a b c=>
   cases b with|mk b=>cases c with|mk c=>(simp only[ext,Value.cells,Reps] at hz ⊢;exact hz.1)
  |_=>simp only[ext,Value.cells,Reps] at hz ⊢;exact hz.1
 ·exact h.elim
theorem aId(hT:dA E T)(hD:Den E ρ nx fs hp PS A H0 l)(hR:RiOk G ri PS L0 nx A H0){ta:TY}{s s':SV}{u u':Value}{ok:Bool}{K:SP}(h:aBn T ri i ta s s' ok hp K)(hx:Rep ρ A H0 s u)(hy:Rep ρ A H0 s' u'):
 ∃s2 v,K s2/\Rep ρ A H0 s2 v/\((∀H,HS G.S (qH G H0) G.A0 (qA G A) (qL G (flt PS++L0)) H->eH E ta u u' ok H=some v)\/(fF (bef G.ops) G.ms i=true/\∀H,HS G.S H0 G.A0 A (flt PS++L0) H->eH E ta u u' ok H=some v)):=by
 unfold aBn at h;split at h
 ·rename_i id k z;split at h
  ·rename_i kk vk ag m hg;obtain⟨kt,et,k',te,zv,u1,u2,u3,u4,u5,hq⟩:=xE hT h;clear h;cases e1:kEq k kk with
   |false=>simp_all
   |true=>
    cases e2:kEq k k' with
    |false=>simp_all
    |true=>
     cases e3:kdsEq vk te.ks with
     |false=>simp_all
     |true=>
      cases e4:(bif ag then te.agg else not te.agg) with
      |false=>simp_all
      |true=>
       rw[e1,e2,e3,e4] at hq;simp only[QT] at hq;have e1:=fR e1;have e2:=fR e2;subst e1;subst e2;have eag:te.agg=ag:=by grind
       obtain⟨La,X,Y,qq,⟨N,es,cl,r1,r2,r3⟩,_⟩:=hD.hp.get hg;subst r2;simp only[Rep] at hx hy;rw[hx] at r1;cases r1;obtain⟨rfl,_⟩:=hy;have q:=r3.2 z;cases em:m z with
       |some c=>
        rw[em] at q;obtain⟨j,v,b,q1,q2,q3⟩:=q
        obtain⟨hh,hl⟩:=hR.ldG (Pl:=fun H=>eH E ta (.map (some (2*N+1))) (.int k z) ok H=some (match ok with
         |true=>.tuple ⟨[v,.bool true]⟩
         |false=>v)) hq qq (List.mem_cons_self ..) (fun {S H0 A0 A L} hm H hH=>by
          have za:=(hH.own _ hm).1;simp only at za;simp only[eH,u1,u2,u3,dJ,decide_true,QT,show Nat.beq ((2*N+1)%2) 0=false from dR N,QF,show(2*N+1) / 2=N by omega,za,sI r3.1 q1 q2];cases ok<;>rfl)
        obtain⟨s,k1,k2⟩:=bAp (ρ:=ρ) (hh.1 c em) (v:=v) (by unfold zE;exact q3);refine⟨_,_,k1,?_,hl⟩;cases ok with
        |true=>simp only[Rep];refine⟨_,rfl,?_⟩;simp only[Reps];exact⟨k2,by simp only[Rep],trivial⟩
        |false=>exact k2
       |none=>
        rw[em] at q
        obtain⟨hh,hl⟩:=hR.ldG (Pl:=fun H=>eH E ta (.map (some (2*N+1))) (.int k z) ok H=some (match ok with
         |true=>.tuple ⟨[ext zv,.bool false]⟩
         |false=>ext zv)) hq qq (List.mem_cons_self ..) (fun {S H0 A0 A L} hm H hH=>by
          have za:=(hH.own _ hm).1;simp only at za;simp only[eH,u1,u2,u3,dJ,decide_true,QT,show Nat.beq ((2*N+1)%2) 0=false from dR N,QF,show(2*N+1) / 2=N by omega,za,wT r3.1 q];cases ok<;>rfl)
        obtain⟨s,k1,k2⟩:=aYy (ρ:=ρ) (hh.2 em) (u4 ρ A H0) (by rw[<-eag];exact u5);refine⟨_,_,k1,?_,hl⟩;cases ok with
        |true=>simp only[Rep];refine⟨_,rfl,?_⟩;simp only[Reps];exact⟨k2,by simp only[Rep],trivial⟩
        |false=>exact k2
  ·exact h.elim
 ·exact h.elim
theorem aXm{ta:TY}{ok:Bool}{L:OL}{m k v:Value}(hw:gok G.ops l gd=true)(qd:Nat.ble (d+1) n=true)(hx:opv l x=some m)(hy:opv l y=some k)(hl:(∀H,HS G.S (qH G H0) G.A0 (qA G A) (qL G L) H->eH E ta m k ok H=some v)\/(fF (bef G.ops) G.ms i=true/\∀H,HS G.S H0 G.A0 A L H->eH E ta m k ok H=some v))
 (h:SO E G (i+1) r Q (fr n t ((d,v)::l)) H0 A L):SO E G i (⟨some d,.lookup ta x y ok,ty,ps,af,gd⟩::r) Q (fr n t l) H0 A L:=by
 rcases hl with hl|⟨ho,hl⟩
 ·grind [aNi]
 ·exact vE rfl hw rfl qd ho (fun H hH=>by grind [aop,aG,qC,aFz,aL]) h
theorem aQo{ta:TY}{L:OL}(hw:gok G.ops l gd=true)(qd:Nat.ble (d+1) n=true)(hm:G.D=true->i∈G.ms)(h:∀N,SO E G (i+1) r Q (fr n t ((d,.map (some (2*N+1)))::l)) H0 A ((N,.map [] 0)::L)):SO E G i (⟨some d,.makeMap ta none,ty,ps,af,gd⟩::r) Q (fr n t l) H0 A L:=
 dM hw rfl qd hm fun hD H hH=>⟨_,_,H0,A,(H.nx,.map [] 0)::L,.inl (by simp only[aop,qY]),hH.push _,hD.push _,h H.nx⟩
theorem aTh(hT:dA E T)(hD:Den E ρ nx fs hp PS A H0 l)(hR:RiOk G ri PS L0 nx A H0){ta:TY}{sm sk sv:SV}{um uk uv:Value}{K:HP->Prop}(h:aQu T ri ta sm sk sv hp K)(hx:Rep ρ A H0 sm um)(hy:Rep ρ A H0 sk uk)(hz:Rep ρ A H0 sv uv)
 (hw:gok G.ops l gd=true)(hm:G.D=true->i∈G.ms)(ex:opv l x=some um)(ey:opv l y=some uk)(ez:opv l z=some uv)
 (hK:∀qc PS',K qc->Den E ρ nx fs qc PS' A H0 l->RiOk G ri PS' L0 nx A H0->SO E G (i+1) r Q (fr n t l) H0 A (flt PS'++L0)):SO E G i (⟨none,.mapUpdate ta x y z,ty,ps,af,gd⟩::r) Q (fr n t l) H0 A (flt PS++L0):=by
 unfold aQu at h;split at h
 ·rename_i id k zz;split at h
  ·rename_i kk vk ag m hg;obtain⟨kt,et,k',te,zv,u1,u2,u3,u4,u5,hq⟩:=xE hT h;clear h;cases e1:kEq k kk with
   |false=>simp_all
   |true=>
    cases e2:kEq k k' with
    |false=>simp_all
    |true=>
     cases e3:kdsEq vk te.ks with
     |false=>simp_all
     |true=>
      rw[e1,e2,e3] at hq;simp only[QT] at hq;have e1:=fR e1;have e2:=fR e2;subst e1;subst e2;obtain⟨vp,h⟩:=hR.ns hq;obtain⟨La,X,Y,qq,⟨N,es,cl,r1,r2,r3⟩,_,xd,_⟩:=hD.hp.get hg;subst r2;simp only[Rep] at hx hy;rw[hx] at r1;cases r1;obtain⟨rfl,_⟩:=hy;have fin:∀{c:CL},zE A H0 vk ag uv c->(∀m',m'=xI m zz c->jW id (.oth (.mp k vk ag m')) hp K)->SO E G i (⟨none,.mapUpdate ta x y z,ty,ps,af,gd⟩::r) Q (fr n t l) H0 A (flt PS++L0):=by
       intro c hv hh;obtain⟨es',cl',f1,f2⟩:=MpOk.put (z:=zz) (cl:=cl) r3 hv;obtain⟨qc,k1,k2⟩:=xd _ _ (hh _ rfl);have tj:Den E ρ nx fs qc (X++(id,[(N,.map es' cl')])::Y) A H0 l:=⟨hD.no,hD.one,hD.fr,k2 (RMle.refl _) (Gr.refl _ _) ⟨N,es',cl',hx,rfl,f2⟩⟩;subst qq;have mi:=hR.put (L':=[(N,.map es' cl')]) vp;refine aPp (L':=flt (X++(id,[(N,.map es' cl')])::Y)++L0) hw hm ex ey ez u1 u2 (by simp[dJ]) ?_ f1 (fun qw=>mi.sub qw) (hK _ _ k1 tj mi)
       grind [dF,Upd.split]
      split at h
      ·rename_i cl0 l1 yd;simp only[Rep] at hz;obtain⟨vs,rfl,hr⟩:=hz;simp only[cX,Option.some.injEq] at yd;subst yd;obtain⟨ss,k1,_,_,k4⟩:=lC h hr;exact fin (c:=ss.map cSV) (by unfold zE;exact⟨vs,rfl,k4⟩) k1
      ·exact h.elim
      ·rename_i cl0 qr yd;obtain⟨ro,oo⟩:=Rep.one hD.one hz yd;obtain⟨ss,k1,_,_,k4⟩:=lC h ro;have ho:uv.oneCell'=true:=by
        grind
       refine fin (c:=ss.map cSV) ?_ k1
       grind [nD,zE]
      ·exact h.elim
  ·exact h.elim
 ·exact h.elim
end
end Go.AM
namespace Go.AM
open Go.RowKit
variable [σ:Sg]
variable {P:PG}{E:Env P}
def aU(E:Env P)(tb:TBs)(g:FuncId)(c:CtrI):Prop:=∀(S H0:AH) (A0 A:NQ) (L0:OL) (ρ:RM) (PS:PSs) (ss:SL) (vs:VL) (hl:HP) (nl:Nat),aVb S.w0 tb->
 (∀K:SL->HP->Nat->Prop,aLo c.ps [] 0 K->K ss hl nl)->(∀i,nl<=i->ρ i=none)->(∀i v,ρ i=some v->v.oneCell'=true)->Reps ρ A H0 ss vs->RepH E ρ A H0 hl PS->c.pre ss hl->
 ∀H,HS S H0 A0 A (flt PS++L0) H->XCall P g vs H fun u H'=>∃H1 A1 ρ' PS' ho rs us,Gr A H0 A1 H1/\HS S H1 A0 A1 (flt PS'++L0) H'/\
  (∀K:SL->HP->Prop,(wZ (lT c.ps 0) (plc c.rs nl (iI (cA c.ps 0).2 hl)) fun ho=>aOr c.rs nl fun rs=>K rs ho)->K rs ho)/\(∀i,aJ i (cA c.ps 0).1=true->∀v,ρ i=some v->ρ' i=some v)/\(∀i,nxR c.rs nl<=i->ρ' i=none)/\(∀i v,ρ' i=some v->v.oneCell'=true)/\
  Reps ρ' A1 H1 rs us/\RepH E ρ' A1 H1 ho PS'/\u=bG us/\c.post ss hl rs ho
def bW(E:Env P)(tb:TBs)(g:FuncId)(W:IW):Prop:=∀(fe:NL) (S H0:AH) (A0 A:NQ) (L0:OL) (ρ:RM) (PS:PSs) (ss:SL) (vs:VL) (hp:HP) (nx:Nat) (K:NL->SV->HP->Nat->Prop),aVb S.w0 tb->
 (∀i,nx<=i->ρ i=none)->(∀i v,ρ i=some v->v.oneCell'=true)->Reps ρ A H0 ss vs->RepH E ρ A H0 hp PS->W fe ss hp nx K->
 ∀H,HS S H0 A0 A (flt PS++L0) H->XCall P g vs H fun u H'=>∃H1 A1 ρ' PS' fx s qc nx',Gr A H0 A1 H1/\HS S H1 A0 A1 (flt PS'++L0) H'/\K fx s qc nx'/\FxR fx ρ ρ'/\(∀i,nx'<=i->ρ' i=none)/\(∀i v,ρ' i=some v->v.oneCell'=true)/\RepH E ρ' A1 H1 qc PS'/\Rep ρ' A1 H1 s u
def bBz [γ:Gam](E:Env P)(tb:TBs)(W:Nat->IW):Prop:=∀(fe:NL) (S H0:AH) (A0 A:NQ) (L0:OL) (ρ:RM) (PS:PSs) (ss:SL) (vs:VL) (hp:HP) (nx N:Nat) (K:NL->SV->HP->Nat->Prop),TbG S.w0 tb->
 (∀i,nx<=i->ρ i=none)->(∀i v,ρ i=some v->v.oneCell'=true)->Reps ρ A H0 ss vs->RepH E ρ A H0 hp PS->W N fe ss hp nx K->
 ∀H,HS S H0 A0 A (flt PS++L0) H->∃u H',(∃H1 A1 ρ' PS' fx s qc nx',Gr A H0 A1 H1/\HS S H1 A0 A1 (flt PS'++L0) H'/\K fx s qc nx'/\FxR fx ρ ρ'/\(∀i,nx'<=i->ρ' i=none)/\(∀i v,ρ' i=some v->v.oneCell'=true)/\RepH E ρ' A1 H1 qc PS'/\Rep ρ' A1 H1 s u)/\
  H'.w0=H.w0/\∀(o:Oper) (c:Call) (z:Operand) (f:Fr),o.op=.call c->c.callee=.value z->aK f z=.func (.yield (2*N+1)) ⟨[]⟩ ⟨[]⟩->c.args.toList.map (aK f)=vs->AYield P o f H u H'
section
variable {ρ ρ':RM}{A A':NQ}{H H':AH}{fx:NL}
theorem rX:∀{a b:NL},wO a b=true->∀i,aJ i a=true->aJ i b=true
 |[],b,_,i,h=>by cases h
 |j::r,b,h,i,hi=>by
  simp only[wO] at h;cases e:aJ j b with
  |false=>rw[e] at h;cases h
  |true=>
   rw[e,QT] at h;simp only[aJ] at hi;cases e2:Nat.beq j i with
   |true=>simp_all
   |false=>rw[e2,QF] at hi;exact rX h i hi
mutual
theorem aRr(hx:FxR fx ρ ρ'):∀{s:SV} {v:Value},okS fx s=true->Rep ρ A H s v->Rep ρ' A H s v
 |.ow i,v,hb,h=>by simp only[Rep,okS] at h hb ⊢;exact hx i hb _ h
 |.ptr i o,v,hb,h=>by simp only[Rep,okS] at h hb ⊢;obtain⟨N,h1,h2⟩:=h;exact⟨N,hx i hb _ h1,h2⟩
 |.op i j o m,v,hb,h=>by simp only[Rep,okS] at h hb ⊢;obtain⟨M,n,c,h1,h2⟩:=h;exact⟨M,n,c,hx i hb _ h1,h2⟩
 |.agg l,v,hb,h=>by simp only[Rep,okS] at h hb ⊢;obtain⟨vs,h1,h2⟩:=h;exact⟨vs,h1,okL_ok hx hb h2⟩
 |.tup l,v,hb,h=>by simp only[Rep,okS] at h hb ⊢;obtain⟨vs,h1,h2⟩:=h;exact⟨vs,h1,okL_ok hx hb h2⟩
 |.fn g l,v,hb,h=>by simp only[Rep,okS] at h hb ⊢;obtain⟨vs,h1,h2⟩:=h;exact⟨vs,h1,okL_ok hx hb h2⟩
 |.undef,v,_,h=>by grind [Rep]
 |.int _ _,v,_,h=>by grind [Rep]
 |.bool _,v,_,h=>by grind [Rep]
 |.str _,v,_,h=>by grind [Rep]
 |.nil,v,_,h=>by grind [Rep]
 |.pnil,v,_,h=>by grind [Rep]
 |.row _ _ _,v,_,h=>by grind [Rep]
 |.el _ _ _,v,_,h=>by grind [Rep]
 |.gp _ _,v,_,h=>by grind [Rep]
 |.rng _ _,v,_,h=>by grind [Rep]
 |.any,v,_,h=>by simp only[Rep]
 |.yl _,v,_,h=>by grind [Rep]
 |.ep _ _ _ _ _,v,_,h=>by grind [Rep]
 |.xp i o m,v,hb,h=>by simp only[Rep,okS] at h hb ⊢;obtain⟨N,k,h1,h2⟩:=h;exact⟨N,k,hx i hb _ h1,h2⟩
theorem okL_ok(hx:FxR fx ρ ρ'):∀{s:SL} {v:VL},okL fx s=true->Reps ρ A H s v->Reps ρ' A H s v
 |[],[],_,h=>by simp only[Reps]
 |s::t,v::vs,hb,h=>by
  simp only[Reps,okL] at h hb ⊢;cases e:okS fx s with
  |false=>rw[e] at hb;cases hb
  |true=>rw[e,QT] at hb;exact⟨aRr hx e h.1,okL_ok hx hb h.2⟩
 |[],_::_,_,h=>by simp only[Reps] at h
 |_::_,[],_,h=>by simp only[Reps] at h
end
theorem bEy(hx:FxR fx ρ ρ'){i:Nat}(hi:aJ i fx=true){o:SJx}{L:OL}(hb:okX fx o=true)(h:RepS ρ A H i o L):RepS ρ' A H i o L:=by
 cases o with
 |wk b ks l=>obtain⟨x,h1,h2⟩:=h;exact⟨x,hx _ hi _ h1,h2⟩
 |ho b ks l j id=>obtain⟨x,y,h1,h2,h3⟩:=h;exact⟨x,y,hx _ hi _ h1,hx _ hb _ h2,h3⟩
 |mp kk vk ag m=>obtain⟨N,es,cl,h1,h2,h3⟩:=h;exact⟨N,es,cl,hx _ hi _ h1,h2,h3⟩
 |vals us cs=>obtain⟨x,h1,h2,h3⟩:=h;exact⟨x,hx _ hi _ h1,h2,okL_ok hx hb h3⟩
 |bl t u=>obtain⟨N,M,h1,h2⟩:=h;exact⟨N,M,hx _ hi _ h1,h2⟩
 |vr cs=>obtain⟨M,vs,ex,h1,h2,h3⟩:=h;exact⟨M,vs,ex,hx _ hi _ h1,h2,okL_ok hx hb h3⟩
theorem bEn(hx:FxR fx ρ ρ'){i:Nat}(hi:aJ i fx=true){o:SJ}{L:OL}(hb:okO fx o=true)(h:RepO E ρ A H i o L):RepO E ρ' A H i o L:=by
 cases o with
 |box t cs=>obtain⟨N,vs,h1,h2,h3⟩:=h;exact⟨N,vs,hx _ hi _ h1,h2,okL_ok hx hb h3⟩
 |row b ks l=>obtain⟨x,h1,h2⟩:=h;exact⟨x,hx _ hi _ h1,h2⟩
 |oth o=>exact bEy hx hi hb h
theorem aQk(hx:FxR fx ρ ρ'):∀{hp:HP} {PS:PSs},okH fx hp=true->RepH E ρ A H hp PS->RepH E ρ' A H hp PS
 |[],PS,_,h=>h
 |(i,o)::r,PS,hb,⟨L,PS',h1,h2,h3⟩=>by
  simp only[okH] at hb;cases e1:aJ i fx with
  |false=>rw[e1] at hb;cases hb
  |true=>
   rw[e1,QT] at hb;cases e2:okO fx o with
   |false=>rw[e2] at hb;cases hb
   |true=>
    rw[e2,QT] at hb;exact⟨L,PS',h1,bEn hx e1 e2 h2,aQk hx hb h3⟩
def kpP(st:NL)(b:Bool):PSs->PSs
 |[]=>[]
 |(j,L)::r=>cond (cond b (aJ j st) (!aJ j st)) ((j,L)::kpP st b r) (kpP st b r)
theorem aBy{st:NL}{b:Bool}:∀{hp:HP} {PS:PSs} {K:HP->Prop},kpH st b hp K->RepH E ρ A H hp PS->∃qc,K qc/\RepH E ρ A H qc (kpP st b PS)
 |[],PS,K,h,hr=>by have hr:PS=[]:=hr;subst hr;exact⟨[],h,rfl⟩
 |(j,o)::r,PS,K,h,⟨L,PS',h1,h2,h3⟩=>by
  subst h1;rw[aRx] at h;simp only[kpP];cases e:(cond b (aJ j st) (!aJ j st)) with
  |true=>
   rw[e,QT] at h;obtain⟨qc,k1,k2⟩:=aBy h h3;exact⟨_,k1,L,_,rfl,h2,k2⟩
  |false=>
   rw[e,QF] at h;exact aBy h h3
theorem xA{st:NL}:∀PS:PSs,(flt (kpP st false PS)++flt (kpP st true PS)).Perm (flt PS)
 |[]=>List.Perm.refl _
 |(j,L)::r=>by
  simp only[kpP];cases e:aJ j st with
  |true=>
   simp only[Bool.not_true,QT,QF,flt];refine(show(flt (kpP st false r)++(L++flt (kpP st true r))).Perm (L++(flt (kpP st false r)++flt (kpP st true r))) from ?_).trans (List.Perm.append_left L (xA r))
   grind [QA,List.Perm.append_right,List.perm_append_comm]
  |false=>
   simp only[Bool.not_false,QT,QF,flt,QA];exact List.Perm.append_left L (xA r)
theorem yD{st:NL}:∀PS:PSs,flt (kpP st true PS)=fA st PS
 |[]=>rfl
 |(j,L)::r=>by
  simp only[kpP,fA];cases e:aJ j st with
  |true=>simp only[QT,flt,yD r]
  |false=>simp only[QF,QT,yD r]
theorem aBh{st:NL}:∀PS:PSs,fA st (kpP st true PS)=fA st PS
 |[]=>rfl
 |(j,L)::r=>by
  simp only[kpP,fA];cases e:aJ j st with
  |true=>simp only[QT,fA,e,aBh r]
  |false=>simp only[QF,QT,aBh r]
theorem aXt:∀{hp hq:HP} {PS QS:PSs} {K:HP->Prop},apH hp hq K->RepH E ρ A H hp PS->RepH E ρ A H hq QS->∃qc,K qc/\RepH E ρ A H qc (PS++QS)
 |[],hq,PS,QS,K,h,hr,hs=>by have hr:PS=[]:=hr;subst hr;exact⟨hq,h,hs⟩
 |(j,o)::r,hq,PS,QS,K,h,⟨L,PS',h1,h2,h3⟩,hs=>by
  subst h1;rw[aVr] at h;obtain⟨qc,k1,k2⟩:=aXt h h3 hs;exact⟨_,k1,L,_,rfl,h2,k2⟩
theorem aAp{st:NL}:∀{hp:HP} {PS:PSs},aOm (lQ hp) st=true->RepH E ρ A H hp PS->fA st PS=[]
 |[],PS,_,h=>by have h:PS=[]:=h;subst h;rfl
 |(j,o)::r,PS,hd,⟨L,PS',h1,h2,h3⟩=>by
  subst h1;simp only[lQ,aOm] at hd;cases e:aJ j st with
  |true=>rw[e] at hd;cases hd
  |false=>
   rw[e,QF] at hd;simp only[fA,e,QF];exact aAp hd h3
theorem xL(hx:FxR fx ρ ρ'):∀{f:FR} {l:LV} {K:FR->Prop},kpF fx f K->RepF ρ A H f l->∃f',K f'/\RepF ρ' A H f' l
 |[],l,K,h,hr=>⟨[],h,hr⟩
 |(j,s)::r,l,K,h,⟨v,l',h1,h2,h3⟩=>by
  subst h1;rw[aUa] at h;cases e:okS fx s with
  |true=>
   rw[e,QT] at h;obtain⟨f',k1,k2⟩:=xL hx h h3;exact⟨_,k1,_,_,rfl,aRr hx e h2,k2⟩
  |false=>
   rw[e,QF] at h;obtain⟨f',k1,k2⟩:=xL hx h h3;exact⟨_,k1,_,_,rfl,by simp only[Rep],k2⟩
end
theorem aLb{La Y Z:OL}:(La++(Y++Z)).Perm (Y++(La++Z)):=by
 grind [QA,List.Perm.append_right,List.perm_append_comm]
structure MI (E:Env P) (ρc:RM) (A:NQ) (H0:AH) (ri:RI) (Dm:Prop) (PS0:PSs) (X:OL) (ρk:RM) (hp:HP) (nx:Nat) (th:TH) (hc:HP) (PSk PSc:PSs):Prop where
 no:∀i,nx<=i->ρk i=none
 one:∀i v,ρk i=some v->v.oneCell'=true
 hk:RepH E ρk A H0 hp PSk
 hr:RepH E ρc A H0 hc PSc
 pm:(X++(flt PSk++flt PSc)).Perm (flt PS0)
 lw:Dm->fA ri.st PSc=fA ri.st PS0
 tt:∀i,xG i th=true->∃v,ρk i=some v/\ρc (rnT i th)=some v
 ns:Dm->∀i,xG i th=true->aJ (rnT i th) ri.st=false
section
variable {ρc ρk:RM}{A:NQ}{H0:AH}{ri:RI}{G:RG}{PS0 PSk PSc:PSs}{X:OL}{hp hc:HP}{nx:Nat}{th:TH}
theorem aUv(hd:ri.D=G.D){id:Nat}{K:Prop}(k:wns ri id K):(G.D=true->aJ id ri.st=false)/\K:=by
 unfold wns at k
 grind
theorem zN{a b i:Nat}{th:TH}:xG i ((a,b)::th)=cond (Nat.beq a i) true (xG i th):=rfl
theorem aGb{a b i:Nat}{th:TH}:rnT i ((a,b)::th)=cond (Nat.beq a i) b (rnT i th):=rfl
theorem MI.take{j:Nat}{La:OL}{U V:PSs}{z6:HP}{x:Value}(h:MI E ρc A H0 ri (G.D=true) PS0 X ρk hp nx th hc PSk PSc)(qq:PSc=U++(j,La)::V)(hh:RepH E ρc A H0 z6 (U++V))(hx:ρc j=some x)(zp:x.oneCell'=true)(vp:G.D=true->aJ j ri.st=false):
 MI E ρc A H0 ri (G.D=true) PS0 (La++X) (lO ρk nx x) hp (nx+1) ((nx,j)::th) z6 PSk (U++V)/\RMle ρk (lO ρk nx x):=by
 have qf:=fH (x:=x) (h.no nx (Nat.le_refl _));subst qq;refine⟨⟨fun i hi=>?_,fun i v e=>?_,RepH.mono qf (Gr.refl _ _) h.hk,hh,?_,fun hD=>?_,fun i hi=>?_,fun hD i hi=>?_⟩,qf⟩
 ·unfold lO;rw[if_neg (by omega)];exact h.no i (by omega)
 ·unfold lO at e;by_cases hi:i=nx
  ·simp_all
  ·rw[if_neg hi] at e;exact h.one i v e
 ·have:=h.pm;rw[bN] at this ⊢;simp only[flt] at this;refine List.Perm.trans ?_ this
  grind [QA,aLb,flt]
 ·have:=h.lw hD;simp only[gO,fA,vp hD,QF] at this ⊢;exact this
 ·rw[zN] at hi;rw[aGb];cases e:Nat.beq nx i with
  |true=>
   have:=QN e;subst this;exact⟨x,if_pos rfl,hx⟩
  |false=>
   rw[e,QF] at hi;obtain⟨v,v1,v2⟩:=h.tt i hi;exact⟨v,qf _ _ v1,v2⟩
 ·rw[zN] at hi;rw[aGb];cases e:Nat.beq nx i with
  |true=>exact vp hD
  |false=>rw[e,QF] at hi;exact h.ns hD i hi
theorem aDa:∀{is:NL} {K:SL->Prop},bEf is K=K (is.map fun i=>.ptr i 0)
 |[],K=>rfl
 |i::r,K=>(aDa (is:=r) (K:=fun r=>K (.ptr i 0::r))).trans rfl
theorem aWg{ρc ρk:RM}{A:NQ}{H0:AH}{th:TH}(ht:∀i,xG i th=true->∃v,ρk i=some v/\ρc (rnT i th)=some v):∀{is:NL} {l:SL} {ws:VL},mtP th is l=true->Reps ρc A H0 l ws->Reps ρk A H0 (is.map fun i=>.ptr i 0) ws
 |[],[],[],_,h=>by simp only[List.map_nil,Reps]
 |[],[],_::_,_,h=>by simp only[Reps] at h
 |i::r,.ptr j 0::s,[],hb,h=>by simp only[Reps] at h
 |i::r,.ptr j 0::s,w::ws,hb,h=>by
  simp only[Reps,mtP] at h hb;cases e1:xG i th with
  |false=>rw[e1] at hb;cases hb
  |true=>
   rw[e1,QT] at hb;cases e2:Nat.beq (rnT i th) j with
   |false=>rw[e2] at hb;cases hb
   |true=>
    rw[e2,QT] at hb;have e2:=QN e2;simp only[List.map_cons,Reps];refine⟨?_,aWg ht hb h.2⟩
    grind [Rep]
theorem aMg(hd:ri.D=G.D){c:CK}{v:SV}{w:Value}{K:SV->MK}(h:MI E ρc A H0 ri (G.D=true) PS0 X ρk hp nx th hc PSk PSc)(k:bAm ri c v hp nx th hc K)(hv:Rep ρc A H0 v w):
 ∃v' qc nx' th' z6 ρk' PSk' PSc',K v' qc nx' th' z6/\MI E ρc A H0 ri (G.D=true) PS0 X ρk' qc nx' th' z6 PSk' PSc'/\RMle ρk ρk'/\Rep ρk' A H0 v' w/\∀KK,bCo c hp nx KK->KK v' qc nx':=by
 unfold bAm at k;split at k
 ·rename_i kd;obtain⟨v',k1,k2,k3,_⟩:=aHx k hv;refine⟨v',hp,nx,th,hc,ρk,PSk,PSc,k1,h,RMle.refl _,uR (p:=.sc kd) k2 k3,fun KK hK=>aVf (K:=fun v=>KK v hp nx) hK k2⟩
 ·rename_i b ks;simp only[Rep] at hv;subst hv;have qf:=fH (x:=.slice none 0 0) (h.no nx (Nat.le_refl _));refine⟨.ow nx,_,_,_,_,lO ρk nx (.slice none 0 0),(nx,[])::PSk,PSc,k,⟨fun i hi=>?_,fun i v e=>?_,⟨[],PSk,rfl,⟨_,if_pos rfl,OwS.nil⟩,RepH.mono qf (Gr.refl _ _) h.hk⟩,h.hr,by simpa only[flt,List.nil_append] using h.pm,h.lw,fun i hi=>?_,h.ns⟩,qf,by simp only[Rep];exact if_pos rfl,fun KK hK=>hK []⟩
  ·unfold lO;rw[if_neg (by omega)];exact h.no i (by omega)
  ·unfold lO at e;by_cases hi:i=nx
   ·rw[if_pos hi] at e;cases e;rfl
   ·rw[if_neg hi] at e;exact h.one i v e
  ·obtain⟨v,v1,v2⟩:=h.tt i hi;exact⟨v,qf _ _ v1,v2⟩
 ·rename_i b ks j;split at k
  ·rename_i b' ks' l hg;cases e1:Nat.beq b b' with
   |false=>simp_all
   |true=>
    rw[e1,QT] at k;cases e2:kdsEq ks ks' with
    |false=>simp_all
    |true=>
     rw[e2,QT] at k;have e1:=QN e1;have e2:=kdsEq_ok e2;subst e1;subst e2;obtain⟨vp,k⟩:=aUv hd k;obtain⟨La,U,V,qq,⟨x,r1,r2⟩,_,_,xc⟩:=h.hr.get hg;obtain⟨z6,k,hh⟩:=xc _ k;obtain⟨m,qf⟩:=h.take qq hh r1 r2.one' vp;simp only[Rep] at hv;rw[r1] at hv;cases hv;refine⟨.ow nx,_,_,_,_,_,(nx,La)::PSk,U++V,k,⟨m.no,m.one,⟨La,PSk,rfl,⟨_,if_pos rfl,r2⟩,m.hk⟩,m.hr,?_,m.lw,m.tt,m.ns⟩,qf,by simp only[Rep];exact if_pos rfl,fun KK hK=>hK l⟩;refine List.Perm.trans ?_ m.pm
     grind [flt,QA,aLb]
  ·exact k.elim
 ·rename_i g is g' l;cases e1:Nat.beq g g' with
  |false=>simp_all
  |true=>
   rw[e1,QT] at k;cases e2:mtP th is l with
   |false=>simp_all
   |true=>
    rw[e2,QT,aDa] at k;have e1:=QN e1;subst e1;simp only[Rep] at hv;obtain⟨ws,rfl,hv⟩:=hv;exact⟨_,hp,nx,th,hc,ρk,PSk,PSc,k,h,RMle.refl _,by simp only[Rep];exact⟨ws,rfl,aWg h.tt e2 hv⟩,fun KK hK=>(aDa (is:=is) (K:=fun l=>KK (.fn g l) hp nx))▸hK⟩
 ·exact k.elim
theorem xH(hd:ri.D=G.D):∀{cs:List CK} {vs:SL} {ws:VL} {hp hc:HP} {nx:Nat} {th:TH} {ρk:RM} {PSk PSc:PSs} {K:SL->MK},MI E ρc A H0 ri (G.D=true) PS0 X ρk hp nx th hc PSk PSc->aMp ri cs vs hp nx th hc K->Reps ρc A H0 vs ws->
 ∃vs' qc nx' th' z6 ρk' PSk' PSc',K vs' qc nx' th' z6/\MI E ρc A H0 ri (G.D=true) PS0 X ρk' qc nx' th' z6 PSk' PSc'/\RMle ρk ρk'/\Reps ρk' A H0 vs' ws/\∀KK,aCk cs hp nx KK->KK vs' qc nx'
 |[],[],[],hp,hc,nx,th,ρk,PSk,PSc,K,h,k,_=>⟨[],hp,nx,th,hc,ρk,PSk,PSc,k,h,RMle.refl _,by simp only[Reps],fun KK hK=>hK⟩
 |c::cs,v::vs,w::ws,hp,hc,nx,th,ρk,PSk,PSc,K,h,k,hv=>by
  simp only[Reps] at hv;obtain⟨v',zx,nx1,th1,rh,ρ1,Pk1,Pc1,k1,m1,l1,r1,g1⟩:=aMg hd (K:=fun v hp nx th hc=>aMp ri cs vs hp nx th hc fun vs hp nx th hc=>K (v::vs) hp nx th hc) h k hv.1;obtain⟨vs',ze,nx2,th2,xt,ρ2,Pk2,Pc2,k2,m2,l2,r2,g2⟩:=xH hd m1 k1 hv.2;exact⟨v'::vs',ze,nx2,th2,xt,ρ2,Pk2,Pc2,k2,m2,l1.trans l2,by simp only[Reps];exact⟨Rep.mono l2 (Gr.refl _ _) r1,r2⟩,fun KK hK=>g2 (fun vs hp nx=>KK (v'::vs) hp nx) (g1 (fun v hp nx=>aCk cs hp nx fun vs hp nx=>KK (v::vs) hp nx) hK)⟩
 |[],_::_,_,_,_,_,_,_,_,_,_,_,k,_=>(k:False).elim
 |_::_,[],_,_,_,_,_,_,_,_,_,_,k,_=>(k:False).elim
 |[],[],_::_,_,_,_,_,_,_,_,_,_,_,h=>by simp only[Reps] at h
 |_::_,_::_,[],_,_,_,_,_,_,_,_,_,_,h=>by simp only[Reps] at h
theorem aLx(hd:ri.D=G.D){t:TY}{cs:List CK}{v:SV}{w:Value}{K:SV->MK}(h:MI E ρc A H0 ri (G.D=true) PS0 X ρk hp nx th hc PSk PSc)(k:bAr ri t cs v hp nx th hc K)(hv:Rep ρc A H0 v w):
 ∃v' qc nx' th' z6 ρk' PSk' PSc',K v' qc nx' th' z6/\MI E ρc A H0 ri (G.D=true) PS0 X ρk' qc nx' th' z6 PSk' PSc'/\RMle ρk ρk'/\Rep ρk' A H0 v' w/\∀KK,aWy t cs hp nx KK->KK v' qc nx':=by
 unfold bAr at k;split at k
 ·rename_i j;split at k
  ·rename_i t' cells hg;cases e1:Nat.beq t t' with
   |false=>simp_all
   |true=>
    rw[e1,QT] at k;have e1:=QN e1;subst e1;obtain⟨vp,k⟩:=aUv hd k;obtain⟨La,U,V,qq,⟨N,vs,r1,r2,r3⟩,_,_,xc⟩:=h.hr.get hg;obtain⟨z6,k,hh⟩:=xc _ k;obtain⟨m,qf⟩:=h.take qq hh r1 rfl vp;obtain⟨cells',ze,nx2,th2,xt,ρ2,Pk2,Pc2,k2,m2,l2,q2,g2⟩:=xH hd m k r3;have jg:ρ2 nx=some (.pointer (some ⟨2*N+1,0,none⟩)):=l2 _ _ (if_pos rfl);simp only[Rep] at hv;obtain⟨N',e2,rfl⟩:=hv;rw[r1] at e2;simp only[Option.some.injEq,Value.pointer.injEq,Addr.mk.injEq] at e2;have eN:N'=N:=by omega
    subst eN;refine⟨.ptr nx 0,_,_,_,_,ρ2,(nx,La)::Pk2,Pc2,k2,⟨m2.no,m2.one,⟨La,Pk2,rfl,⟨N',_,jg,r2,q2⟩,m2.hk⟩,m2.hr,?_,m2.lw,m2.tt,m2.ns⟩,qf.trans l2,by simp only[Rep];grind,fun KK hK=>g2 (fun cells hp nx'=>KK (.ptr nx 0) ((nx,.box t cells)::hp) nx') hK⟩;refine List.Perm.trans ?_ m2.pm
    grind [flt,QA,aLb]
  ·exact k.elim
 ·exact k.elim
theorem aAo{ρ ρ':RM}{A:NQ}{H:AH}{lo hi:Int}:∀{n:Nat} {ws:VL},Reps ρ A H (gD n [.rng lo hi]) ws->Reps ρ' A H (gD n [.rng lo hi]) ws
 |0,[],_=>by simp only[gD,Reps]
 |0,_::_,h=>by grind [gD,Reps]
 |n+1,[],h=>by grind [gD,Reps]
 |n+1,w::ws,h=>by
  simp only[gD,List.cons_append,List.nil_append,Reps] at h ⊢;exact⟨by grind [Rep],aAo h.2⟩
theorem aRw(hd:ri.D=G.D){t:TY}{cs:List CK}{n:Nat}{v:SV}{w:Value}{K:SV->MK}(h:MI E ρc A H0 ri (G.D=true) PS0 X ρk hp nx th hc PSk PSc)(k:aQt ri t cs n v hp nx th hc K)(hv:Rep ρc A H0 v w):
 ∃v' qc nx' th' z6 ρk' PSk' PSc',K v' qc nx' th' z6/\MI E ρc A H0 ri (G.D=true) PS0 X ρk' qc nx' th' z6 PSk' PSc'/\RMle ρk ρk'/\Rep ρk' A H0 v' w/\∀KK,aQx t cs n hp nx KK->KK v' qc nx':=by
 unfold aQt at k;split at k
 ·rename_i j;split at k
  ·rename_i t' cells hg;cases e1:Nat.beq t t' with
   |false=>simp_all
   |true=>
    rw[e1,QT] at k;have e1:=QN e1;subst e1;obtain⟨vp,k⟩:=aUv hd k;obtain⟨La,U,V,qq,⟨N,vs,r1,r2,r3⟩,_,_,xc⟩:=h.hr.get hg;obtain⟨z6,k,hh⟩:=xc _ k;split at k
    ·rename_i c1 lo hi rr ht ny;have ag:=k.h;have k:=k.t;rw[ag] at ny;have t1:=(nC ht).1;have t2:=(rA ny).1;have rt:Reps ρc A H0 c1 (vs.take (aGg cs)):=by rw[t1];exact r3.take
     have rd:Reps ρc A H0 (gD n [.rng lo hi]) (vs.drop (aGg cs)):=by rw[t2];exact r3.drop
     obtain⟨m,qf⟩:=h.take qq hh r1 rfl vp;obtain⟨cells',ze,nx2,th2,xt,ρ2,Pk2,Pc2,k2,m2,l2,q2,g2⟩:=xH hd m k rt;have k2:=cJ k2;have q3:Reps ρ2 A H0 (cells'++gD n [.rng lo hi]) vs:=by
      have:=q2.app (aAo (ρ':=ρ2) rd)
      simp_all
     have jg:ρ2 nx=some (.pointer (some ⟨2*N+1,0,none⟩)):=l2 _ _ (if_pos rfl);simp only[Rep] at hv;obtain⟨N',e2,rfl⟩:=hv;rw[r1] at e2;simp only[Option.some.injEq,Value.pointer.injEq,Addr.mk.injEq] at e2;have eN:N'=N:=by omega
     subst eN;refine⟨.ptr nx 0,_,_,_,_,ρ2,(nx,La)::Pk2,Pc2,k2,⟨m2.no,m2.one,⟨La,Pk2,rfl,⟨N',_,jg,r2,q3⟩,m2.hk⟩,m2.hr,?_,m2.lw,m2.tt,m2.ns⟩,qf.trans l2,by simp only[Rep];grind,fun KK hK=>cJ (g2 (fun cells hp nx'=>gQ (cells++gD n [.rng lo hi]) fun cells=>KK (.ptr nx 0) ((nx,.box t cells)::hp) nx') (hK lo hi))⟩;refine List.Perm.trans ?_ m2.pm
     grind [flt,QA,aLb]
    ·exact k.elim
  ·exact k.elim
 ·exact k.elim
theorem aDr(hd:ri.D=G.D):∀{bs:List (TypeId×List CK)} {vs:SL} {ws:VL} {hp hc:HP} {nx:Nat} {th:TH} {ρk:RM} {PSk PSc:PSs} {K:SL->MK},MI E ρc A H0 ri (G.D=true) PS0 X ρk hp nx th hc PSk PSc->aSr ri bs vs hp nx th hc K->Reps ρc A H0 vs ws->
 ∃vs' qc nx' th' z6 ρk' PSk' PSc',K vs' qc nx' th' z6/\MI E ρc A H0 ri (G.D=true) PS0 X ρk' qc nx' th' z6 PSk' PSc'/\RMle ρk ρk'/\Reps ρk' A H0 vs' ws/\∀KK,aIk bs hp nx KK->KK vs' qc nx'
 |[],[],[],hp,hc,nx,th,ρk,PSk,PSc,K,h,k,_=>⟨[],hp,nx,th,hc,ρk,PSk,PSc,k,h,RMle.refl _,by simp only[Reps],fun KK hK=>hK⟩
 |(t,cs)::bs,v::vs,w::ws,hp,hc,nx,th,ρk,PSk,PSc,K,h,k,hv=>by
  simp only[Reps] at hv;obtain⟨v',zx,nx1,th1,rh,ρ1,Pk1,Pc1,k1,m1,l1,r1,g1⟩:=aLx hd (K:=fun v hp nx th hc=>aSr ri bs vs hp nx th hc fun vs hp nx th hc=>K (v::vs) hp nx th hc) h k hv.1;obtain⟨vs',ze,nx2,th2,xt,ρ2,Pk2,Pc2,k2,m2,l2,r2,g2⟩:=aDr hd m1 k1 hv.2;exact⟨v'::vs',ze,nx2,th2,xt,ρ2,Pk2,Pc2,k2,m2,l1.trans l2,by simp only[Reps];exact⟨Rep.mono l2 (Gr.refl _ _) r1,r2⟩,fun KK hK=>g2 (fun vs hp nx=>KK (v'::vs) hp nx) (g1 (fun v hp nx=>aIk bs hp nx fun vs hp nx=>KK (v::vs) hp nx) hK)⟩
 |[],_::_,_,_,_,_,_,_,_,_,_,_,k,_=>(k:False).elim
 |_::_,[],_,_,_,_,_,_,_,_,_,_,k,_=>(k:False).elim
 |[],[],_::_,_,_,_,_,_,_,_,_,_,_,h=>by simp only[Reps] at h
 |_::_,_::_,[],_,_,_,_,_,_,_,_,_,_,h=>by simp only[Reps] at h
theorem bDm(hd:ri.D=G.D){p:PI}{v:SV}{w:Value}{K:SV->MK}(h:MI E ρc A H0 ri (G.D=true) PS0 X ρk hp nx th hc PSk PSc)(k:mtI ri p v hp nx th hc K)(hv:Rep ρc A H0 v w):
 ∃v' qc nx' th' z6 ρk' PSk' PSc',K v' qc nx' th' z6/\MI E ρc A H0 ri (G.D=true) PS0 X ρk' qc nx' th' z6 PSk' PSc'/\RMle ρk ρk'/\Rep ρk' A H0 v' w/\∀KK,genI p hp nx KK->KK v' qc nx':=by
 unfold mtI at k;split at k
 ·obtain⟨v',k1,k2,k3⟩:=tB k hv;exact⟨v',hp,nx,th,hc,ρk,PSk,PSc,k1,h,RMle.refl _,uR k2 k3,fun KK hK=>aCh (K:=fun v=>KK v hp nx) hK k2⟩
 ·exact aLx hd h k hv
 ·exact aRw hd h k hv
 ·exact aMg hd h k hv
 ·rename_i g bs g' vs;cases e1:Nat.beq g g' with
  |false=>simp_all
  |true=>
   rw[e1,QT] at k;have e1:=QN e1;subst e1;simp only[Rep] at hv;obtain⟨ws,rfl,hv⟩:=hv;obtain⟨vs',ze,nx2,th2,xt,ρ2,Pk2,Pc2,k2,m2,l2,r2,g2⟩:=aDr hd h k hv;exact⟨.fn g vs',ze,nx2,th2,xt,ρ2,Pk2,Pc2,k2,m2,l2,by simp only[Rep];exact⟨ws,rfl,r2⟩,fun KK hK=>g2 (fun vs hp nx=>KK (.fn g vs) hp nx) hK⟩
 ·exact k.elim
theorem aMm(hd:ri.D=G.D):∀{ps:List PI} {vs:SL} {ws:VL} {hp hc:HP} {nx:Nat} {th:TH} {ρk:RM} {PSk PSc:PSs} {K:SL->MK},MI E ρc A H0 ri (G.D=true) PS0 X ρk hp nx th hc PSk PSc->bFc ri ps vs hp nx th hc K->Reps ρc A H0 vs ws->
 ∃vs' qc nx' th' z6 ρk' PSk' PSc',K vs' qc nx' th' z6/\MI E ρc A H0 ri (G.D=true) PS0 X ρk' qc nx' th' z6 PSk' PSc'/\RMle ρk ρk'/\Reps ρk' A H0 vs' ws/\∀KK,aLo ps hp nx KK->KK vs' qc nx'
 |[],[],[],hp,hc,nx,th,ρk,PSk,PSc,K,h,k,_=>⟨[],hp,nx,th,hc,ρk,PSk,PSc,k,h,RMle.refl _,by simp only[Reps],fun KK hK=>hK⟩
 |p::ps,v::vs,w::ws,hp,hc,nx,th,ρk,PSk,PSc,K,h,k,hv=>by
  simp only[Reps] at hv;obtain⟨v',zx,nx1,th1,rh,ρ1,Pk1,Pc1,k1,m1,l1,r1,g1⟩:=bDm hd (K:=fun v hp nx th hc=>bFc ri ps vs hp nx th hc fun vs hp nx th hc=>K (v::vs) hp nx th hc) h k hv.1;obtain⟨vs',ze,nx2,th2,xt,ρ2,Pk2,Pc2,k2,m2,l2,r2,g2⟩:=aMm hd m1 k1 hv.2;exact⟨v'::vs',ze,nx2,th2,xt,ρ2,Pk2,Pc2,k2,m2,l1.trans l2,by simp only[Reps];exact⟨Rep.mono l2 (Gr.refl _ _) r1,r2⟩,fun KK hK=>g2 (fun vs hp nx=>KK (v'::vs) hp nx) (g1 (fun v hp nx=>aLo ps hp nx fun vs hp nx=>KK (v::vs) hp nx) hK)⟩
 |[],_::_,_,_,_,_,_,_,_,_,_,_,k,_=>(k:False).elim
 |_::_,[],_,_,_,_,_,_,_,_,_,_,k,_=>(k:False).elim
 |[],[],_::_,_,_,_,_,_,_,_,_,_,_,h=>by simp only[Reps] at h
 |_::_,_::_,[],_,_,_,_,_,_,_,_,_,_,h=>by simp only[Reps] at h
end
end Go.AM
