/-
  An abstract machine that runs a program of the given form, and its soundness, part 11.
-/
import Derived.Test.YtlikijmihbgloaaGreatDoorAb10
set_option linter.unusedVariables false
set_option linter.unusedSimpArgs false
set_option linter.unusedSectionVars false
noncomputable section
namespace Go.AM
open Go.RowKit
variable [σ:Sg]
variable [γ:Gam]
section
variable {P:PG}{E:Env P}{T:TTb}{C:CTb}{G:RG}{ri:RI}{i n d nx:Nat}{r:OL2}{Q:FQ}{t:Tr Value}{l:LV}{H0:AH}{A:NQ}{ρ:RM}{fs:FR}{hp:HP}{PS:PSs}{L0:OL}
 {ty:TY}{ps:String}{af:Array Edge}{gd:OB}{x y:Operand}
def KS(E:Env P)(G:RG)(ri:RI)(L0:OL)(i n:Nat)(r:OL2)(Q:FQ)(t:Tr Value)(l:LV)(ρ:RM)(A:NQ)(H0:AH)(K:FR->HP->Nat->Prop):Prop:=
 ∀fs' qc nx',K fs' qc nx'->∀ρ' PS' A' H',Den E ρ' nx' fs' qc PS' A' H' l->RiOk G ri PS' L0 nx' A' H'->RMle ρ ρ'->Gr A H0 A' H'->SO E G (i+1) r Q (fr n t l) H' A' (flt PS'++L0)
theorem cW(X Y:PSs)(k:Nat)(L:OL):flt (X++(k,L)::Y)++L0=flt X++(L++(flt Y++L0)):=by rw[bH];simp only[flt,QA]
theorem zT{id:Nat}{o:SJ}:∀{hp:HP} {K K':HP->Prop},(∀r,K r->K' r)->kP id o hp K->kP id o hp K'
 |[],K,K',hk,h=>h
 |(j,v)::r,K,K',hk,h=>by
  rw[oX] at h ⊢;cases e:Nat.beq j id with
  |true=>simp only[e,QT] at h ⊢;exact hk _ h
  |false=>simp only[e,QF] at h ⊢;exact zT (fun r'=>hk _) h
theorem aAs{id:Nat}{o:SJ}:∀{hp:HP},hget id hp=some o->kP id o hp fun qc=>qc=hp
 |[],h=>by cases h
 |(j,v)::r,h=>by
  simp only[hget] at h;rw[oX];cases e:Nat.beq j id with
  |true=>simp only[e,QT] at h ⊢;cases h;rfl
  |false=>
   simp only[e,QF] at h ⊢;have:=aAs h;exact zT (fun r' hr=>by rw[hr]) this
theorem aNm(hT:dM E T)(hD:Den E ρ nx fs hp PS A H0 l)(hR:RiOk G ri PS L0 nx A H0){ta:TY}{p v:SV}{up uv:Value}{K:HP->Prop}(h:aJs T ri ta p v hp K)(r9:Rep ρ A H0 p up)(hv:Rep ρ A H0 v uv)
 (hw:gok G.ops l gd=true)(hm:G.D=true->i∈G.ms)(hx:opv l x=some up)(hy:opv l y=some uv)
 (hK:∀qc PS',K qc->Den E ρ nx fs qc PS' A H0 l->RiOk G ri PS' L0 nx A H0->SO E G (i+1) r Q (fr n t l) H0 A (flt PS'++L0)):SO E G i (⟨none,.store ta x y,ty,ps,af,gd⟩::r) Q (fr n t l) H0 A (flt PS++L0):=by
 unfold aJs at h;split at h
 ·rename_i cl ti yj zb;obtain⟨z,hi,_⟩:=(hT _ _ zb).inf;cases es:scS cl with
  |false=>rw[es] at h;exact h.elim
  |true=>
   rw[es,QT] at h;cases el:Nat.beq (iJ cl) ti.size with
   |false=>rw[el] at h;exact h.elim
   |true=>
    rw[el,QT] at h;have el:=QN el;rw[dY] at el;have R:=(Rep.one hD.one hv yj).1;have zw:=aDw hD.one es R;have qe:=R.len;split at h
    ·rename_i id o;simp only[Rep] at r9;obtain⟨N,e1,rfl⟩:=r9;split at h
     ·rename_i bt cs hg;obtain⟨qr,h⟩:=hR.ns h;obtain⟨La,X,Y,qs,⟨N',vs,r1,r2,r3⟩,_,xt,_⟩:=hD.hp.get hg;rw[e1] at r1;simp only[Option.some.injEq,Value.pointer.injEq,Addr.mk.injEq] at r1;have eN:N'=N:=by omega
      subst eN;subst r2;split at h
      ·rename_i cs' yb;have q:=pF yb;obtain⟨qc,k1,k2⟩:=xt _ _ (cF h);subst qs;have hl3:=r3.len;refine lS (L':=flt (X++(id,[(N',.cells (vs.take o++(uv.cells.toList++vs.drop (o+uv.cells.toList.length))) (fD E bt) true)])::Y)++L0) hw hm hx hy hi rfl (by rw[qe,el]) zw (by rw[cW,cW];exact Upd.split _ _) rfl (by omega) (fun za=>(hR.put qr).sub za) ?_;refine hK qc _ k1 ⟨hD.no,hD.one,hD.fr,k2 (RMle.refl _) (Gr.refl _ _) ⟨N',_,e1,rfl,?_⟩⟩ (hR.put qr);rw[q.1];exact r3.spl R
      ·exact h.elim
     ·exact h.elim
    ·rename_i id j o m;simp only[Rep] at r9;obtain⟨M,ln,cp,e1,rfl⟩:=r9;split at h
     ·rename_i b ks rr hg;cases em:Nat.beq m ks.length with
      |false=>rw[em] at h;exact h.elim
      |true=>
       rw[em,QT] at h;have em:=QN em;obtain⟨qr,h⟩:=hR.ns h;obtain⟨La,X,Y,qs,⟨x',r1,r2⟩,_,xt,_⟩:=hD.hp.get hg;obtain⟨M',cs,ex,q1,q2,q3⟩:=r2.pos h.h;rw[e1] at r1;rw[q1] at r1;simp only[Option.some.injEq,Value.slice.injEq,Addr.mk.injEq] at r1;have eM:M'=M:=by omega
       subst eM;subst q2;have hk:=h.t;split at hk
       ·rename_i ks' r8;have w0:=aBo r8;split at hk
        ·rename_i kk yr;have w:=aCn yr;rw[dY,w0.1] at w;obtain⟨ss',k1,_,_,k4⟩:=oH hk R;subst qs;have ux:=w.2;rw[List.length_drop] at ux;have vp:=w0.2;rw[w.1,<-qe] at k4;have ho:o+uv.cells.toList.length<=ks.length:=by omega
         refine bCs (L'':=fun cs'=>flt (X++(id,[(M',.cells cs' ks.length ex)])::Y)++L0) (o:=o) (m:=m) r2.1 r2.2.1 q3 h.h.1 h.h.2 hw hm hx em hy hi rfl (by rw[qe,el]) (Nat.ble_eq_true_of_le ho) k4 (fun cs'=>by rw[cW,cW];exact Upd.split _ _) (fun cs' za=>(hR.put qr).sub za) ?_;rintro cs' rr' ⟨hl,hX⟩ t';obtain⟨qc,p1,p2⟩:=xt _ _ (k1 rr' hl (by rw[hX,dY,qe]));refine hK qc _ p1 ⟨hD.no,hD.one,hD.fr,p2 (RMle.refl _) (Gr.refl _ _) ⟨_,e1,?_⟩⟩ (hR.put qr);have:=OwS.mk (M:=M') (ex:=ex) (A:=A) (H:=H0) (b:=b) (by rw[hl];exact r2.1) (by rw[hl];exact r2.2.1) t';rw[hl] at this;obtain⟨_,r1b,r1c⟩:=r1;subst r1b;subst r1c;exact this
        ·exact hk.elim
       ·exact hk.elim
     ·exact h.elim
    ·rename_i id o m;simp only[Rep] at r9;obtain⟨N,k,e1,hk,rfl⟩:=r9;split at h
     ·rename_i bt cs zz hg nw;obtain⟨qr,h⟩:=hR.ns h;split at h
      ·rename_i lo ql rr hd;obtain⟨La,X,Y,qs,⟨N',vs,r1,r2,r3⟩,_,xt,_⟩:=hD.hp.get hg;rw[e1] at r1;simp only[Option.some.injEq,Value.pointer.injEq,Addr.mk.injEq] at r1;have eN:N'=N:=by omega
       subst eN;subst r2;have hc:=aSr hd h.h hk;have R1:Reps ρ A H0 [.rng lo ql] uv.cells.toList:=by
        cases hu:uv.cells.toList with
        |nil=>rw[hu] at R;simp only[Reps] at R
        |cons a q=>
         rw[hu] at R;simp only[Reps,Rep] at R ⊢;obtain⟨⟨rfl,w1⟩,w2⟩:=R;exact⟨⟨_,rfl,w1,h.t.h.1,h.t.h.2⟩,w2⟩
       have px:uv.cells.toList.length=1:=R1.len;have wz:o+k<cs.length:=by
        rcases Nat.lt_or_ge (o+k) cs.length with h'|h'
        ·exact h'
        ·rw[List.getElem?_eq_none h'] at hc;cases hc
       have hl3:=r3.len;have same:cs.take (o+k)++([.rng lo ql]++cs.drop (o+k+[SV.rng lo ql].length))=cs:=by
        have e2:cs[o+k]=.rng lo ql:=by rw[List.getElem?_eq_getElem wz] at hc;exact Option.some.inj hc
        rw[<-e2];simp only[List.length_singleton,List.singleton_append];rw[<-List.drop_eq_getElem_cons wz,List.take_append_drop]
       obtain⟨qc,k1,k2⟩:=xt (.box bt cs) (fun qc=>qc=hp) (aAs hg);subst qs;subst k1;refine lS (L':=flt (X++(id,[(N',.cells (vs.take (o+k)++(uv.cells.toList++vs.drop (o+k+uv.cells.toList.length))) (fD E bt) true)])::Y)++L0) hw hm hx hy hi rfl (by rw[qe,el]) zw (by rw[cW,cW];exact Upd.split _ _) rfl (by omega) (fun za=>(hR.put qr).sub za) ?_;refine hK _ _ h.t.t ⟨hD.no,hD.one,hD.fr,k2 (RMle.refl _) (Gr.refl _ _) ⟨N',_,e1,rfl,?_⟩⟩ (hR.put qr);have:=r3.spl (o:=o+k) R1;rw[same] at this;exact this
      ·exact h.elim
     ·exact h.elim
    ·exact h.elim
 ·exact h.elim
theorem aKj{v:SV}{w:Value}{b:Nat}{ks:KL}{K:LX->Prop}(hH:RepH E ρ A H0 hp PS)(hv:Rep ρ A H0 v w)(h:aYj v hp b ks K){S:AH}{A0:NQ}{L:OL}(hL:∀q∈flt PS,q∈L):∃l2,K l2/\aDa S H0 A0 A L ks l2 w/\l2.length<=140737488351232:=by
 unfold aYj at h;split at h
 ·simp only[Rep] at hv;subst hv;have:=(RowD.zero (A:=A) (H:=H0) (b:=b) (ks:=ks)).firsts (S:=S) (A0:=A0) (L:=L);exact⟨[],h,this,by simp⟩
 ·rename_i b' ks' l2;cases e1:Nat.beq b b' with
  |false=>rw[e1] at h;exact h.elim
  |true=>
   rw[e1,QT] at h;cases e2:kdsEq ks ks' with
   |false=>rw[e2] at h;exact h.elim
   |true=>
    rw[e2,QT] at h;have e1:=QN e1;have e2:=kdsEq_ok e2;subst e1;subst e2;simp only[Rep] at hv;obtain⟨l',a,cap,e,rfl,rx⟩:=hv.rowD;cases e;exact⟨l2,h,rx.firsts,rx.len⟩
 ·rename_i j;split at h
  ·rename_i b' ks' l2 hg;cases e1:Nat.beq b b' with
   |false=>rw[e1] at h;exact h.elim
   |true=>
    rw[e1,QT] at h;cases e2:kdsEq ks ks' with
    |false=>rw[e2] at h;exact h.elim
    |true=>
     rw[e2,QT] at h;have e1:=QN e1;have e2:=kdsEq_ok e2;subst e1;subst e2;obtain⟨La,X,Y,qs,⟨x',r1,r2⟩,_⟩:=hH.get hg;simp only[Rep] at hv;rw[hv] at r1;cases r1;exact⟨l2,h,r2.firsts (fun q hq=>hL q (by rw[qs,bH];simp only[flt];exact List.mem_append_right _ (List.mem_append_left _ hq))),r2.1⟩
  ·exact h.elim
 ·exact h.elim
theorem aIw(hT:dM E T)(hD:Den E ρ nx fs hp PS A H0 l)(hR:RiOk G ri PS L0 nx A H0){c:Call}{sT xT:TY}{u v:SV}{uu uv:Value}{K:SV->FR->HP->Nat->Prop}(h:aBw T ri i sT xT u v hp nx fun s hp nx=>K s fs hp nx)(hu:Rep ρ A H0 u uu)(hv:Rep ρ A H0 v uv)
 (hw:gok G.ops l gd=true)(qd:Nat.ble (d+1) n=true)(hc:c.callee=.builtin .append)(ha:c.args.toList=[x,y])(ht:c.argTypes.toList=[sT,xT])(hx:opv l x=some uu)(hy:opv l y=some uv)
 (hK:KV E G ri L0 i n d r Q t l ρ A H0 K):SO E G i (⟨some d,.call c,ty,ps,af,gd⟩::r) Q (fr n t l) H0 A (flt PS++L0):=by
 unfold aBw at h;split at h
 ·rename_i ti tx zb htx;obtain⟨w,xb,_,hs⟩:=(hT _ _ zb).und;obtain⟨w2,gu,_,xg⟩:=(hT _ _ htx).und;split at h
  ·rename_i e e2 qw bm;rw[qw] at hs;simp only[dP] at hs;subst hs;rw[bm] at xg;simp only[dP] at xg;subst xg;split at h
   ·rename_i te z9;obtain⟨z,hi,_⟩:=(hT _ _ z9).inf;cases e0:Nat.beq te.size 0 with
    |true=>rw[e0] at h;exact h.elim
    |false=>
     rw[e0,QF] at h;cases e1:Nat.beq te.size te.ks.length with
     |false=>rw[e1] at h;exact h.elim
     |true=>
      rw[e1,QT] at h;have e1:=QN e1;have e0:te.size≠0:=fun e=>by rw[e] at e0;cases e0
      obtain⟨hm,h⟩:=hR.mn h;split at h
      ·simp only[Rep] at hu;subst hu;obtain⟨l2,k1,k2,k3⟩:=aKj (S:=G.S) (A0:=G.A0) (L:=flt PS++L0) hD.hp hv h (fun q hq=>List.mem_append_left _ hq);have k1:=k1 k3;refine aQr (b:=te.bytes) OwS.nil .nil k2 hw qd hm hc ha ht hx hy xb gu rfl hi rfl e1 (by rw[<-e1];exact e0) rfl (by simpa using k1.h) (by simpa using k3) (fun za=>hR.sub za) ?_;intro x' Lr' ow;rw[List.nil_append] at ow;exact KV.row hK hD hD hR ow (k1.t _ rfl rfl)
      ·rename_i id;split at h
       ·rename_i b ks l1 hg;cases eb:Nat.beq b te.bytes with
        |false=>rw[eb] at h;exact h.elim
        |true=>
         rw[eb,QT] at h;cases ek:kdsEq ks te.ks with
         |false=>rw[ek] at h;exact h.elim
         |true=>
          rw[ek,QT] at h;have eb:=QN eb;have ek:=kdsEq_ok ek;subst eb;subst ek;obtain⟨qr,h⟩:=hR.ns h;obtain⟨La,X,Y,qs,⟨x',r1,r2⟩,_,_,xd⟩:=hD.hp.get hg;obtain⟨qc,h,hh⟩:=xd _ h;simp only[Rep] at hu;rw[r1] at hu;cases hu;obtain⟨l2,k1,k2,k3⟩:=aKj (S:=G.S) (A0:=G.A0) (L:=flt PS++L0) hh hv h (fun q hq=>by
           rw[qs,bH];simp only[flt];rw[bH] at hq;rcases List.mem_append.1 hq with hq|hq
           ·exact List.mem_append_left _ (List.mem_append_left _ hq)
           ·exact List.mem_append_left _ (List.mem_append_right _ (List.mem_append_right _ hq)))
          have k1:=k1 r2.1 k3;subst qs;refine aQr (L':=flt (X++Y)++L0) (b:=te.bytes) r2 (by rw[cW,bH,QA];exact Takes.ow r2 _ _) k2 hw qd hm hc ha ht hx hy xb gu rfl hi rfl e1 (by rw[<-e1];exact e0) rfl k1.h.1 k1.h.2 (fun za=>(hR.del qr).sub za) ?_;intro x2 Lr' ow;exact KV.row hK hD ⟨hD.no,hD.one,hD.fr,hh⟩ (hR.del qr) ow (k1.t _ (by simp) rfl)
       ·exact h.elim
      ·exact h.elim
   ·exact h.elim
  ·exact h.elim
 ·exact h.elim
theorem aPv(hT:dM E T)(hD:Den E ρ nx fs hp PS A H0 l)(hR:RiOk G ri PS L0 nx A H0){ta:TY}{u v:SV}{uu uv:Value}{K:SV->FR->HP->Nat->Prop}(h:aUc T ri i ta u v hp nx fun s hp nx=>K s fs hp nx)(hu:Rep ρ A H0 u uu)(hv:Rep ρ A H0 v uv)
 (hw:gok G.ops l gd=true)(qd:Nat.ble (d+1) n=true)(hx:opv l x=some uu)(hy:opv l y=some uv)
 (hK:KV E G ri L0 i n d r Q t l ρ A H0 K):SO E G i (⟨some d,.makeSlice ta x y,ty,ps,af,gd⟩::r) Q (fr n t l) H0 A (flt PS++L0):=by
 unfold aUc at h;split at h
 ·rename_i k j k' j';simp only[Rep] at hu hv;obtain⟨rfl,_⟩:=hu;obtain⟨rfl,_⟩:=hv;split at h
  ·rename_i ti zb;obtain⟨w,xb,_,hs⟩:=(hT _ _ zb).und;split at h
   ·rename_i e qw;rw[qw] at hs;simp only[dP] at hs;subst hs;split at h
    ·rename_i te z9;obtain⟨z,hi,hz⟩:=(hT _ _ z9).inf;cases e0:Nat.beq te.size 0 with
     |true=>rw[e0] at h;exact h.elim
     |false=>
      rw[e0,QF] at h;have e0:te.size≠0:=fun e=>by rw[e] at e0;cases e0
      obtain⟨hm,h⟩:=hR.mn h;obtain⟨q1,q2,q3,q4⟩:=h.h;subst q1;have Z:=hz ρ A H0;rw[tM] at Z;obtain⟨ss,k1,_,_,k4⟩:=oH h.t Z;have zl:z.cells.size=te.size:=E.zs_ok _ _ _ hi rfl;have kl:=k4.len.1;have ez:∀l:VL,(extL l).length=l.length:=fun l=>by
       induction l with
       |nil=>rfl
       |cons a l ih=>simp[extL,ih]
      rw[ez,Array.length_toList,zl] at kl;obtain⟨a,rfl⟩:∃a:Nat,j=((a:Nat):Int):=⟨j.toNat,by omega⟩;have bo:a*te.bytes<=140737488351232:=by
       have:(((a*te.bytes:Nat)):Int)<=140737488351232:=by rw[Int.natCast_mul];exact q4
       omega
      refine bBj (a:=a) (c:=a) hw qd hm hx hy xb hi rfl (Nat.le_refl _) (by omega) (by rw[Nat.mul_comm];simp only;omega) rfl kl fun N=>?_;have tt:=Typd.rep (A:=A) (H:=H0) k4 a;have yh:extL (cT (if a*te.size=0 then #[] else z.cells) (a*te.size))=(List.replicate a (extL z.cells.toList)).flatten:=by
       by_cases oa:a=0
       ·subst oa;simp[cT,extL]
       ·rw[if_neg (fun h=>by rcases Nat.mul_eq_zero.1 h with h|h;exact oa h;exact e0 h),<-zl,qD (by rw[zl];exact e0)]
      have ow:OwS A H0 te.bytes te.ks (List.replicate a (ss.map cSV)) (.slice (some ⟨2*N+1,0,none⟩) a a) [(N,.cells (List.replicate a (extL z.cells.toList)).flatten te.ks.length true)]:=by
       have:=OwS.mk (M:=N) (ex:=true) (A:=A) (H:=H0) (b:=te.bytes) (l:=List.replicate a (ss.map cSV)) (by rw[List.length_replicate];omega) (by rw[List.length_replicate];exact bo) tt;rw[List.length_replicate] at this;exact this
      simp only;rw[yh];exact KV.row hK hD hD hR ow (k1 _ (by rw[List.length_replicate]) (by rw[Int.toNat_natCast]))
    ·exact h.elim
   ·exact h.elim
  ·exact h.elim
 ·exact h.elim
theorem aJl(hT:dM E T)(hD:Den E ρ nx fs hp PS A H0 l)(hR:RiOk G ri PS L0 nx A H0){ta:TY}{len:Nat}{parts:Array (Nat×Operand)}{vs:List (Nat×SV)}{us:LV}{K:SV->FR->HP->Nat->Prop}(h:aCg T ri i ta len vs fs hp nx K)(hv:RepF ρ A H0 vs us)
 (hw:gok G.ops l gd=true)(qd:Nat.ble (d+1) n=true)(f8:Opps l parts.toList us)
 (hK:KV E G ri L0 i n d r Q t l ρ A H0 K):SO E G i (⟨some d,.buildSlice ta len parts,ty,ps,af,gd⟩::r) Q (fr n t l) H0 A (flt PS++L0):=by
 unfold aCg at h;split at h
 ·rename_i ti zb;obtain⟨w,xb,_,hs⟩:=(hT _ _ zb).und;split at h
  ·rename_i e qw;rw[qw] at hs;simp only[dP] at hs;subst hs;split at h
   ·rename_i te z9;obtain⟨z,hi,hz⟩:=(hT _ _ z9).inf;cases e0:Nat.beq te.size 0 with
    |true=>rw[e0] at h;exact h.elim
    |false=>
     rw[e0,QF] at h;cases e1:Nat.ble (len*te.size) 16777216 with
     |false=>rw[e1] at h;exact h.elim
     |true=>
      rw[e1,QT] at h;cases e2:Nat.ble (len*te.bytes) 140737488351232 with
      |false=>rw[e2] at h;exact h.elim
      |true=>
       rw[e2,QT] at h;have e0':te.size≠0:=fun e=>by rw[e] at e0;cases e0
       cases e3:Nat.beq te.size te.ks.length with
       |false=>
        rw[e3,QF] at h;unfold aLt at h;cases e5:Nat.beq te.size 1 with
        |false=>rw[e5] at h;exact h.elim
        |true=>
         rw[e5,QT] at h;have e5:=QN e5;have zl:z.cells.size=te.size:=E.zs_ok _ _ _ hi rfl;have Z:=hz ρ A H0;rw[tM] at Z;have yh:extL (cT (if len*te.size=0 then #[] else z.cells) (len*te.size))=(List.replicate len (extL z.cells.toList)).flatten:=by
          by_cases oa:len=0
          ·subst oa;simp[cT,extL]
          ·rw[if_neg (fun h=>by rcases Nat.mul_eq_zero.1 h with h|h;exact oa h;exact e0' h),<-zl,qD (by rw[zl];exact e0')]
         split at h
         ·rename_i cells yj;obtain⟨os,k1,k2⟩:=sK hD.one yj (aBr Z len) hv;cases e6:ptL cells with
          |false=>rw[e6] at h;exact h.elim
          |true=>
           rw[e6,QT] at h;cases e7:Nat.beq (iJ cells) len with
           |false=>rw[e7] at h;exact h.elim
           |true=>
            rw[e7,QT] at h;have e7:=QN e7;rw[dY,<-k2.len] at e7;obtain⟨hm,h⟩:=hR.mn h;have h:=cF h;refine bL hw qd hm f8 xb hi (by simp only[e1,e0];rfl) rfl (by simp only[yh];exact k1) (by rw[e5,Nat.mul_one,e7];exact Nat.beq_refl _) (s:=1) e5 fun N=>?_;refine hK.new hD hR (o:=.oth (.vr cells)) (La:=[(N,_)]) (s:=.ow nx) rfl hD hR (fun qf hr=>⟨N,os,true,by rw[e7];exact hr,rfl,Reps.mono qf (Gr.refl _ _) k2⟩) h (fun _ hr=>by simp only[Rep];exact hr)
         ·exact h.elim
       |true=>
        rw[e3,QT] at h;have e3:=QN e3;obtain⟨hm,h⟩:=hR.mn h;have zl:z.cells.size=te.size:=E.zs_ok _ _ _ hi rfl;have Z:=hz ρ A H0;rw[tM] at Z;have yh:extL (cT (if len*te.size=0 then #[] else z.cells) (len*te.size))=(List.replicate len (extL z.cells.toList)).flatten:=by
         by_cases oa:len=0
         ·subst oa;simp[cT,extL]
         ·rw[if_neg (fun h=>by rcases Nat.mul_eq_zero.1 h with h|h;exact oa h;exact e0' h),<-zl,qD (by rw[zl];exact e0')]
        split at h
        ·rename_i cells yj;obtain⟨os,k1,k2⟩:=sK hD.one yj (aBr Z len) hv;refine yQ hD hR k2 h fun ss' fs' qc PS' A1 H1 kk zr vn g bf=>?_;cases e4:Nat.ble len 140737488351232 with
         |false=>rw[e4] at kk;exact kk.elim
         |true=>
          rw[e4,QT] at kk;have hk:te.ks≠[]:=fun e=>by rw[e] at e3;exact e0' e3
          obtain⟨rr,ll,k3,k4,k5,k6⟩:=aLg hk kk bf;have ht:=k5.1;refine bL hw qd hm f8 xb hi (by simp only[e1,e0];rfl) rfl (by simp only[yh];exact k1) (by simp only[ht,k4,e3,Nat.beq_refl]) (s:=te.ks.length) e3 fun N=>?_;have ow:=OwS.mk (M:=N) (ex:=true) (A:=A1) (H:=H1) (b:=te.bytes) (l:=ll) (by rw[k4];exact QL e4) (by rw[k4];exact QL e2) k5;rw[k4] at ow;have:=KV.row (A:=A1) (H0:=H1) (K:=K) (ρ:=ρ) (fun s fs' qc nx' q ρ' PS' A' H' u a b c d e=>hK s fs' qc nx' q ρ' PS' A' H' u a b c (g.trans d) e) zr zr vn ow (k3 _ k4 k6);exact this
        ·exact h.elim
   ·exact h.elim
  ·exact h.elim
 ·exact h.elim
theorem bBn(hT:dM E T)(hD:Den E ρ nx fs hp PS A H0 l)(hR:RiOk G ri PS L0 nx A H0){ta:TY}{id o m id2:Nat}{j:Int}{u uv:Value}{K:HP->Prop}(h:bEj T ri ta id j o m id2 hp K)(r9:Rep ρ A H0 (.op id j o m) u)(pz:Rep ρ A H0 (.ow id2) uv)
 (hw:gok G.ops l gd=true)(hm:G.D=true->i∈G.ms)(hx:opv l x=some u)(hy:opv l y=some uv)
 (hK:∀qc PS',K qc->Den E ρ nx fs qc PS' A H0 l->RiOk G ri PS' L0 nx A H0->SO E G (i+1) r Q (fr n t l) H0 A (flt PS'++L0)):SO E G i (⟨none,.store ta x y,ty,ps,af,gd⟩::r) Q (fr n t l) H0 A (flt PS++L0):=by
 unfold bEj at h;split at h
 ·rename_i b ks rr ti hg zb;obtain⟨z,hi,_⟩:=(hT _ _ zb).inf;cases e1:Nat.beq ti.size 1 with
  |false=>rw[e1] at h;exact h.elim
  |true=>
   cases e2:Nat.beq o 0 with
   |false=>rw[e1,e2] at h;exact h.elim
   |true=>
    cases e3:Nat.beq m ks.length with
    |false=>rw[e1,e2,e3] at h;exact h.elim
    |true=>
     cases e4:Nat.beq ks.length 1 with
     |false=>rw[e1,e2,e3,e4] at h;exact h.elim
     |true=>
      rw[e1,e2,e3,e4] at h;simp only[QT] at h;have e1:=QN e1;have e2:=QN e2;have e3:=QN e3;have e4:=QN e4;subst e2;subst e3;obtain⟨qr,h⟩:=hR.ns h;obtain⟨La,X,Y,qs,⟨x',r1,r2⟩,_,xt,_⟩:=hD.hp.get hg;simp only[Rep] at r9 pz;obtain⟨M,ln,cp,f1,rfl⟩:=r9;obtain⟨M',cs,ex,q1,q2,q3⟩:=r2.pos h.h;rw[f1] at r1;rw[q1] at r1;simp only[Option.some.injEq,Value.slice.injEq,Addr.mk.injEq] at r1;have eM:M'=M:=by omega
      subst eM;subst q2;obtain⟨qc,k1,k2⟩:=xt _ _ h.t;have ho:=hD.one _ _ pz;have hl:cs.length=rr.length:=by rw[q3.1,e4,Nat.mul_one]
      have hj:=h.h;subst qs;refine lS (L':=flt (X++(id,[(M',.cells (cs.take (j.toNat*ks.length+0)++([uv]++cs.drop (j.toNat*ks.length+0+[uv].length))) ks.length ex)])::Y)++L0) hw hm hx hy hi (oM ho) (by rw[e1];rfl) (by simp[aY,ho]) (by rw[cW,cW];exact Upd.split _ _) rfl (by rw[e4,hl];simp;omega) (fun za=>(hR.put qr).sub za) ?_;refine hK qc _ k1 ⟨hD.no,hD.one,hD.fr,k2 (RMle.refl _) (Gr.refl _ _) ⟨_,uv,f1,pz,hj.1,hj.2,r2.1,r2.2.1,e4,ho,M',cs,ex,?_,rfl,q3⟩⟩ (hR.put qr);obtain⟨_,r1b,r1c⟩:=r1;subst r1b;subst r1c;rfl
 ·exact h.elim
end
end Go.AM
namespace Go.AM
open Go.RowKit
variable [σ:Sg]
variable [γ:Gam]
section
variable {P:PG}{E:Env P}{T:TTb}{C:CTb}{G:RG}{ri:RI}{i n d nx:Nat}{r:OL2}{Q:FQ}{t:Tr Value}{l:LV}{H0:AH}{A:NQ}{ρ:RM}{fs:FR}{hp:HP}{PS:PSs}{L0:OL}
 {ty:TY}{ps:String}{af:Array Edge}{gd:OB}{x y:Operand}
theorem aMk(hT:dM E T)(hD:Den E ρ nx fs hp PS A H0 l){ta:TY}{vs:List (Nat×SV)}{us:LV}{K:SP}(h:aHx T ta vs K)(hv:RepF ρ A H0 vs us):∃s v,K s/\Rep ρ A H0 s v/\pW E ta us=some v:=by
 unfold aHx at h;split at h
 ·rename_i ti zb;obtain⟨w,xb,_,hs⟩:=(hT _ _ zb).und;obtain⟨z,hi,hz⟩:=(hT _ _ zb).inf;split at h
  ·rename_i fl qw;rw[qw] at hs;obtain⟨F,rfl,rb,_⟩:=hs;split at h
   ·rename_i out mt;obtain⟨os,k1,k2⟩:=sK hD.one mt (hz ρ A H0) hv;have e:(fun i=>(fl.map fun x=>(x.1,x.2.2))[i]?)=plF fl:=by
     have key:∀(fl:List (Nat×Nat×Nat)) (i:Nat),(fl.map fun x=>(x.1,x.2.2))[i]?=plF fl i:=by
      intro fl
      induction fl with
      |nil=>intro i;simp[plF,atF]
      |cons a fl ih=>
       intro i;cases i with
       |zero=>simp[plF,atF]
       |succ i=>rw[List.map_cons,List.getElem?_cons_succ,ih];simp only[plF,atF]
     funext i;exact key fl i
    refine⟨_,.agg ⟨os⟩,cF h,by simp only[Rep];exact⟨_,rfl,k2⟩,?_⟩;simp only[pW,hi,xb,rb];rw[e,k1]
   ·exact h.elim
  ·rename_i m e qw;rw[qw] at hs;simp only[dP] at hs;subst hs;split at h
   ·rename_i te z9;obtain⟨z2,wx,_⟩:=(hT _ _ z9).inf;split at h
    ·rename_i out mt;obtain⟨os,k1,k2⟩:=sK hD.one mt (hz ρ A H0) hv;refine⟨_,.agg ⟨os⟩,cF h,by simp only[Rep];exact⟨_,rfl,k2⟩,?_⟩;simp only[pW,hi,xb,wx,k1]
    ·exact h.elim
   ·exact h.elim
  ·exact h.elim
 ·exact h.elim
theorem aYk(hT:dM E T){ta:TY}{g:Nat}{s2:SV}{u2:Value}{K:SP}{L:OL}(h:aPx T ta g s2 K)(hy:Rep ρ A H0 s2 u2)(hw:gok G.ops l gd=true)(qd:Nat.ble (d+1) n=true)(ho:opv l y=some u2)
 (hK:∀s v,K s->Rep ρ A H0 s v->SO E G (i+1) r Q (fr n t ((d,v)::l)) H0 A L):SO E G i (⟨some d,.indexAddr ta (.global g) y,ty,ps,af,gd⟩::r) Q (fr n t l) H0 A L:=by
 unfold aPx at h;split at h
 ·rename_i kk j;simp only[Rep] at hy;obtain⟨rfl,hj⟩:=hy
  replace h:=iS h (bU hj).1 (bU hj).2
  split at h
  ·rename_i ti zb;obtain⟨w,xb,_,hs⟩:=(hT _ _ zb).und;split at h
   ·rename_i m e qw;rw[qw] at hs;simp only[dP] at hs;subst hs;split at h
    ·rename_i te z9;obtain⟨z,hi,_⟩:=(hT _ _ z9).inf;cases es:Nat.beq te.size 1 with
     |false=>rw[es] at h;exact h.elim
     |true=>
      rw[es,QT] at h;exact bDo hw qd ho xb hi (QN es) h.h.1 h.h.2 (hK _ _ h.t (by simp only[Rep]))
    ·exact h.elim
   ·exact h.elim
  ·exact h.elim
 ·exact h.elim
theorem aVp{K:SL->Prop}:∀{m:Nat} {zs:List Int},bBy m K->zs.length=m->(∀z∈zs,uB z)->K (zs.map (SV.int .i64)):=by
 intro m
 induction m generalizing K with
 |zero=>intro zs h hl _;cases zs with
  |nil=>exact h
  |cons _ _=>simp at hl
 |succ m ih=>
  intro zs h hl hz;cases zs with
  |nil=>simp at hl
  |cons a zs=>
   have ha:=hz a (List.mem_cons_self ..);exact ih (K:=fun l=>K (.int .i64 a::l)) (h a ha.1 ha.2) (by simpa using hl) fun z xy=>hz z (List.mem_cons_of_mem _ xy)
theorem aLf{z:Int}(h:uB z):(Lit.int .i64 z).wf=true:=jM (by simp[IntKind.min,IntKind.bits,IntKind.signed];omega) (by simp[IntKind.max,IntKind.bits,IntKind.signed];omega)
theorem aFt:∀{zs:List Int},(∀z∈zs,uB z)->Reps ρ A H0 (zs.map (SV.int .i64)) (zs.map (Value.int .i64))
 |[],_=>by simp[Reps]
 |z::zs,h=>by
  simp only[List.map_cons,Reps,Rep];exact⟨⟨trivial,aLf (h z (List.mem_cons_self ..))⟩,aFt fun z hz=>h z (List.mem_cons_of_mem _ hz)⟩
theorem aDx:∀{ss:SL} {us:VL},zY ss=true->Reps ρ A H0 ss us->∃zs:List Int,us=zs.map (Value.int .i64)/\∀z∈zs,uB z
 |[],[],_,_=>⟨[],rfl,fun z h=>by cases h⟩
 |s::ss,u::us,h,k=>by
  simp only[Reps] at k;cases s with
  |int kk m=>
   cases kk<;>simp only[zY] at h<;>first|(cases h;done)|skip
   obtain⟨zs,rfl,hz⟩:=aDx h k.2;have k1:=k.1;simp only[Rep] at k1;obtain⟨rfl,hm⟩:=k1;refine⟨m::zs,rfl,fun z xy=>?_⟩;rcases List.mem_cons.1 xy with rfl|xy
   ·have:=bU hm;simp[IntKind.min,IntKind.max,IntKind.bits,IntKind.signed] at this;exact this
   ·exact hz z xy
  |_=>simp[zY] at h
 |[],_::_,_,h=>by simp only[Reps] at h
 |_::_,[],_,h=>by simp only[Reps] at h
theorem aNf(hT:dM E T){ta:TY}{s s2:SV}{u u2:Value}{lit:Bool}{K:SP}(h:aIi T ta s s2 lit K)(hx:Rep ρ A H0 s u)(hy:Rep ρ A H0 s2 u2):∃s' v,K s'/\Rep ρ A H0 s' v/\kT E ta u u2=some v:=by
 unfold aIi at h;split at h
 ·rename_i kk j;simp only[Rep] at hy;obtain⟨rfl,hj⟩:=hy
  replace h:=iS h (bU hj).1 (bU hj).2
  split at h
  ·rename_i ti zb;obtain⟨w,hw,_,hs⟩:=(hT _ _ zb).und;split at h
   ·rename_i s;split at h
    ·rename_i qw;rw[qw] at hs;simp only[dP] at hs;subst hs;simp only[Rep] at hx;obtain⟨rfl,hl⟩:=hx;have q:=h hl;have hb:j.toNat<s.data.toList.length:=by have:=q.h;omega
     refine⟨_,.int .u8 (((s.data.toList[j.toNat]).toNat:Nat):Int),q.t (((s.data.toList[j.toNat]).toNat:Nat):Int) (Int.natCast_nonneg _) (by have:=(s.data.toList[j.toNat]).toNat_lt;omega) (by simp only[sBt,List.getElem?_eq_getElem hb,Option.getD_some]),?_,?_⟩
     ·simp only[Rep];refine⟨trivial,jM ?_ ?_⟩
      ·simp[IntKind.min,IntKind.bits,IntKind.signed]
      ·have:=(s.data.toList[j.toNat]).toNat_lt;simp[IntKind.max,IntKind.bits,IntKind.signed] at this ⊢;omega
     ·simp only[kT,hw,eH q.h.1 q.h.2,List.getElem?_eq_getElem hb]
    ·exact h.elim
   ·rename_i cs;split at h
    ·rename_i m e qw;rw[qw] at hs;simp only[dP] at hs;subst hs;split at h
     ·rename_i te z9;obtain⟨z,hi,_⟩:=(hT _ _ z9).inf;obtain⟨we,gv,yw,_⟩:=(hT _ _ z9).und;simp only[Rep] at hx;obtain⟨vs,rfl,hx⟩:=hx;rcases h.h with h|h
      rotate_left
      ·obtain⟨h0,h1,hk⟩:=mA h;obtain⟨s',v,q1,q2,dd,q3,q4⟩:=tT hT hk hx;refine⟨s',v,q1,q2,?_⟩;rcases q4 with⟨k1,k2⟩|⟨k1,ii,xs,k2,k3,k4,rfl⟩
       ·simp only[kT,hw,hi,eH h0 h1,apart,q3,k1,QF,k2]
       ·rw[hi] at k2;cases k2;have c1:Nat.ble (j.toNat*te.size+te.size) vs.length=true:=Nat.ble_eq_true_of_le k3;simp only[kT,hw,hi,eH h0 h1,apart,q3,k1,QT,c1,k4]
      cases e1:zY cs with
      |false=>rw[e1] at h;exact h.elim
      |true=>
       rw[e1,QT] at h;cases e2:Nat.ble (m*te.size) (iJ cs) with
       |false=>rw[e2] at h;exact h.elim
       |true=>
        rw[e2,QT] at h;have e2:=QL e2;obtain⟨zs,vo,oq⟩:=aDx e1 hx;have hl:=hx.len;rw[dY,<-hl] at e2;subst vo;rw[List.length_map] at e2;have q:=h.h;have qf:(j.toNat+1)*te.size<=m*te.size:=Nat.mul_le_mul_right _ (by omega);rw[Nat.add_mul,Nat.one_mul] at qf;have ht:=h.t;split at ht
        ·rename_i ha;have qe:((zs.drop (j.toNat*te.size)).take te.size).length=te.size:=by rw[List.length_take,List.length_drop];omega
         have yc:∀z∈(zs.drop (j.toNat*te.size)).take te.size,uB z:=fun z hz=>oq z (List.mem_of_mem_drop (List.mem_of_mem_take hz));refine⟨_,.agg ⟨((zs.drop (j.toNat*te.size)).take te.size).map (Value.int .i64)⟩,aVp ht qe yc,?_,?_⟩
         ·simp only[Rep];exact⟨_,rfl,aFt yc⟩
         ·have c1:Nat.ble (j.toNat*te.size+te.size) (zs.map (Value.int .i64)).length=true:=Nat.ble_eq_true_of_le (by rw[List.length_map];omega);simp only[kT,hw,hi,eH q.1 q.2,apart,gv,yw,ha,c1,QT,List.map_take,List.map_drop]
        ·rename_i ha;cases e3:Nat.beq te.size 1 with
         |false=>rw[e3] at ht;exact ht.elim
         |true=>
          rw[e3,QT] at ht;have e3:=QN e3;rw[e3,Nat.mul_one] at e2;have hk:j.toNat<zs.length:=by omega
          have yc:=oq _ (List.getElem_mem hk);refine⟨_,.int .i64 zs[j.toNat],ht _ yc.1 yc.2,by simp only[Rep];exact⟨trivial,aLf yc⟩,?_⟩;have c3:(zs.map (Value.int .i64))[j.toNat]?=some (.int .i64 zs[j.toNat]):=by simp[hk]
          simp only[kT,hw,hi,eH q.1 q.2,apart,gv,yw,ha,QF,e3,Nat.mul_one,c3]
     ·exact h.elim
    ·exact h.elim
   ·exact h.elim
  ·exact h.elim
 ·exact h.elim
omit [γ:Gam] in
def OpR(ρ:RM)(A:NQ)(H0:AH):Option SV->Option Value->Prop
 |none,none=>True
 |some s,some v=>Rep ρ A H0 s v
 |_,_=>False
theorem vS(hF:RepF ρ A H0 fs l){o:Option Operand}{K:Option SV->Prop}(h:aMv o fs K):∃s v,OpO l o v/\K s/\OpR ρ A H0 s v:=by
 unfold aMv at h;split at h
 ·exact⟨none,none,.none,h,trivial⟩
 ·obtain⟨s,u,h1,h2,h3⟩:=aT hF h;exact⟨some s,some u,.some h1,h3,h2⟩
theorem aAg(hT:dM E T)(hR:RiOk G ri PS L0 nx A H0){ta:TY}{s:SV}{u:Value}{lo hi:Option Operand}{sl sh:Option SV}{vl vh:Option Value}{K:SP}(h:aBt T ri ta s sl sh K)(hx:Rep ρ A H0 s u)
 (hl:OpR ρ A H0 sl vl)(hh:OpR ρ A H0 sh vh)
 (hw:gok G.ops l gd=true)(qd:Nat.ble (d+1) n=true)(gx:opv l x=some u)(ol:OpO l lo vl)(oh:OpO l hi vh)
 (hK:∀s v,K s->Rep ρ A H0 s v->SO E G (i+1) r Q (fr n t ((d,v)::l)) H0 A (flt PS++L0)):SO E G i (⟨some d,.slice ta x lo hi none,ty,ps,af,gd⟩::r) Q (fr n t l) H0 A (flt PS++L0):=by
 unfold aBt at h;split at h
 ·rename_i ti zb;obtain⟨w,xb,_,hs⟩:=(hT _ _ zb).und;split at h
  ·rename_i e qw;rw[qw] at hs;simp only[dP] at hs;subst hs;split at h
   ·rename_i te z9;obtain⟨z,ql,_⟩:=(hT _ _ z9).inf;cases e0:Nat.beq te.size 0 with
    |true=>rw[e0] at h;exact h.elim
    |false=>
     rw[e0,QF] at h;have e0:te.size≠0:=fun e=>by rw[e] at e0;cases e0
     split at h
     ·rename_i b ks rr kk hv;have hq:qA G A=A/\qH G H0=H0:=by
       unfold wng at h;rw[hR.d] at h;unfold qA qH;cases eD:G.D with
       |false=>exact⟨rfl,rfl⟩
       |true=>
        rw[eD,QT] at h;cases eg:ri.G with
        |true=>rw[eg] at h;exact h.elim
        |false=>
         obtain⟨a,b⟩:=hR.gr eD eg;rw[QT,QT];exact⟨a.symm,b.symm⟩
      have h':cond (Nat.beq ks.length te.size) (rr.length<=140737488351232->Ob (0<=hv/\hv<=((rr.length:Nat):Int)) (∀l',((l'.length:Nat):Int)=hv->l'=rr.take hv.toNat->K (.row b ks l'))) False:=by
       unfold wng at h
       revert h
       cases ri.D<;>cases ri.G<;>intro h<;>first|exact h|exact h.elim
      cases ek:Nat.beq ks.length te.size with
      |false=>rw[ek] at h';exact h'.elim
      |true=>
       rw[ek,QT] at h';have ek:=QN ek;cases vl with
       |some _=>exact hl.elim
       |none=>
        cases vh with
        |none=>exact hh.elim
        |some vh=>
         simp only[OpR,Rep] at hh;obtain⟨rfl,_⟩:=hh;cases ol;cases oh with
         |some oh=>
          simp only[Rep] at hx;obtain⟨r2,a,cap,e,rfl,rx⟩:=hx.rowD;cases e;have q:=h' rx.len;refine bAn (by rw[hq.1,hq.2];exact rx) hw qd gx oh xb ql ek e0 q.h.1 q.h.2 ?_;intro a' rx';rw[hq.1,hq.2] at rx';exact hK _ _ (q.t _ (by rw[List.length_take];have:=q.h;omega) rfl) (by simp only[Rep];exact rx'.cell)
     ·rename_i b ks rr kk hv;have hq:qA G A=A/\qH G H0=H0:=by
       unfold wng at h;rw[hR.d] at h;unfold qA qH;cases eD:G.D with
       |false=>exact⟨rfl,rfl⟩
       |true=>
        rw[eD,QT] at h;cases eg:ri.G with
        |true=>rw[eg] at h;exact h.elim
        |false=>
         obtain⟨a,b⟩:=hR.gr eD eg;rw[QT,QT];exact⟨a.symm,b.symm⟩
      have h':cond (Nat.beq ks.length te.size) (rr.length<=140737488351232->Ob (0<=hv/\hv<=((rr.length:Nat):Int)) (∀l',((l'.length:Nat):Int)=((rr.length:Nat):Int) - hv->l'=rr.drop hv.toNat->K (.row b ks l'))) False:=by
       unfold wng at h
       revert h
       cases ri.D<;>cases ri.G<;>intro h<;>first|exact h|exact h.elim
      cases ek:Nat.beq ks.length te.size with
      |false=>rw[ek] at h';exact h'.elim
      |true=>
       rw[ek,QT] at h';have ek:=QN ek;cases vh with
       |some _=>exact hh.elim
       |none=>
        cases vl with
        |none=>exact hl.elim
        |some vl=>
         simp only[OpR,Rep] at hl;obtain⟨rfl,_⟩:=hl;cases oh;cases ol with
         |some ol=>
          simp only[Rep] at hx;obtain⟨r2,a,cap,e,rfl,rx⟩:=hx.rowD;cases e;have q:=h' rx.len;have om:hv=((hv.toNat:Nat):Int):=by have:=q.h;omega
          refine aWb (p:=hv.toNat) hw qd gx xb ql (by rw[ol,<-om]) (by rw[hq.1,hq.2];exact rx) ek (by have:=q.h;omega) ?_;intro a' rx';rw[hq.1,hq.2] at rx';exact hK _ _ (q.t _ (by rw[List.length_drop];have:=q.h;omega) rfl) (by simp only[Rep];exact rx'.cell)
     ·exact h.elim
   ·exact h.elim
  ·rename_i qw;rw[qw] at hs;simp only[dP] at hs;subst hs;have fin:∀{s:BA} {a b m:Nat},s.size<=maxLen->bC s.data.toList.length s.data.toList.length vl vh none=some (a,b,m)->a<=b->b<=s.data.toList.length->opv l x=some (.string s)->(∀w:BA,w.data.toList.length=b - a->w.data.toList=(s.data.toList.take b).drop a->K (.str w))->SO E G i (⟨some d,.slice ta x lo hi none,ty,ps,af,gd⟩::r) Q (fr n t l) H0 A (flt PS++L0):=by
    intro s a b m hm hb h1 h2 ho hk;refine aDm hw qd ho xb ol oh hb (hK _ _ (hk ⟨⟨(s.data.toList.take b).drop a⟩⟩ ?_ rfl) ?_)
    ·show((s.data.toList.take b).drop a).length=b - a;rw[List.length_drop,List.length_take];omega
    ·simp only[Rep];refine⟨trivial,?_⟩;show((s.data.toList.take b).drop a).length<=maxLen;have:s.data.toList.length<=maxLen:=hm;rw[List.length_drop,List.length_take];omega
   split at h
   ·rename_i s kk hv;simp only[Rep] at hx;obtain⟨rfl,hm⟩:=hx;cases vl with
    |some _=>exact hl.elim
    |none=>
     cases vh with
     |none=>exact hh.elim
     |some vh=>
      simp only[OpR,Rep] at hh;obtain⟨rfl,_⟩:=hh;have q:=h hm;obtain⟨b,rfl⟩:∃b:Nat,hv=((b:Nat):Int):=⟨hv.toNat,by have:=q.h;omega⟩;refine fin hm (oP (by have:=q.h;omega)) (Nat.zero_le _) (by have:=q.h;omega) gx fun w x5 zi=>q.t w (by omega) ⟨by rw[zi,List.drop_zero];rfl⟩
   ·rename_i s kk hv;simp only[Rep] at hx;obtain⟨rfl,hm⟩:=hx;cases vh with
    |some _=>exact hh.elim
    |none=>
     cases vl with
     |none=>exact hl.elim
     |some vl=>
      simp only[OpR,Rep] at hl;obtain⟨rfl,_⟩:=hl;have q:=h hm;obtain⟨b,rfl⟩:∃b:Nat,hv=((b:Nat):Int):=⟨hv.toNat,by have:=q.h;omega⟩;have ha:bC s.data.toList.length s.data.toList.length (some (.int kk (b:Int))) none none=some (b,s.data.toList.length,s.data.toList.length):=by
       have e1:bO none s.data.toList.length s.data.toList.length=some s.data.toList.length:=rfl;have e2:bO none 0 s.data.toList.length=some 0:=rfl;have e4:bO (none:Option Value) s.data.toList.length s.data.toList.length=some s.data.toList.length:=rfl;have e3:bO (some (Value.int kk (b:Int))) 0 s.data.toList.length=some b:=by have:=q.h;simp only[bO];rw[if_pos ⟨by omega,by omega⟩];simp
       simp only[bC,e1,e3]
      refine fin hm ha (by have:=q.h;omega) (Nat.le_refl _) gx fun w x5 zi=>q.t w (by have:=q.h;omega) ⟨by rw[zi,List.take_length];rfl⟩
   ·rename_i s k1 v1 k2 v2;simp only[Rep] at hx;obtain⟨rfl,hm⟩:=hx;cases vh with
    |none=>exact hh.elim
    |some vh=>
     cases vl with
     |none=>exact hl.elim
     |some vl=>
      simp only[OpR,Rep] at hl hh;obtain⟨rfl,_⟩:=hl;obtain⟨rfl,_⟩:=hh;have q:=h hm;obtain⟨a,rfl⟩:∃b:Nat,v1=((b:Nat):Int):=⟨v1.toNat,by have:=q.h;omega⟩;obtain⟨b,rfl⟩:∃b:Nat,v2=((b:Nat):Int):=⟨v2.toNat,by have:=q.h;omega⟩;refine fin hm (aHa (by have:=q.h;omega) (by have:=q.h;omega)) (by have:=q.h;omega) (by have:=q.h;omega) gx fun w x5 zi=>q.t w (by have:=q.h;omega) ⟨by rw[zi];rfl⟩
   ·exact h.elim
  ·exact h.elim
 ·exact h.elim
end
end Go.AM
namespace Go.AM
open Go.RowKit
variable [σ:Sg]
variable [γ:Gam]
theorem xG{kk:IntKind}{z:Int}:∀{es:List (Value×Value×Nat)} {i:Nat},(∀e∈es,∃y,e.1=.int kk y)->(∀e∈es,e.1≠.int kk z)->jN (.int kk) (.int kk z) es i=some none
 |[],i,_,_=>rfl
 |(k,v,b)::r,i,h1,h2=>by
  obtain⟨y,hy⟩:=h1 _ (List.mem_cons_self ..);simp only at hy;subst hy;have qn:y≠z:=fun e=>h2 _ (List.mem_cons_self ..) (by simp only[e]);have ek:dV (.int kk) (.int kk y)=true:=by simp[dV]
  have es:lN (.int kk z) (.int kk y)=false:=by simp[lN];exact fun e=>qn e.symm
  simp only[jN,ek,es,QT,QF];exact xG (fun e he=>h1 e (List.mem_cons_of_mem _ he)) (fun e he=>h2 e (List.mem_cons_of_mem _ he))
theorem uN{kk:IntKind}{z:Int}{v:Value}{b:Nat}:∀{es:List (Value×Value×Nat)} {j i:Nat},(∀e∈es,∃y,e.1=.int kk y)->es[j]?=some (.int kk z,v,b)->(∀j' e,j'<j->es[j']?=some e->e.1≠.int kk z)->jN (.int kk) (.int kk z) es i=some (some (i+j,v))
 |[],j,i,_,h,_=>by simp at h
 |(k,w,c)::r,0,i,h1,h2,h3=>by
  simp only[List.getElem?_cons_zero,Option.some.injEq,Prod.mk.injEq] at h2;obtain⟨rfl,rfl,rfl⟩:=h2;have ek:dV (.int kk) (.int kk z)=true:=by simp[dV]
  have es:lN (.int kk z) (.int kk z)=true:=by simp[lN]
  simp only[jN,ek,es,QT,Nat.add_zero]
 |(k,w,c)::r,j+1,i,h1,h2,h3=>by
  obtain⟨y,hy⟩:=h1 _ (List.mem_cons_self ..);simp only at hy;subst hy;have qn:y≠z:=fun e=>h3 0 _ (Nat.succ_pos _) rfl (by simp only[e]);have ek:dV (.int kk) (.int kk y)=true:=by simp[dV]
  have es:lN (.int kk z) (.int kk y)=false:=by simp[lN];exact fun e=>qn e.symm
  simp only[List.getElem?_cons_succ] at h2;simp only[jN,ek,es,QT,QF];rw[uN (i:=i+1) (fun e he=>h1 e (List.mem_cons_of_mem _ he)) h2 (fun j' e hj he=>h3 (j'+1) e (by omega) (by simpa using he))];congr 3;omega
section
variable {A:NQ}{H:AH}{kk:IntKind}{vk:KL}{ag:Bool}{m:Int->Option CL}{es:List (Value×Value×Nat)}
theorem MpOk.emp:MpOk A H kk vk ag (fun _=>none) []:=⟨fun e h=>(by cases h),fun z=>fun e h=>(by cases h)⟩
omit [γ:Gam] in
def aAc(A:NQ)(H:AH)(vk:KL)(ag:Bool)(v:Value)(c:CL):Prop:=match ag with
 |true=>∃vs,v=.agg ⟨vs⟩/\CellsA A H vk vs c
 |false=>CellsA A H vk [v] c
theorem MpOk.put{z:Int}{v:Value}{c:CL}{cl:Nat}(h:MpOk A H kk vk ag m es)(hv:aAc A H vk ag v c):
 ∃es' cl',((∃j b,jN (.int kk) (.int kk z) es 0=some (some (j,b))/\es'=es.modify j (fun e=>(.int kk z,v,e.2.2))/\cl'=cl)\/(jN (.int kk) (.int kk z) es 0=some none/\es'=es++[(.int kk z,v,cl)]/\cl'=cl+1))/\MpOk A H kk vk ag (wP m z c) es':=by
 cases em:m z with
 |some d=>
  have q:=h.2 z;rw[em] at q;obtain⟨i,w,b,q1,q2,_⟩:=q;refine⟨_,cl,.inl ⟨i,w,by rw[uN h.1 q1 q2,Nat.zero_add],rfl,rfl⟩,?_,fun y=>?_⟩
  ·intro e he;obtain⟨j,hj⟩:=List.mem_iff_getElem?.1 he;rw[List.getElem?_modify] at hj;cases e2:es[j]? with
   |none=>rw[e2] at hj;simp at hj
   |some e'=>
    rw[e2] at hj;simp only[Option.map_eq_map,Option.map_some,Option.some.injEq] at hj;by_cases ye:i=j
    ·rw[if_pos ye] at hj;subst hj;exact⟨z,rfl⟩
    ·rw[if_neg ye] at hj;subst hj;exact h.1 _ (List.mem_of_getElem? e2)
  ·unfold wP;by_cases hy:y=z
   ·subst hy;rw[if_pos rfl];refine⟨i,v,b,by rw[List.getElem?_modify,q1];simp,fun j e hj he=>?_,?_⟩
    ·rw[List.getElem?_modify] at he;cases e2:es[j]? with
     |none=>rw[e2] at he;simp at he
     |some e'=>
      rw[e2] at he;simp only[Option.map_eq_map,Option.map_some,Option.some.injEq] at he;rw[if_neg (by omega)] at he;subst he;exact q2 j _ hj e2
    ·cases ag<;>exact hv
   ·rw[if_neg hy];have qy:=h.2 y;cases ey:m y with
    |none=>
     rw[ey] at qy;intro e he;obtain⟨j,hj⟩:=List.mem_iff_getElem?.1 he;rw[List.getElem?_modify] at hj;cases e2:es[j]? with
     |none=>rw[e2] at hj;simp at hj
     |some e'=>
      rw[e2] at hj;simp only[Option.map_eq_map,Option.map_some,Option.some.injEq] at hj;by_cases ye:i=j
      ·rw[if_pos ye] at hj;subst hj;intro e3;cases e3;exact hy rfl
      ·rw[if_neg ye] at hj;subst hj;exact qy _ (List.mem_of_getElem? e2)
    |some d'=>
     rw[ey] at qy;obtain⟨i',w',b',p1,p2,p3⟩:=qy;have qn:i≠i':=fun e=>by subst e;rw[q1] at p1;cases p1;exact hy rfl
     refine⟨i',w',b',by rw[List.getElem?_modify,p1];simp[qn],fun j e hj he=>?_,p3⟩;rw[List.getElem?_modify] at he;cases e2:es[j]? with
     |none=>rw[e2] at he;simp at he
     |some e'=>
      rw[e2] at he;simp only[Option.map_eq_map,Option.map_some,Option.some.injEq] at he;by_cases ye:i=j
      ·rw[if_pos ye] at he;subst he;intro e3;cases e3;exact hy rfl
      ·rw[if_neg ye] at he;subst he;exact p2 j _ hj e2
 |none=>
  have q:=h.2 z;rw[em] at q;refine⟨_,_,.inr ⟨xG h.1 q,rfl,rfl⟩,?_,fun y=>?_⟩
  ·intro e he;rcases List.mem_append.1 he with he|he
   ·exact h.1 e he
   ·rw[List.mem_singleton.1 he];exact⟨z,rfl⟩
  ·unfold wP;by_cases hy:y=z
   ·subst hy;rw[if_pos rfl];refine⟨es.length,v,cl,by simp,fun j e hj he=>?_,?_⟩
    ·rw[List.getElem?_append_left hj] at he;exact q e (List.mem_of_getElem? he)
    ·cases ag<;>exact hv
   ·rw[if_neg hy];have qy:=h.2 y;cases ey:m y with
    |none=>
     rw[ey] at qy;intro e he;rcases List.mem_append.1 he with he|he
     ·exact qy e he
     ·rw[List.mem_singleton.1 he];intro e3;cases e3;exact hy rfl
    |some d'=>
     rw[ey] at qy;obtain⟨i',w',b',p1,p2,p3⟩:=qy;have qj:i'<es.length:=lt_of_getElem? p1;refine⟨i',w',b',by rw[List.getElem?_append_left qj];exact p1,fun j e hj he=>?_,p3⟩;rw[List.getElem?_append_left (by omega)] at he;exact p2 j e hj he
end
section
variable {P:PG}{E:Env P}{T:TTb}{G:RG}{ri:RI}{i n d nx:Nat}{r:OL2}{Q:FQ}{t:Tr Value}{l:LV}{H0:AH}{A:NQ}{ρ:RM}{fs:FR}{hp:HP}{PS:PSs}{L0:OL}
 {ty:TY}{ps:String}{af:Array Edge}{gd:OB}{x y z:Operand}
theorem RiOk.ldG{K:Prop}{id:Nat}{X Y:PSs}{La:OL}{M:Nat}{ob:AObj}{Pl:AH->Prop}(h:RiOk G ri PS L0 nx A H0)(k:wld ri i id K)(qs:PS=X++(id,La)::Y)(hm:(M,ob)∈La)(hl:∀{S H0:AH} {A0 A:NQ} {L:OL},(M,ob)∈L->∀H,HS S H0 A0 A L H->Pl H):
 K/\((∀H,HS G.S (qH G H0) G.A0 (qA G A) (qL G (flt PS++L0)) H->Pl H)\/(fK (bef G.ops) G.ms i=true/\∀H,HS G.S H0 G.A0 A (flt PS++L0) H->Pl H)):=by
 have zu:(M,ob)∈flt PS++L0:=by
  rw[qs,bH];simp only[flt];exact List.mem_append_left _ (List.mem_append_right _ (List.mem_append_left _ hm))
 unfold wld at k;rw[h.d,h.ops,h.ms] at k;cases hD:G.D with
 |false=>
  rw[hD,QF] at k;refine⟨k,.inl ?_⟩;unfold qH qA qL;rw[hD,QF,QF,QF];exact hl zu
 |true=>
  rw[hD,QT] at k;cases hg:aM id ri.st with
  |true=>
   rw[hg,QT] at k;refine⟨k,.inl ?_⟩;unfold qH qA qL;rw[hD,QT,QT,QT,<-h.lw hD];refine hl ?_;rw[qs,iI];simp only[gE,hg,QT];exact List.mem_append_left _ (List.mem_append_right _ (List.mem_append_left _ hm))
  |false=>
   rw[hg,QF] at k;exact⟨k.t,.inr ⟨k.h,hl zu⟩⟩
theorem xR(hT:dM E T){ta:TY}{K:IntKind->TyI->Prop}(h:aFg T ta K):∃kt et k te z,E.und ta=some (.map kt et)/\E.und kt=some (.int k)/\E.inf et=some ⟨te.size,te.bytes,some z⟩/\(∀ρ A H,Reps ρ A H te.zs (ext z).cells.toList)/\zAg te.agg z=true/\K k te:=by
 unfold aFg at h;split at h
 ·rename_i ti zb;obtain⟨u,hu,_,hs⟩:=(hT _ _ zb).und;split at h
  ·rename_i kt et qw;rw[qw] at hs;simp only[dP] at hs;subst hs;split at h
   ·rename_i tk te htk z9;obtain⟨u2,f7,_,xg⟩:=(hT _ _ htk).und;obtain⟨z,vo,oq⟩:=(hT _ _ z9).inf;split at h
    ·rename_i k hk;rw[hk] at xg;simp only[dP] at xg;subst xg;exact⟨kt,et,k,te,z,hu,f7,vo,oq,(hT _ _ z9).zag _ _ vo rfl,h⟩
    ·exact h.elim
   ·exact h.elim
  ·exact h.elim
 ·exact h.elim
theorem aXu{vk:KL}{ag:Bool}{c:CL}{v:Value}{K:SP}(h:bDy vk ag c K)(hv:aAc A H0 vk ag v c):∃s,K s/\Rep ρ A H0 s v:=by
 unfold bDy at h;split at h
 ·obtain⟨vs,rfl,hc⟩:=hv;exact⟨_,sF h,by simp only[Rep];exact⟨vs,rfl,CellsA.reps hc rfl⟩⟩
 ·rename_i k;have h:=tB h;have hv:CellsA A H0 [k] [v] c:=hv
  match c,hv with
  |[d],hv=>
   simp only[CellsA] at hv;exact⟨_,h,CellA.rep hv.1 rfl⟩
 ·exact h.elim
theorem bBb{zs:SL}{ag:Bool}{z:Value}{K:SP}(h:bEy zs ag K)(hz:Reps ρ A H0 zs (ext z).cells.toList)(ha:zAg ag z=true):∃s,K s/\Rep ρ A H0 s (ext z):=by
 unfold bEy at h;split at h
 ·cases z with
  |agg cs=>
   cases cs with
   |mk l=>
    refine⟨_,cF h,?_⟩;simp only[ext,Value.cells] at hz;simp only[ext,Rep];exact⟨_,rfl,hz⟩
  |_=>cases ha
 ·rename_i s;refine⟨s,kS h,?_⟩;cases z with
  |agg cs=>cases ha
  |tuple cs=>cases ha
  |pointer a=>cases a<;>(simp only[ext,Value.cells,Reps] at hz ⊢;exact hz.1)
  |slice a _ _=>cases a<;>(simp only[ext,Value.cells,Reps] at hz ⊢;exact hz.1)
  |map a=>cases a<;>(simp only[ext,Value.cells,Reps] at hz ⊢;exact hz.1)
  |chan a=>cases a<;>(simp only[ext,Value.cells,Reps] at hz ⊢;exact hz.1)
  |func a b c=>
   cases b with|mk b=>cases c with|mk c=>(simp only[ext,Value.cells,Reps] at hz ⊢;exact hz.1)
  |_=>simp only[ext,Value.cells,Reps] at hz ⊢;exact hz.1
 ·exact h.elim
theorem aGv(hT:dM E T)(hD:Den E ρ nx fs hp PS A H0 l)(hR:RiOk G ri PS L0 nx A H0){ta:TY}{s s':SV}{u u':Value}{ok:Bool}{K:SP}(h:aCi T ri i ta s s' ok hp K)(hx:Rep ρ A H0 s u)(hy:Rep ρ A H0 s' u'):
 ∃s2 v,K s2/\Rep ρ A H0 s2 v/\((∀H,HS G.S (qH G H0) G.A0 (qA G A) (qL G (flt PS++L0)) H->fJ E ta u u' ok H=some v)\/(fK (bef G.ops) G.ms i=true/\∀H,HS G.S H0 G.A0 A (flt PS++L0) H->fJ E ta u u' ok H=some v)):=by
 unfold aCi at h;split at h
 ·rename_i id k z;split at h
  ·rename_i kk vk ag m hg;obtain⟨kt,et,k',te,zv,u1,u2,u3,u4,u5,hq⟩:=xR hT h;clear h;cases e1:kEq k kk with
   |false=>rw[e1] at hq;exact hq.elim
   |true=>
    cases e2:kEq k k' with
    |false=>rw[e1,e2] at hq;exact hq.elim
    |true=>
     cases e3:kdsEq vk te.ks with
     |false=>rw[e1,e2,e3] at hq;exact hq.elim
     |true=>
      cases e4:(bif ag then te.agg else not te.agg) with
      |false=>rw[e1,e2,e3,e4] at hq;exact hq.elim
      |true=>
       rw[e1,e2,e3,e4] at hq;simp only[QT] at hq;have e1:=gG e1;have e2:=gG e2;subst e1;subst e2;have eag:te.agg=ag:=by cases ag<;>cases hq:te.agg<;>simp_all
       obtain⟨La,X,Y,qs,⟨N,es,cl,r1,r2,r3⟩,_⟩:=hD.hp.get hg;subst r2;simp only[Rep] at hx hy;rw[hx] at r1;cases r1;obtain⟨rfl,_⟩:=hy;have q:=r3.2 z;cases em:m z with
       |some c=>
        rw[em] at q;obtain⟨j,v,b,q1,q2,q3⟩:=q
        obtain⟨hh,hl⟩:=hR.ldG (Pl:=fun H=>fJ E ta (.map (some (2*N+1))) (.int k z) ok H=some (match ok with
         |true=>.tuple ⟨[v,.bool true]⟩
         |false=>v)) hq qs (List.mem_cons_self ..) (fun {S H0 A0 A L} hm H hH=>by
          have ze:=(hH.own _ hm).1;simp only at ze;simp only[fJ,u1,u2,u3,dV,decide_true,QT,show Nat.beq ((2*N+1)%2) 0=false from eL N,QF,show(2*N+1) / 2=N by omega,ze,uN r3.1 q1 q2];cases ok<;>rfl)
        obtain⟨s,k1,k2⟩:=aXu (ρ:=ρ) (hh.1 c em) (v:=v) (by unfold aAc;exact q3);refine⟨_,_,k1,?_,hl⟩;cases ok with
        |true=>simp only[Rep];refine⟨_,rfl,?_⟩;simp only[Reps];exact⟨k2,by simp only[Rep],trivial⟩
        |false=>exact k2
       |none=>
        rw[em] at q
        obtain⟨hh,hl⟩:=hR.ldG (Pl:=fun H=>fJ E ta (.map (some (2*N+1))) (.int k z) ok H=some (match ok with
         |true=>.tuple ⟨[ext zv,.bool false]⟩
         |false=>ext zv)) hq qs (List.mem_cons_self ..) (fun {S H0 A0 A L} hm H hH=>by
          have ze:=(hH.own _ hm).1;simp only at ze;simp only[fJ,u1,u2,u3,dV,decide_true,QT,show Nat.beq ((2*N+1)%2) 0=false from eL N,QF,show(2*N+1) / 2=N by omega,ze,xG r3.1 q];cases ok<;>rfl)
        obtain⟨s,k1,k2⟩:=bBb (ρ:=ρ) (hh.2 em) (u4 ρ A H0) (by rw[<-eag];exact u5);refine⟨_,_,k1,?_,hl⟩;cases ok with
        |true=>simp only[Rep];refine⟨_,rfl,?_⟩;simp only[Reps];exact⟨k2,by simp only[Rep],trivial⟩
        |false=>exact k2
  ·exact h.elim
 ·exact h.elim
theorem aUi{ta:TY}{ok:Bool}{L:OL}{m k v:Value}(hw:gok G.ops l gd=true)(qd:Nat.ble (d+1) n=true)(hx:opv l x=some m)(hy:opv l y=some k)(hl:(∀H,HS G.S (qH G H0) G.A0 (qA G A) (qL G L) H->fJ E ta m k ok H=some v)\/(fK (bef G.ops) G.ms i=true/\∀H,HS G.S H0 G.A0 A L H->fJ E ta m k ok H=some v))
 (h:SO E G (i+1) r Q (fr n t ((d,v)::l)) H0 A L):SO E G i (⟨some d,.lookup ta x y ok,ty,ps,af,gd⟩::r) Q (fr n t l) H0 A L:=by
 rcases hl with hl|⟨ho,hl⟩
 ·exact aNt hw qd hx hy hl h
 ·exact yO rfl hw rfl qd ho (fun H hH=>by simp only[aop,aI hx,aI hy,rD,aEj (hl H hH),aQ]) h
theorem aUf{ta:TY}{L:OL}(hw:gok G.ops l gd=true)(qd:Nat.ble (d+1) n=true)(hm:G.D=true->i∈G.ms)(h:∀N,SO E G (i+1) r Q (fr n t ((d,.map (some (2*N+1)))::l)) H0 A ((N,.map [] 0)::L)):SO E G i (⟨some d,.makeMap ta none,ty,ps,af,gd⟩::r) Q (fr n t l) H0 A L:=
 dS hw rfl qd hm fun hD H hH=>⟨_,_,H0,A,(H.nx,.map [] 0)::L,.inl (by simp only[aop,rO]),hH.push _,hD.push _,h H.nx⟩
theorem aVk(hT:dM E T)(hD:Den E ρ nx fs hp PS A H0 l)(hR:RiOk G ri PS L0 nx A H0){ta:TY}{sm sk sv:SV}{um uk uv:Value}{K:HP->Prop}(h:aUj T ri ta sm sk sv hp K)(hx:Rep ρ A H0 sm um)(hy:Rep ρ A H0 sk uk)(hz:Rep ρ A H0 sv uv)
 (hw:gok G.ops l gd=true)(hm:G.D=true->i∈G.ms)(ex:opv l x=some um)(ey:opv l y=some uk)(ez:opv l z=some uv)
 (hK:∀qc PS',K qc->Den E ρ nx fs qc PS' A H0 l->RiOk G ri PS' L0 nx A H0->SO E G (i+1) r Q (fr n t l) H0 A (flt PS'++L0)):SO E G i (⟨none,.mapUpdate ta x y z,ty,ps,af,gd⟩::r) Q (fr n t l) H0 A (flt PS++L0):=by
 unfold aUj at h;split at h
 ·rename_i id k zz;split at h
  ·rename_i kk vk ag m hg;obtain⟨kt,et,k',te,zv,u1,u2,u3,u4,u5,hq⟩:=xR hT h;clear h;cases e1:kEq k kk with
   |false=>rw[e1] at hq;exact hq.elim
   |true=>
    cases e2:kEq k k' with
    |false=>rw[e1,e2] at hq;exact hq.elim
    |true=>
     cases e3:kdsEq vk te.ks with
     |false=>rw[e1,e2,e3] at hq;exact hq.elim
     |true=>
      rw[e1,e2,e3] at hq;simp only[QT] at hq;have e1:=gG e1;have e2:=gG e2;subst e1;subst e2;obtain⟨uf,h⟩:=hR.ns hq;obtain⟨La,X,Y,qs,⟨N,es,cl,r1,r2,r3⟩,_,xt,_⟩:=hD.hp.get hg;subst r2;simp only[Rep] at hx hy;rw[hx] at r1;cases r1;obtain⟨rfl,_⟩:=hy;have fin:∀{c:CL},aAc A H0 vk ag uv c->(∀m',m'=wP m zz c->kP id (.oth (.mp k vk ag m')) hp K)->SO E G i (⟨none,.mapUpdate ta x y z,ty,ps,af,gd⟩::r) Q (fr n t l) H0 A (flt PS++L0):=by
       intro c hv hh;obtain⟨es',cl',f1,f2⟩:=MpOk.put (z:=zz) (cl:=cl) r3 hv;obtain⟨qc,k1,k2⟩:=xt _ _ (hh _ rfl);have sp:Den E ρ nx fs qc (X++(id,[(N,.map es' cl')])::Y) A H0 l:=⟨hD.no,hD.one,hD.fr,k2 (RMle.refl _) (Gr.refl _ _) ⟨N,es',cl',hx,rfl,f2⟩⟩;subst qs;have km:=hR.put (L':=[(N,.map es' cl')]) uf;refine aNh (L':=flt (X++(id,[(N,.map es' cl')])::Y)++L0) hw hm ex ey ez u1 u2 (by simp[dV]) ?_ f1 (fun za=>km.sub za) (hK _ _ k1 sp km);rw[cW,cW];exact Upd.split _ _
      split at h
      ·rename_i cl0 l1 yj;simp only[Rep] at hz;obtain⟨vs,rfl,hr⟩:=hz;simp only[dF,Option.some.injEq] at yj;subst yj;obtain⟨ss,k1,_,_,k4⟩:=oH h hr;exact fin (c:=ss.map cSV) (by unfold aAc;exact⟨vs,rfl,k4⟩) k1
      ·exact h.elim
      ·rename_i cl0 qn yj;obtain⟨ro,oo⟩:=Rep.one hD.one hz yj;obtain⟨ss,k1,_,_,k4⟩:=oH h ro;have ho:uv.oneCell'=true:=by
        split at oo
        ·exact absurd rfl (qn _)
        ·exact oo
       refine fin (c:=ss.map cSV) ?_ k1;rw[oM ho] at k4;unfold aAc;exact k4
      ·exact h.elim
  ·exact h.elim
 ·exact h.elim
end
end Go.AM
namespace Go.AM
open Go.RowKit
variable [σ:Sg]
variable {P:PG}{E:Env P}
def aW(E:Env P)(tb:TBs)(g:FuncId)(c:CtrI):Prop:=∀(S H0:AH) (A0 A:NQ) (L0:OL) (ρ:RM) (PS:PSs) (ss:SL) (vs:VL) (hl:HP) (nl:Nat),aMz S.w0.toWorld tb->
 (∀K:SL->HP->Nat->Prop,aLc c.ps [] 0 K->K ss hl nl)->(∀i,nl<=i->ρ i=none)->(∀i v,ρ i=some v->v.oneCell'=true)->Reps ρ A H0 ss vs->RepH E ρ A H0 hl PS->c.pre ss hl->
 ∀H,HS S H0 A0 A (flt PS++L0) H->XCall P g vs H fun u H'=>∃H1 A1 ρ' PS' ho rs us,Gr A H0 A1 H1/\HS S H1 A0 A1 (flt PS'++L0) H'/\
  (∀K:SL->HP->Prop,(yE (mS c.ps 0) (plc c.rs nl (jA (cA c.ps 0).2 hl)) fun ho=>aMr c.rs nl fun rs=>K rs ho)->K rs ho)/\(∀i,aM i (cA c.ps 0).1=true->∀v,ρ i=some v->ρ' i=some v)/\(∀i,nxR c.rs nl<=i->ρ' i=none)/\(∀i v,ρ' i=some v->v.oneCell'=true)/\
  Reps ρ' A1 H1 rs us/\RepH E ρ' A1 H1 ho PS'/\u=bK us/\c.post ss hl rs ho
def fC(E:Env P)(tb:TBs)(g:FuncId)(W:IW):Prop:=∀(fe:NL) (S H0:AH) (A0 A:NQ) (L0:OL) (ρ:RM) (PS:PSs) (ss:SL) (vs:VL) (hp:HP) (nx:Nat) (K:NL->SV->HP->Nat->Prop),aMz S.w0.toWorld tb->
 (∀i,nx<=i->ρ i=none)->(∀i v,ρ i=some v->v.oneCell'=true)->Reps ρ A H0 ss vs->RepH E ρ A H0 hp PS->W fe ss hp nx K->
 ∀H,HS S H0 A0 A (flt PS++L0) H->XCall P g vs H fun u H'=>∃H1 A1 ρ' PS' fx s qc nx',Gr A H0 A1 H1/\HS S H1 A0 A1 (flt PS'++L0) H'/\K fx s qc nx'/\FxR fx ρ ρ'/\(∀i,nx'<=i->ρ' i=none)/\(∀i v,ρ' i=some v->v.oneCell'=true)/\RepH E ρ' A1 H1 qc PS'/\Rep ρ' A1 H1 s u
def bGd [γ:Gam](E:Env P)(tb:TBs)(W:Nat->IW):Prop:=∀(fe:NL) (S H0:AH) (A0 A:NQ) (L0:OL) (ρ:RM) (PS:PSs) (ss:SL) (vs:VL) (hp:HP) (nx N:Nat) (K:NL->SV->HP->Nat->Prop),TbG S.w0.toWorld tb->
 (∀i,nx<=i->ρ i=none)->(∀i v,ρ i=some v->v.oneCell'=true)->Reps ρ A H0 ss vs->RepH E ρ A H0 hp PS->W N fe ss hp nx K->
 ∀H,HS S H0 A0 A (flt PS++L0) H->∃u H',(∃H1 A1 ρ' PS' fx s qc nx',Gr A H0 A1 H1/\HS S H1 A0 A1 (flt PS'++L0) H'/\K fx s qc nx'/\FxR fx ρ ρ'/\(∀i,nx'<=i->ρ' i=none)/\(∀i v,ρ' i=some v->v.oneCell'=true)/\RepH E ρ' A1 H1 qc PS'/\Rep ρ' A1 H1 s u)/\
  H'.w0=H.w0/\∀(o:Oper) (c:Call) (z:Operand) (f:Fr),o.op=.call c->c.callee=.value z->aN f z=.func (.yield (2*N+1)) ⟨[]⟩ ⟨[]⟩->c.args.toList.map (aN f)=vs->AYield P o f H u H'
section
variable {ρ ρ':RM}{A A':NQ}{H H':AH}{fx:NL}
theorem tD:∀{a b:NL},wK a b=true->∀i,aM i a=true->aM i b=true
 |[],b,_,i,h=>by cases h
 |j::r,b,h,i,hi=>by
  simp only[wK] at h;cases e:aM j b with
  |false=>rw[e] at h;cases h
  |true=>
   rw[e,QT] at h;simp only[aM] at hi;cases e2:Nat.beq j i with
   |true=>rw[<-QN e2];exact e
   |false=>rw[e2,QF] at hi;exact tD h i hi
mutual
theorem aQe(hx:FxR fx ρ ρ'):∀{s:SV} {v:Value},okS fx s=true->Rep ρ A H s v->Rep ρ' A H s v
 |.ow i,v,hb,h=>by simp only[Rep,okS] at h hb ⊢;exact hx i hb _ h
 |.ptr i o,v,hb,h=>by simp only[Rep,okS] at h hb ⊢;obtain⟨N,h1,h2⟩:=h;exact⟨N,hx i hb _ h1,h2⟩
 |.op i j o m,v,hb,h=>by simp only[Rep,okS] at h hb ⊢;obtain⟨M,n,c,h1,h2⟩:=h;exact⟨M,n,c,hx i hb _ h1,h2⟩
 |.agg l,v,hb,h=>by simp only[Rep,okS] at h hb ⊢;obtain⟨vs,h1,h2⟩:=h;exact⟨vs,h1,okL_ok hx hb h2⟩
 |.tup l,v,hb,h=>by simp only[Rep,okS] at h hb ⊢;obtain⟨vs,h1,h2⟩:=h;exact⟨vs,h1,okL_ok hx hb h2⟩
 |.fn g l,v,hb,h=>by simp only[Rep,okS] at h hb ⊢;obtain⟨vs,h1,h2⟩:=h;exact⟨vs,h1,okL_ok hx hb h2⟩
 |.undef,v,_,h=>by simpa only[Rep] using h
 |.int _ _,v,_,h=>by simpa only[Rep] using h
 |.bool _,v,_,h=>by simpa only[Rep] using h
 |.str _,v,_,h=>by simpa only[Rep] using h
 |.nil,v,_,h=>by simpa only[Rep] using h
 |.pnil,v,_,h=>by simpa only[Rep] using h
 |.row _ _ _,v,_,h=>by simpa only[Rep] using h
 |.el _ _ _,v,_,h=>by simpa only[Rep] using h
 |.gp _ _,v,_,h=>by simpa only[Rep] using h
 |.rng _ _,v,_,h=>by simpa only[Rep] using h
 |.any,v,_,h=>by simp only[Rep]
 |.yl _,v,_,h=>by simpa only[Rep] using h
 |.xp i o m,v,hb,h=>by simp only[Rep,okS] at h hb ⊢;obtain⟨N,k,h1,h2⟩:=h;exact⟨N,k,hx i hb _ h1,h2⟩
theorem okL_ok(hx:FxR fx ρ ρ'):∀{s:SL} {v:VL},okL fx s=true->Reps ρ A H s v->Reps ρ' A H s v
 |[],[],_,h=>by simp only[Reps]
 |s::t,v::vs,hb,h=>by
  simp only[Reps,okL] at h hb ⊢;cases e:okS fx s with
  |false=>rw[e] at hb;cases hb
  |true=>rw[e,QT] at hb;exact⟨aQe hx e h.1,okL_ok hx hb h.2⟩
 |[],_::_,_,h=>by simp only[Reps] at h
 |_::_,[],_,h=>by simp only[Reps] at h
end
theorem bEz(hx:FxR fx ρ ρ'){i:Nat}(hi:aM i fx=true){o:SJx}{L:OL}(hb:okX fx o=true)(h:RepS ρ A H i o L):RepS ρ' A H i o L:=by
 cases o with
 |wk b ks l=>obtain⟨x,h1,h2⟩:=h;exact⟨x,hx _ hi _ h1,h2⟩
 |ho b ks l j id=>obtain⟨x,y,h1,h2,h3⟩:=h;exact⟨x,y,hx _ hi _ h1,hx _ hb _ h2,h3⟩
 |mp kk vk ag m=>obtain⟨N,es,cl,h1,h2,h3⟩:=h;exact⟨N,es,cl,hx _ hi _ h1,h2,h3⟩
 |vals us cs=>obtain⟨x,h1,h2,h3⟩:=h;exact⟨x,hx _ hi _ h1,h2,okL_ok hx hb h3⟩
 |bl t u=>obtain⟨N,M,h1,h2⟩:=h;exact⟨N,M,hx _ hi _ h1,h2⟩
 |vr cs=>obtain⟨M,vs,ex,h1,h2,h3⟩:=h;exact⟨M,vs,ex,hx _ hi _ h1,h2,okL_ok hx hb h3⟩
theorem bEx(hx:FxR fx ρ ρ'){i:Nat}(hi:aM i fx=true){o:SJ}{L:OL}(hb:okO fx o=true)(h:RepO E ρ A H i o L):RepO E ρ' A H i o L:=by
 cases o with
 |box t cs=>obtain⟨N,vs,h1,h2,h3⟩:=h;exact⟨N,vs,hx _ hi _ h1,h2,okL_ok hx hb h3⟩
 |row b ks l=>obtain⟨x,h1,h2⟩:=h;exact⟨x,hx _ hi _ h1,h2⟩
 |oth o=>exact bEz hx hi hb h
theorem aQn(hx:FxR fx ρ ρ'):∀{hp:HP} {PS:PSs},okH fx hp=true->RepH E ρ A H hp PS->RepH E ρ' A H hp PS
 |[],PS,_,h=>h
 |(i,o)::r,PS,hb,⟨L,PS',h1,h2,h3⟩=>by
  simp only[okH] at hb;cases e1:aM i fx with
  |false=>rw[e1] at hb;cases hb
  |true=>
   rw[e1,QT] at hb;cases e2:okO fx o with
   |false=>rw[e2] at hb;cases hb
   |true=>
    rw[e2,QT] at hb;exact⟨L,PS',h1,bEx hx e1 e2 h2,aQn hx hb h3⟩
def kpP(st:NL)(b:Bool):PSs->PSs
 |[]=>[]
 |(j,L)::r=>cond (cond b (aM j st) (!aM j st)) ((j,L)::kpP st b r) (kpP st b r)
theorem aDo{st:NL}{b:Bool}:∀{hp:HP} {PS:PSs} {K:HP->Prop},kpH st b hp K->RepH E ρ A H hp PS->∃qc,K qc/\RepH E ρ A H qc (kpP st b PS)
 |[],PS,K,h,hr=>by have hr:PS=[]:=hr;subst hr;exact⟨[],h,rfl⟩
 |(j,o)::r,PS,K,h,⟨L,PS',h1,h2,h3⟩=>by
  subst h1;rw[aUg] at h;simp only[kpP];cases e:(cond b (aM j st) (!aM j st)) with
  |true=>
   rw[e,QT] at h;obtain⟨qc,k1,k2⟩:=aDo h h3;exact⟨_,k1,L,_,rfl,h2,k2⟩
  |false=>
   rw[e,QF] at h;exact aDo h h3
theorem wZ{st:NL}:∀PS:PSs,(flt (kpP st false PS)++flt (kpP st true PS)).Perm (flt PS)
 |[]=>List.Perm.refl _
 |(j,L)::r=>by
  simp only[kpP];cases e:aM j st with
  |true=>
   simp only[Bool.not_true,QT,QF,flt];refine(show(flt (kpP st false r)++(L++flt (kpP st true r))).Perm (L++(flt (kpP st false r)++flt (kpP st true r))) from ?_).trans (List.Perm.append_left L (wZ r));rw[<-QA,<-QA];exact List.Perm.append_right _ List.perm_append_comm
  |false=>
   simp only[Bool.not_false,QT,QF,flt,QA];exact List.Perm.append_left L (wZ r)
theorem xV{st:NL}:∀PS:PSs,flt (kpP st true PS)=gE st PS
 |[]=>rfl
 |(j,L)::r=>by
  simp only[kpP,gE];cases e:aM j st with
  |true=>simp only[QT,flt,xV r]
  |false=>simp only[QF,QT,xV r]
theorem aCj{st:NL}:∀PS:PSs,gE st (kpP st true PS)=gE st PS
 |[]=>rfl
 |(j,L)::r=>by
  simp only[kpP,gE];cases e:aM j st with
  |true=>simp only[QT,gE,e,aCj r]
  |false=>simp only[QF,QT,aCj r]
theorem aWh:∀{hp hq:HP} {PS QS:PSs} {K:HP->Prop},apH hp hq K->RepH E ρ A H hp PS->RepH E ρ A H hq QS->∃qc,K qc/\RepH E ρ A H qc (PS++QS)
 |[],hq,PS,QS,K,h,hr,hs=>by have hr:PS=[]:=hr;subst hr;exact⟨hq,h,hs⟩
 |(j,o)::r,hq,PS,QS,K,h,⟨L,PS',h1,h2,h3⟩,hs=>by
  subst h1;rw[aQj] at h;obtain⟨qc,k1,k2⟩:=aWh h h3 hs;exact⟨_,k1,L,_,rfl,h2,k2⟩
theorem aAf{st:NL}:∀{hp:HP} {PS:PSs},aOg (mU hp) st=true->RepH E ρ A H hp PS->gE st PS=[]
 |[],PS,_,h=>by have h:PS=[]:=h;subst h;rfl
 |(j,o)::r,PS,hd,⟨L,PS',h1,h2,h3⟩=>by
  subst h1;simp only[mU,aOg] at hd;cases e:aM j st with
  |true=>rw[e] at hd;cases hd
  |false=>
   rw[e,QF] at hd;simp only[gE,e,QF];exact aAf hd h3
theorem wW(hx:FxR fx ρ ρ'):∀{f:FR} {l:LV} {K:FR->Prop},kpF fx f K->RepF ρ A H f l->∃f',K f'/\RepF ρ' A H f' l
 |[],l,K,h,hr=>⟨[],h,hr⟩
 |(j,s)::r,l,K,h,⟨v,l',h1,h2,h3⟩=>by
  subst h1;rw[aUu] at h;cases e:okS fx s with
  |true=>
   rw[e,QT] at h;obtain⟨f',k1,k2⟩:=wW hx h h3;exact⟨_,k1,_,_,rfl,aQe hx e h2,k2⟩
  |false=>
   rw[e,QF] at h;obtain⟨f',k1,k2⟩:=wW hx h h3;exact⟨_,k1,_,_,rfl,by simp only[Rep],k2⟩
end
theorem aLp{La Y Z:OL}:(La++(Y++Z)).Perm (Y++(La++Z)):=by
 rw[<-QA,<-QA];exact List.Perm.append_right _ List.perm_append_comm
structure MI (E:Env P) (ρc:RM) (A:NQ) (H0:AH) (ri:RI) (Dm:Prop) (PS0:PSs) (X:OL) (ρk:RM) (hp:HP) (nx:Nat) (th:TH) (hc:HP) (PSk PSc:PSs):Prop where
 no:∀i,nx<=i->ρk i=none
 one:∀i v,ρk i=some v->v.oneCell'=true
 hk:RepH E ρk A H0 hp PSk
 hr:RepH E ρc A H0 hc PSc
 pm:(X++(flt PSk++flt PSc)).Perm (flt PS0)
 lw:Dm->gE ri.st PSc=gE ri.st PS0
 tt:∀i,yJ i th=true->∃v,ρk i=some v/\ρc (rnT i th)=some v
 ns:Dm->∀i,yJ i th=true->aM (rnT i th) ri.st=false
section
variable {ρc ρk:RM}{A:NQ}{H0:AH}{ri:RI}{G:RG}{PS0 PSk PSc:PSs}{X:OL}{hp hc:HP}{nx:Nat}{th:TH}
theorem aUm(hd:ri.D=G.D){id:Nat}{K:Prop}(k:wns ri id K):(G.D=true->aM id ri.st=false)/\K:=by
 unfold wns at k;rw[hd] at k;cases hD:G.D with
 |false=>rw[hD,QF] at k;exact⟨(fun h=>by cases h),k⟩
 |true=>
  rw[hD,QT] at k;cases hm:aM id ri.st with
  |true=>rw[hm,QT] at k;exact k.elim
  |false=>rw[hm,QF] at k;exact⟨fun _=>rfl,k⟩
theorem aAl{a b i:Nat}{th:TH}:yJ i ((a,b)::th)=cond (Nat.beq a i) true (yJ i th):=rfl
theorem aEp{a b i:Nat}{th:TH}:rnT i ((a,b)::th)=cond (Nat.beq a i) b (rnT i th):=rfl
theorem MI.take{j:Nat}{La:OL}{U V:PSs}{yf:HP}{x:Value}(h:MI E ρc A H0 ri (G.D=true) PS0 X ρk hp nx th hc PSk PSc)(qs:PSc=U++(j,La)::V)(hh:RepH E ρc A H0 yf (U++V))(hx:ρc j=some x)(zw:x.oneCell'=true)(uf:G.D=true->aM j ri.st=false):
 MI E ρc A H0 ri (G.D=true) PS0 (La++X) (mV ρk nx x) hp (nx+1) ((nx,j)::th) yf PSk (U++V)/\RMle ρk (mV ρk nx x):=by
 have qf:=gV (x:=x) (h.no nx (Nat.le_refl _));subst qs;refine⟨⟨fun i hi=>?_,fun i v e=>?_,RepH.mono qf (Gr.refl _ _) h.hk,hh,?_,fun hD=>?_,fun i hi=>?_,fun hD i hi=>?_⟩,qf⟩
 ·unfold mV;rw[if_neg (by omega)];exact h.no i (by omega)
 ·unfold mV at e;by_cases hi:i=nx
  ·rw[if_pos hi] at e;cases e;exact zw
  ·rw[if_neg hi] at e;exact h.one i v e
 ·have:=h.pm;rw[bH] at this ⊢;simp only[flt] at this;refine List.Perm.trans ?_ this;simpa only[QA] using aLp (La:=La) (Y:=X++(flt PSk++flt U)) (Z:=flt V)
 ·have:=h.lw hD;simp only[iI,gE,uf hD,QF] at this ⊢;exact this
 ·rw[aAl] at hi;rw[aEp];cases e:Nat.beq nx i with
  |true=>
   have:=QN e;subst this;exact⟨x,if_pos rfl,hx⟩
  |false=>
   rw[e,QF] at hi;obtain⟨v,v1,v2⟩:=h.tt i hi;exact⟨v,qf _ _ v1,v2⟩
 ·rw[aAl] at hi;rw[aEp];cases e:Nat.beq nx i with
  |true=>exact uf hD
  |false=>rw[e,QF] at hi;exact h.ns hD i hi
theorem aCx:∀{is:NL} {K:SL->Prop},bEq is K=K (is.map fun i=>.ptr i 0)
 |[],K=>rfl
 |i::r,K=>(aCx (is:=r) (K:=fun r=>K (.ptr i 0::r))).trans rfl
theorem aWw{ρc ρk:RM}{A:NQ}{H0:AH}{th:TH}(ht:∀i,yJ i th=true->∃v,ρk i=some v/\ρc (rnT i th)=some v):∀{is:NL} {l:SL} {ws:VL},mtP th is l=true->Reps ρc A H0 l ws->Reps ρk A H0 (is.map fun i=>.ptr i 0) ws
 |[],[],[],_,h=>by simp only[List.map_nil,Reps]
 |[],[],_::_,_,h=>by simp only[Reps] at h
 |i::r,.ptr j 0::s,[],hb,h=>by simp only[Reps] at h
 |i::r,.ptr j 0::s,w::ws,hb,h=>by
  simp only[Reps,mtP] at h hb;cases e1:yJ i th with
  |false=>rw[e1] at hb;cases hb
  |true=>
   rw[e1,QT] at hb;cases e2:Nat.beq (rnT i th) j with
   |false=>rw[e2] at hb;cases hb
   |true=>
    rw[e2,QT] at hb;have e2:=QN e2;simp only[List.map_cons,Reps];refine⟨?_,aWw ht hb h.2⟩;have h1:=h.1;simp only[Rep] at h1 ⊢;obtain⟨N,n1,n2⟩:=h1;obtain⟨v,v1,v2⟩:=ht i e1;rw[e2,n1] at v2;cases v2;exact⟨N,v1,n2⟩
theorem aMb(hd:ri.D=G.D){c:CK}{v:SV}{w:Value}{K:SV->MK}(h:MI E ρc A H0 ri (G.D=true) PS0 X ρk hp nx th hc PSk PSc)(k:aYt ri c v hp nx th hc K)(hv:Rep ρc A H0 v w):
 ∃v' qc nx' th' yf ρk' PSk' PSc',K v' qc nx' th' yf/\MI E ρc A H0 ri (G.D=true) PS0 X ρk' qc nx' th' yf PSk' PSc'/\RMle ρk ρk'/\Rep ρk' A H0 v' w/\∀KK,bCd c hp nx KK->KK v' qc nx':=by
 unfold aYt at k;split at k
 ·rename_i kd;obtain⟨v',k1,k2,k3,_⟩:=aJr k hv;refine⟨v',hp,nx,th,hc,ρk,PSk,PSc,k1,h,RMle.refl _,vQ (p:=.sc kd) k2 k3,fun KK hK=>aSn (K:=fun v=>KK v hp nx) hK k2⟩
 ·rename_i b ks;simp only[Rep] at hv;subst hv;have qf:=gV (x:=.slice none 0 0) (h.no nx (Nat.le_refl _));refine⟨.ow nx,_,_,_,_,mV ρk nx (.slice none 0 0),(nx,[])::PSk,PSc,k,⟨fun i hi=>?_,fun i v e=>?_,⟨[],PSk,rfl,⟨_,if_pos rfl,OwS.nil⟩,RepH.mono qf (Gr.refl _ _) h.hk⟩,h.hr,by simpa only[flt,List.nil_append] using h.pm,h.lw,fun i hi=>?_,h.ns⟩,qf,by simp only[Rep];exact if_pos rfl,fun KK hK=>hK []⟩
  ·unfold mV;rw[if_neg (by omega)];exact h.no i (by omega)
  ·unfold mV at e;by_cases hi:i=nx
   ·rw[if_pos hi] at e;cases e;rfl
   ·rw[if_neg hi] at e;exact h.one i v e
  ·obtain⟨v,v1,v2⟩:=h.tt i hi;exact⟨v,qf _ _ v1,v2⟩
 ·rename_i b ks j;split at k
  ·rename_i b' ks' l hg;cases e1:Nat.beq b b' with
   |false=>rw[e1] at k;exact k.elim
   |true=>
    rw[e1,QT] at k;cases e2:kdsEq ks ks' with
    |false=>rw[e2] at k;exact k.elim
    |true=>
     rw[e2,QT] at k;have e1:=QN e1;have e2:=kdsEq_ok e2;subst e1;subst e2;obtain⟨uf,k⟩:=aUm hd k;obtain⟨La,U,V,qs,⟨x,r1,r2⟩,_,_,xd⟩:=h.hr.get hg;obtain⟨yf,k,hh⟩:=xd _ k;obtain⟨m,qf⟩:=h.take qs hh r1 r2.one' uf;simp only[Rep] at hv;rw[r1] at hv;cases hv;refine⟨.ow nx,_,_,_,_,_,(nx,La)::PSk,U++V,k,⟨m.no,m.one,⟨La,PSk,rfl,⟨_,if_pos rfl,r2⟩,m.hk⟩,m.hr,?_,m.lw,m.tt,m.ns⟩,qf,by simp only[Rep];exact if_pos rfl,fun KK hK=>hK l⟩;refine List.Perm.trans ?_ m.pm;simp only[flt];simpa only[QA] using (aLp (La:=La) (Y:=X) (Z:=flt PSk++flt (U++V))).symm
  ·exact k.elim
 ·rename_i g is g' l;cases e1:Nat.beq g g' with
  |false=>rw[e1] at k;exact k.elim
  |true=>
   rw[e1,QT] at k;cases e2:mtP th is l with
   |false=>rw[e2] at k;exact k.elim
   |true=>
    rw[e2,QT,aCx] at k;have e1:=QN e1;subst e1;simp only[Rep] at hv;obtain⟨ws,rfl,hv⟩:=hv;exact⟨_,hp,nx,th,hc,ρk,PSk,PSc,k,h,RMle.refl _,by simp only[Rep];exact⟨ws,rfl,aWw h.tt e2 hv⟩,fun KK hK=>(aCx (is:=is) (K:=fun l=>KK (.fn g l) hp nx))▸hK⟩
 ·exact k.elim
theorem xI(hd:ri.D=G.D):∀{cs:List CK} {vs:SL} {ws:VL} {hp hc:HP} {nx:Nat} {th:TH} {ρk:RM} {PSk PSc:PSs} {K:SL->MK},MI E ρc A H0 ri (G.D=true) PS0 X ρk hp nx th hc PSk PSc->aJz ri cs vs hp nx th hc K->Reps ρc A H0 vs ws->
 ∃vs' qc nx' th' yf ρk' PSk' PSc',K vs' qc nx' th' yf/\MI E ρc A H0 ri (G.D=true) PS0 X ρk' qc nx' th' yf PSk' PSc'/\RMle ρk ρk'/\Reps ρk' A H0 vs' ws/\∀KK,aCt cs hp nx KK->KK vs' qc nx'
 |[],[],[],hp,hc,nx,th,ρk,PSk,PSc,K,h,k,_=>⟨[],hp,nx,th,hc,ρk,PSk,PSc,k,h,RMle.refl _,by simp only[Reps],fun KK hK=>hK⟩
 |c::cs,v::vs,w::ws,hp,hc,nx,th,ρk,PSk,PSc,K,h,k,hv=>by
  simp only[Reps] at hv;obtain⟨v',ya,nx1,th1,pg,ρ1,Pk1,Pc1,k1,m1,l1,r1,g1⟩:=aMb hd (K:=fun v hp nx th hc=>aJz ri cs vs hp nx th hc fun vs hp nx th hc=>K (v::vs) hp nx th hc) h k hv.1;obtain⟨vs',zk,nx2,th2,x7,ρ2,Pk2,Pc2,k2,m2,l2,r2,g2⟩:=xI hd m1 k1 hv.2;exact⟨v'::vs',zk,nx2,th2,x7,ρ2,Pk2,Pc2,k2,m2,l1.trans l2,by simp only[Reps];exact⟨Rep.mono l2 (Gr.refl _ _) r1,r2⟩,fun KK hK=>g2 (fun vs hp nx=>KK (v'::vs) hp nx) (g1 (fun v hp nx=>aCt cs hp nx fun vs hp nx=>KK (v::vs) hp nx) hK)⟩
 |[],_::_,_,_,_,_,_,_,_,_,_,_,k,_=>(k:False).elim
 |_::_,[],_,_,_,_,_,_,_,_,_,_,k,_=>(k:False).elim
 |[],[],_::_,_,_,_,_,_,_,_,_,_,_,h=>by simp only[Reps] at h
 |_::_,_::_,[],_,_,_,_,_,_,_,_,_,_,h=>by simp only[Reps] at h
theorem aKr(hd:ri.D=G.D){t:TY}{cs:List CK}{v:SV}{w:Value}{K:SV->MK}(h:MI E ρc A H0 ri (G.D=true) PS0 X ρk hp nx th hc PSk PSc)(k:bAm ri t cs v hp nx th hc K)(hv:Rep ρc A H0 v w):
 ∃v' qc nx' th' yf ρk' PSk' PSc',K v' qc nx' th' yf/\MI E ρc A H0 ri (G.D=true) PS0 X ρk' qc nx' th' yf PSk' PSc'/\RMle ρk ρk'/\Rep ρk' A H0 v' w/\∀KK,aRi t cs hp nx KK->KK v' qc nx':=by
 unfold bAm at k;split at k
 ·rename_i j;split at k
  ·rename_i t' cells hg;cases e1:Nat.beq t t' with
   |false=>rw[e1] at k;exact k.elim
   |true=>
    rw[e1,QT] at k;have e1:=QN e1;subst e1;obtain⟨uf,k⟩:=aUm hd k;obtain⟨La,U,V,qs,⟨N,vs,r1,r2,r3⟩,_,_,xd⟩:=h.hr.get hg;obtain⟨yf,k,hh⟩:=xd _ k;obtain⟨m,qf⟩:=h.take qs hh r1 rfl uf;obtain⟨cells',zk,nx2,th2,x7,ρ2,Pk2,Pc2,k2,m2,l2,q2,g2⟩:=xI hd m k r3;have mq:ρ2 nx=some (.pointer (some ⟨2*N+1,0,none⟩)):=l2 _ _ (if_pos rfl);simp only[Rep] at hv;obtain⟨N',e2,rfl⟩:=hv;rw[r1] at e2;simp only[Option.some.injEq,Value.pointer.injEq,Addr.mk.injEq] at e2;have eN:N'=N:=by omega
    subst eN;refine⟨.ptr nx 0,_,_,_,_,ρ2,(nx,La)::Pk2,Pc2,k2,⟨m2.no,m2.one,⟨La,Pk2,rfl,⟨N',_,mq,r2,q2⟩,m2.hk⟩,m2.hr,?_,m2.lw,m2.tt,m2.ns⟩,qf.trans l2,by simp only[Rep];exact⟨N',mq,rfl⟩,fun KK hK=>g2 (fun cells hp nx'=>KK (.ptr nx 0) ((nx,.box t cells)::hp) nx') hK⟩;refine List.Perm.trans ?_ m2.pm;simp only[flt];simpa only[QA] using (aLp (La:=La) (Y:=X) (Z:=flt Pk2++flt Pc2)).symm
  ·exact k.elim
 ·exact k.elim
theorem aAu{ρ ρ':RM}{A:NQ}{H:AH}{lo hi:Int}:∀{n:Nat} {ws:VL},Reps ρ A H (iA n [.rng lo hi]) ws->Reps ρ' A H (iA n [.rng lo hi]) ws
 |0,[],_=>by simp only[iA,Reps]
 |0,_::_,h=>by simp only[iA,Reps] at h
 |n+1,[],h=>by simp only[iA,List.cons_append,List.nil_append,Reps] at h
 |n+1,w::ws,h=>by
  simp only[iA,List.cons_append,List.nil_append,Reps] at h ⊢;exact⟨by have h1:=h.1;simp only[Rep] at h1 ⊢;exact h1,aAu h.2⟩
theorem aQg(hd:ri.D=G.D){t:TY}{cs:List CK}{n:Nat}{v:SV}{w:Value}{K:SV->MK}(h:MI E ρc A H0 ri (G.D=true) PS0 X ρk hp nx th hc PSk PSc)(k:aTz ri t cs n v hp nx th hc K)(hv:Rep ρc A H0 v w):
 ∃v' qc nx' th' yf ρk' PSk' PSc',K v' qc nx' th' yf/\MI E ρc A H0 ri (G.D=true) PS0 X ρk' qc nx' th' yf PSk' PSc'/\RMle ρk ρk'/\Rep ρk' A H0 v' w/\∀KK,aVb t cs n hp nx KK->KK v' qc nx':=by
 unfold aTz at k;split at k
 ·rename_i j;split at k
  ·rename_i t' cells hg;cases e1:Nat.beq t t' with
   |false=>rw[e1] at k;exact k.elim
   |true=>
    rw[e1,QT] at k;have e1:=QN e1;subst e1;obtain⟨uf,k⟩:=aUm hd k;obtain⟨La,U,V,qs,⟨N,vs,r1,r2,r3⟩,_,_,xd⟩:=h.hr.get hg;obtain⟨yf,k,hh⟩:=xd _ k;split at k
    ·rename_i c1 lo hi rr ht ny;have ag:=k.h;have k:=k.t;rw[ag] at ny;have t1:=(oJ ht).1;have t2:=(sG ny).1;have rt:Reps ρc A H0 c1 (vs.take (aEl cs)):=by rw[t1];exact r3.take
     have rd:Reps ρc A H0 (iA n [.rng lo hi]) (vs.drop (aEl cs)):=by rw[t2];exact r3.drop
     obtain⟨m,qf⟩:=h.take qs hh r1 rfl uf;obtain⟨cells',zk,nx2,th2,x7,ρ2,Pk2,Pc2,k2,m2,l2,q2,g2⟩:=xI hd m k rt;have k2:=cF k2;have q3:Reps ρ2 A H0 (cells'++iA n [.rng lo hi]) vs:=by
      have:=q2.app (aAu (ρ':=ρ2) rd)
      rwa [List.take_append_drop] at this
     have mq:ρ2 nx=some (.pointer (some ⟨2*N+1,0,none⟩)):=l2 _ _ (if_pos rfl);simp only[Rep] at hv;obtain⟨N',e2,rfl⟩:=hv;rw[r1] at e2;simp only[Option.some.injEq,Value.pointer.injEq,Addr.mk.injEq] at e2;have eN:N'=N:=by omega
     subst eN;refine⟨.ptr nx 0,_,_,_,_,ρ2,(nx,La)::Pk2,Pc2,k2,⟨m2.no,m2.one,⟨La,Pk2,rfl,⟨N',_,mq,r2,q3⟩,m2.hk⟩,m2.hr,?_,m2.lw,m2.tt,m2.ns⟩,qf.trans l2,by simp only[Rep];exact⟨N',mq,rfl⟩,fun KK hK=>cF (g2 (fun cells hp nx'=>iM (cells++iA n [.rng lo hi]) fun cells=>KK (.ptr nx 0) ((nx,.box t cells)::hp) nx') (hK lo hi))⟩;refine List.Perm.trans ?_ m2.pm;simp only[flt];simpa only[QA] using (aLp (La:=La) (Y:=X) (Z:=flt Pk2++flt Pc2)).symm
    ·exact k.elim
  ·exact k.elim
 ·exact k.elim
theorem aGl(hd:ri.D=G.D):∀{bs:List (TypeId×List CK)} {vs:SL} {ws:VL} {hp hc:HP} {nx:Nat} {th:TH} {ρk:RM} {PSk PSc:PSs} {K:SL->MK},MI E ρc A H0 ri (G.D=true) PS0 X ρk hp nx th hc PSk PSc->aTq ri bs vs hp nx th hc K->Reps ρc A H0 vs ws->
 ∃vs' qc nx' th' yf ρk' PSk' PSc',K vs' qc nx' th' yf/\MI E ρc A H0 ri (G.D=true) PS0 X ρk' qc nx' th' yf PSk' PSc'/\RMle ρk ρk'/\Reps ρk' A H0 vs' ws/\∀KK,aHd bs hp nx KK->KK vs' qc nx'
 |[],[],[],hp,hc,nx,th,ρk,PSk,PSc,K,h,k,_=>⟨[],hp,nx,th,hc,ρk,PSk,PSc,k,h,RMle.refl _,by simp only[Reps],fun KK hK=>hK⟩
 |(t,cs)::bs,v::vs,w::ws,hp,hc,nx,th,ρk,PSk,PSc,K,h,k,hv=>by
  simp only[Reps] at hv;obtain⟨v',ya,nx1,th1,pg,ρ1,Pk1,Pc1,k1,m1,l1,r1,g1⟩:=aKr hd (K:=fun v hp nx th hc=>aTq ri bs vs hp nx th hc fun vs hp nx th hc=>K (v::vs) hp nx th hc) h k hv.1;obtain⟨vs',zk,nx2,th2,x7,ρ2,Pk2,Pc2,k2,m2,l2,r2,g2⟩:=aGl hd m1 k1 hv.2;exact⟨v'::vs',zk,nx2,th2,x7,ρ2,Pk2,Pc2,k2,m2,l1.trans l2,by simp only[Reps];exact⟨Rep.mono l2 (Gr.refl _ _) r1,r2⟩,fun KK hK=>g2 (fun vs hp nx=>KK (v'::vs) hp nx) (g1 (fun v hp nx=>aHd bs hp nx fun vs hp nx=>KK (v::vs) hp nx) hK)⟩
 |[],_::_,_,_,_,_,_,_,_,_,_,_,k,_=>(k:False).elim
 |_::_,[],_,_,_,_,_,_,_,_,_,_,k,_=>(k:False).elim
 |[],[],_::_,_,_,_,_,_,_,_,_,_,_,h=>by simp only[Reps] at h
 |_::_,_::_,[],_,_,_,_,_,_,_,_,_,_,h=>by simp only[Reps] at h
theorem bEp(hd:ri.D=G.D){p:PI}{v:SV}{w:Value}{K:SV->MK}(h:MI E ρc A H0 ri (G.D=true) PS0 X ρk hp nx th hc PSk PSc)(k:mtI ri p v hp nx th hc K)(hv:Rep ρc A H0 v w):
 ∃v' qc nx' th' yf ρk' PSk' PSc',K v' qc nx' th' yf/\MI E ρc A H0 ri (G.D=true) PS0 X ρk' qc nx' th' yf PSk' PSc'/\RMle ρk ρk'/\Rep ρk' A H0 v' w/\∀KK,genI p hp nx KK->KK v' qc nx':=by
 unfold mtI at k;split at k
 ·obtain⟨v',k1,k2,k3⟩:=aJb k hv;exact⟨v',hp,nx,th,hc,ρk,PSk,PSc,k1,h,RMle.refl _,vQ k2 k3,fun KK hK=>aBu (K:=fun v=>KK v hp nx) hK k2⟩
 ·exact aKr hd h k hv
 ·exact aQg hd h k hv
 ·exact aMb hd h k hv
 ·rename_i g bs g' vs;cases e1:Nat.beq g g' with
  |false=>rw[e1] at k;exact k.elim
  |true=>
   rw[e1,QT] at k;have e1:=QN e1;subst e1;simp only[Rep] at hv;obtain⟨ws,rfl,hv⟩:=hv;obtain⟨vs',zk,nx2,th2,x7,ρ2,Pk2,Pc2,k2,m2,l2,r2,g2⟩:=aGl hd h k hv;exact⟨.fn g vs',zk,nx2,th2,x7,ρ2,Pk2,Pc2,k2,m2,l2,by simp only[Rep];exact⟨ws,rfl,r2⟩,fun KK hK=>g2 (fun vs hp nx=>KK (.fn g vs) hp nx) hK⟩
 ·exact k.elim
theorem aLz(hd:ri.D=G.D):∀{ps:List PI} {vs:SL} {ws:VL} {hp hc:HP} {nx:Nat} {th:TH} {ρk:RM} {PSk PSc:PSs} {K:SL->MK},MI E ρc A H0 ri (G.D=true) PS0 X ρk hp nx th hc PSk PSc->bEv ri ps vs hp nx th hc K->Reps ρc A H0 vs ws->
 ∃vs' qc nx' th' yf ρk' PSk' PSc',K vs' qc nx' th' yf/\MI E ρc A H0 ri (G.D=true) PS0 X ρk' qc nx' th' yf PSk' PSc'/\RMle ρk ρk'/\Reps ρk' A H0 vs' ws/\∀KK,aLc ps hp nx KK->KK vs' qc nx'
 |[],[],[],hp,hc,nx,th,ρk,PSk,PSc,K,h,k,_=>⟨[],hp,nx,th,hc,ρk,PSk,PSc,k,h,RMle.refl _,by simp only[Reps],fun KK hK=>hK⟩
 |p::ps,v::vs,w::ws,hp,hc,nx,th,ρk,PSk,PSc,K,h,k,hv=>by
  simp only[Reps] at hv;obtain⟨v',ya,nx1,th1,pg,ρ1,Pk1,Pc1,k1,m1,l1,r1,g1⟩:=bEp hd (K:=fun v hp nx th hc=>bEv ri ps vs hp nx th hc fun vs hp nx th hc=>K (v::vs) hp nx th hc) h k hv.1;obtain⟨vs',zk,nx2,th2,x7,ρ2,Pk2,Pc2,k2,m2,l2,r2,g2⟩:=aLz hd m1 k1 hv.2;exact⟨v'::vs',zk,nx2,th2,x7,ρ2,Pk2,Pc2,k2,m2,l1.trans l2,by simp only[Reps];exact⟨Rep.mono l2 (Gr.refl _ _) r1,r2⟩,fun KK hK=>g2 (fun vs hp nx=>KK (v'::vs) hp nx) (g1 (fun v hp nx=>aLc ps hp nx fun vs hp nx=>KK (v::vs) hp nx) hK)⟩
 |[],_::_,_,_,_,_,_,_,_,_,_,_,k,_=>(k:False).elim
 |_::_,[],_,_,_,_,_,_,_,_,_,_,k,_=>(k:False).elim
 |[],[],_::_,_,_,_,_,_,_,_,_,_,_,h=>by simp only[Reps] at h
 |_::_,_::_,[],_,_,_,_,_,_,_,_,_,_,h=>by simp only[Reps] at h
end
end Go.AM
