/-
  An abstract machine that runs a program of the given form, and its soundness, part 7.
-/
import Derived.Test.YtlikijmihbgloaaGreatDoorAb6
import Derived.LaidByTextLater
import Derived.JoinedOf
import Derived.Laws.BitsLemmas
set_option linter.unusedVariables false
set_option linter.unusedSimpArgs false
set_option linter.unusedSectionVars false
noncomputable section
namespace Go.AM
open Go.RowKit
variable [σ:Sg]
section
variable {P:PG}(E:Env P)
theorem aMi{t:TY}{len:Nat}{ps:Array (Nat×Operand)}{o:Oper}(qi:o.op=.buildSlice t len ps){ρ:Operand->Value}{H H':AH}{v:Value}(h:dW E t len (ps.toList.map fun x=>(x.1,ρ x.2)) H=some (v,H')):
 ∃ob,v=mkV (some len) (2*H.nx+1)/\H'=dI H ob/\wN P o ρ (some len) ob:=by
 unfold dW at h;split at h
 ·rename_i e hu;split at h
  ·rename_i i hi;cases hb:(Nat.ble (len*i.size) 16777216&&!(Nat.beq i.size 0)) with
   |false=>rw[hb] at h;cases h
   |true=>
    rw[hb,QT] at h;simp only[QB] at hb;have qf:=QL hb.1;split at h
    ·rename_i z hz;split at h
     ·rename_i out hf;cases qe:Nat.beq out.length (len*i.size) with
      |false=>rw[qe] at h;cases h
      |true=>
       rw[qe,QT] at h;cases h;have zc:=QN qe;refine⟨_,rfl,rfl,fun ρ' w φ hρ=>?_⟩
       have hv:∀x∈ps.toList,∀ψ,φ <+: ψ->VR ψ (ρ x.2) (ρ' x.2):=fun x hx ψ hψ=>
        (hρ x.2 (by rw[qi];show x.2∈(ps.toList.map (·.2)).toArray;exact List.mem_toArray.2 (List.mem_map.2 ⟨x,hx,rfl⟩))).mono hψ
       have fy:∀(ψ:PL),φ <+: ψ->∀(i n:Nat) (v:Value) (n':Nat) (v':Value),(ps.toList.map fun x=>(x.1,ρ x.2))[i]?=some (n,v)->(ps.toList.map fun x=>(x.1,ρ' x.2))[i]?=some (n',v')->n=n'/\VR ψ v v':=by
        intro ψ hψ i n v n' v' h1 h2;rw[List.getElem?_map] at h1 h2;cases hl:ps.toList[i]? with
        |none=>rw[hl] at h1;simp at h1
        |some x=>
         rw[hl] at h1 h2;simp at h1 h2;obtain⟨rfl,rfl⟩:=h1;obtain⟨rfl,rfl⟩:=h2;exact⟨rfl,hv x (List.mem_of_getElem? hl) ψ hψ⟩
       obtain⟨out',h1,h2⟩:=nG _ _ _ _ _ out (VRs.ext φ (cT (if len*i.size=0 then #[] else z.cells) (len*i.size))) (by simp) (fy φ (List.prefix_refl _)) hf;have qv:∀ψ,φ <+: ψ->VRs ψ out out':=fun ψ hψ=>by
        obtain⟨out2,q1,q2⟩:=nG _ _ _ _ _ out (VRs.ext ψ (cT (if len*i.size=0 then #[] else z.cells) (len*i.size))) (by simp) (fy ψ hψ) hf;rw[h1] at q1;cases q1;exact q2
       refine⟨.cells out'.toArray e,out'.length,i.size,?_,fun n hn=>?_,fun ψ hψ=>?_⟩
       ·have f8:(ps.map fun(x:Nat×Operand)=>(x.1,ρ' x.2))=⟨ps.toList.map fun x=>(x.1,ρ' x.2)⟩:=by rw[<-Array.toList_inj];simp
        have qn:¬(16777216<len*i.size):=by omega
        simp only[cT,Array.toArray_toList] at h1;have run:(Instr.buildSlice t len ⟨ps.toList.map fun x=>(x.1,ρ' x.2)⟩).run P w=.ok (.slice (some ⟨w.heap.size,0,none⟩) len len) (w.alloc (.cells out'.toArray e)):=by
         by_cases wy:len*i.size=0
         ·rw[if_pos wy] at h1;simp[Instr.buildSlice,aG E hu,aL E hi,wy,newRow] at h1 ⊢;simp[h1]
         ·rw[if_neg wy] at h1;simp[Instr.buildSlice,aG E hu,aL E hi,qn,wy,bD E hi hz,h1,newRow]
        simp only[execOp,qi,f8,Sem.run_bind,run,Result.andThen_ok,Sem.run_pure,mkV]
       ·cases hn;rw[<-(h2.1),zc,cC (E.sz_lt _ _ hi)];exact Nat.le_refl _
       ·have hc:=qv ψ hψ;refine⟨out'.toArray,e,0,0,rfl,fun k _=>by omega,by simp,⟨rfl,SzE.small (E.sz_lt _ _ hi),fun _=>rfl⟩,by simp[hc.1],fun _=>by simp[hc.1],?_⟩;rw[hc.1];simpa using hc
     ·cases h
    ·cases h
  ·cases h
 ·cases h
def tC(bs ms:NL):NL:=ms.filter fun j=>ms.any fun i=>Nat.blt i j&&!((bs.getD j 0).testBit i)
def vT(f:Fr)(o:Oper):Bool:=
 match o.op with
 |.alloc _=>o.dst.isSome
 |.buildSlice _ _ _=>o.dst.isSome
 |_=>false
def aHn(ops:OA)(L:List gF)(fl:NL):Bool:=fl.all fun i=>match ops[i]?,L[i]? with
 |some o,some s=>vT s.1 o
 |_,_=>false
def yT(n:Nat)(bs ms fl:NL):Bool:=
 ((List.range n).all fun k=>fl.contains k||fl.all fun i=>!((bs.getD k 0).testBit i)||ms.all fun j=>Nat.ble i j||(bs.getD k 0).testBit j)&&
 (fl.all fun i=>fl.all fun j=>!((bs.getD i 0).testBit j))
def wY(ops:OA)(L:List gF)(bs ms fl:NL):Bool:=jU bs fl ms&&(aHn ops L fl&&yT ops.size bs ms fl)
def iD(call:hB)(ops:OA)(f:Fr)(H:AH):Option (Fr×AH):=
 bif bY ops (bef ops) then
  (match iP E call ops ops.toList f H with
  |some (l,g,H')=>
   (match fH 0 l with
   |[]=>some (g,H')
   |m::r=>bif (dB (bef ops) (m::r)||wY ops l (bef ops) (m::r) (tC (bef ops) (m::r)))&&oN E ops (bef ops) (m::r) ((0,H)::mJ l H' (m::r)) 0 l then some (g,H') else none)
  |none=>none)
 else none
theorem yI(bs:NL):∀ms:NL,jU bs [] ms=dB bs ms
 |[]=>rfl
 |i::r=>by simp[jU,dB,yI bs r]
theorem aFv{ops:OA}{L:List gF}{ms:NL}(h:(dB (bef ops) ms||wY ops L (bef ops) ms (tC (bef ops) ms))=true):∃fl,(∀i∈fl,i∈ms)/\jU (bef ops) fl ms=true/\aHn ops L fl=true/\yT ops.size (bef ops) ms fl=true:=by
 rcases Bool.or_eq_true_iff.1 h with h|h
 ·exact⟨[],(fun i hi=>by cases hi),by rw[yI];exact h,rfl,by simp[yT]⟩
 ·simp only[wY,QB] at h;exact⟨_,fun i hi=>(List.mem_filter.1 hi).1,h.1,h.2.1,h.2.2⟩
theorem aJo{n:Nat}{bs ms fl:NL}(h:yT n bs ms fl=true):
 (∀k i j,k<n->k∉fl->i∈fl->j∈ms->j<i->(bs.getD k 0).testBit i=true->(bs.getD k 0).testBit j=true)/\(∀i j,i∈fl->j∈fl->(bs.getD i 0).testBit j=false):=by
 simp only[yT,QB,List.all_eq_true] at h;obtain⟨h2,h3⟩:=h;refine⟨fun k i j hk co hi hj yk hb=>?_,fun i j hi hj=>?_⟩
 ·have:=h2 k (List.mem_range.2 hk);simp only[Bool.or_eq_true,List.all_eq_true] at this;rcases this with q|q
  ·exact absurd (by simpa using q) co
  ·rcases q i hi with q|q
   ·rw[hb] at q;cases q
   ·rcases q j hj with q|q
    ·have:=QL q;omega
    ·exact q
 ·have:=h3 i hi j hj;simpa using this
theorem rC{call:hB}(qm:mM P call){ops:OA}{f g:Fr}{H K:AH}(h:iD E call ops f H=some (g,K)):∃F HH V M Fl,TraceF E ops F HH V M Fl/\(∀i,i<ops.size->(HH (i+1)).w0=(HH i).w0)/\F 0=f/\HH 0=H/\F ops.size=g/\HH ops.size=K:=by
 unfold iD at h;cases zg:bY ops (bef ops) with
 |false=>rw[zg] at h;cases h
 |true=>
  rw[zg,QT] at h;split at h
  ·rename_i L g' K' qp;obtain⟨qe,qr⟩:=aOs E _ _ _ _ _ _ qp;have hgK:g'=g/\K'=K:=by
    split at h
    ·cases h;exact⟨rfl,rfl⟩
    ·rcases aK h with h|h
     ·cases h;exact⟨rfl,rfl⟩
     ·cases h
   obtain⟨rfl,rfl⟩:=hgK;have zc:L.length=ops.size:=by rw[qe,Array.length_toList]
   let A:=L++[(g',K',undef,false)]
   let d:gF:=(g',K',undef,false)
   let F:=fun i=>(A.getD i d).1
   let HH:=fun i=>(A.getD i d).2.1
   let V:=fun i=>(A.getD i d).2.2.1
   let M:=fun i=>(A.getD i d).2.2.2
   have hA:∀i,i<ops.size->∃s,L[i]?=some s/\A.getD i d=s:=by
    intro i hi;refine⟨L[i]'(by omega),by simp[zc,hi],?_⟩;simp only[A,List.getD_eq_getElem?_getD];rw[List.getElem?_append_left (by omega)];simp[zc,hi]
   have o9:A.getD ops.size d=d:=by
    simp only[A,List.getD_eq_getElem?_getD];rw[List.getElem?_append_right (by omega)];simp[zc,d]
   have qq:∀i o,ops[i]?=some o->tQ E call ops o (F i) (HH i)=some (V i,HH (i+1),M i)/\(F i).put o.dst (V i)=some (F (i+1)):=by
    intro i o ho;obtain⟨s,h1,h2⟩:=hA i (alt_of_getElem? ho);obtain⟨s',q1,q2,q3⟩:=qr i o s (by simpa using ho) h1;have e:A.getD (i+1) d=s':=by simp only[A,List.getD_eq_getElem?_getD,q1,Option.getD_some]
    simp only[F,HH,V,M,h2,e];exact⟨q2,q3⟩
   have rc:∀i,i<ops.size->(M i=true↔i∈fH 0 L):=by
    intro i hi;obtain⟨s,h1,h2⟩:=hA i hi;rw[kG];simp only[M,h2];constructor
    ·intro hM;exact⟨i,s,h1,hM,by omega⟩
    ·rintro⟨j,s',h3,h4,h5⟩;obtain rfl:j=i:=by omega
     rw[h1] at h3;cases h3;exact h4
   have vf:F 0=f/\HH 0=H:=by
    by_cases hz:ops.size=0
    ·have tw:ops.toList=[]:=List.eq_nil_of_length_eq_zero (by rw[Array.length_toList];exact hz);rw[tw] at qp;simp[iP] at qp;obtain⟨rfl,rfl,rfl⟩:=qp;exact⟨rfl,rfl⟩
    ·cases j8:ops.toList with
     |nil=>have:ops.toList.length=0:=by rw[j8];rfl
           rw[Array.length_toList] at this;omega
     |cons o r=>
      rw[j8] at qp;simp only[iP] at qp;split at qp
      ·split at qp
       ·split at qp
        ·cases qp;exact⟨rfl,rfl⟩
        ·cases qp
       ·cases qp
      ·cases qp
   have still:∀i,i<ops.size->M i=false->HH (i+1)=HH i:=by
    intro i hi hM;have ho:ops[i]?=some ops[i]:=Array.getElem?_eq_getElem hi;rcases dE E (qq i _ ho).1 with⟨_,_,_,h4⟩|⟨_,_,h4,_⟩|⟨_,h4,_⟩|⟨_,h4,_⟩
    ·exact h4
    ·exact h4
    ·rw[hM] at h4;cases h4
    ·rw[hM] at h4;cases h4
   have w0s:∀i,i<ops.size->(HH (i+1)).w0=(HH i).w0:=by
    intro i hi;have ho:ops[i]?=some ops[i]:=Array.getElem?_eq_getElem hi;rcases dE E (qq i _ ho).1 with⟨_,_,_,h4⟩|⟨_,_,h4,_⟩|⟨_,_,h4⟩|⟨_,_,c,args,_,h4⟩
    ·rw[h4]
    ·rw[h4]
    ·exact lY E h4
    ·exact(qm _ _ _ _ _ h4).1
   have yn:∃fl,(∀i∈fl,i∈fH 0 L)/\jU (bef ops) fl (fH 0 L)=true/\aHn ops L fl=true/\yT ops.size (bef ops) (fH 0 L) fl=true:=by
    split at h
    ·rename_i tw;rw[tw];exact⟨[],(fun i hi=>by cases hi),rfl,rfl,by simp[yT]⟩
    ·rename_i m r j9;cases xz:((dB (bef ops) (m::r)||wY ops L (bef ops) (m::r) (tC (bef ops) (m::r)))&&oN E ops (bef ops) (m::r) ((0,H)::mJ L K' (m::r)) 0 L) with
     |false=>rw[xz] at h;cases h
     |true=>
      simp only[QB] at xz;rw[j9];exact aFv xz.1
   obtain⟨fl,cu,zh,ga,gb⟩:=yn;have tz:=aJo gb;have T:TraceF E ops F HH V M (fun i=>fl.contains i):=by
    refine⟨⟨zg,fun i o ho=>(qq i o ho).2⟩,fun i o ho z4=>?_,fun i o ho z4=>?_,still,fun i j ye hj yo zf=>?_,fun k i j hk hi hj cq z4 zf hb=>?_,fun i j hi hj z4 cr=>?_⟩
    ·have hi:=alt_of_getElem? ho;rcases dE E (qq i o ho).1 with⟨h1,h2,h3,h4⟩|⟨h1,h2,h3,h4,h5⟩|⟨h1,h2,h3⟩|⟨h1,h2,c,args,h3,h4⟩
     ·exact .inl ⟨h1,h2,h3⟩
     ·refine .inr (.inl ⟨h1,h2,h4,fun t ht hb ha=>?_⟩);cases hp:eO E o.op with
      |true=>exact sU E hp h5 (HH t)
      |false=>
       split at h
       ·-- no mains at all
        rename_i tw;have zy:∀j,j<ops.size->M j=false:=by
         intro j hj;cases zf:M j with
         |false=>rfl
         |true=>have:=(rc j hj).1 zf;rw[tw] at this;cases this
        have sa:∀k,k<=ops.size->HH k=HH 0:=by
         intro k
         induction k with
         |zero=>intro _;rfl
         |succ k ihk=>intro hk;rw[still k (by omega) (zy k (by omega))];exact ihk (by omega)
        rw[sa t ht,<-sa i (by omega)];exact h5
       ·rename_i m r j9;cases xz:((dB (bef ops) (m::r)||wY ops L (bef ops) (m::r) (tC (bef ops) (m::r)))&&oN E ops (bef ops) (m::r) ((0,H)::mJ L K' (m::r)) 0 L) with
        |false=>rw[xz] at h;cases h
        |true=>
         simp only[QB] at xz;obtain⟨s,mg,xg⟩:=hA i hi;have hF:F i=s.1:=by simp only[F,xg]
         have hV:V i=s.2.2.1:=by simp only[V,xg]
         have hM:M i=s.2.2.2:=by simp only[M,xg]
         have hq:=aHu E L 0 xz.2 i s o mg (by rw[Nat.zero_add];exact ho) (by rw[<-hM];exact h2) hp (by rw[<-hF];exact h1);rw[Nat.zero_add] at hq
         -- the heap at t is one of those that were tried
         have sb:∃t',t'<=t/\HH t'=HH t/\(t',HH t')∈((0,H)::mJ L K' (m::r))/\(∀j,j<ops.size->M j=true->j<t->j<t'):=by
          clear hb ha
          induction t with
          |zero=>exact⟨0,Nat.le_refl _,rfl,by rw[vf.2];exact List.mem_cons_self ..,fun j _ _ h=>h⟩
          |succ t iht=>
           cases uh:M t with
           |true=>
            refine⟨t+1,Nat.le_refl _,rfl,List.mem_cons_of_mem _ ?_,fun j _ _ h=>h⟩;have yc:=(rc t (by omega)).1 uh;rw[j9] at yc;have:=aGj (L:=L) (last:=K') yc;have e:HH (t+1)=(match L[t+1]? with|some s=>s.2.1|none=>K'):=by
             by_cases qj:t+1<ops.size
             ·obtain⟨s2,q1,q2⟩:=hA (t+1) qj;simp only[HH,q2,q1]
             ·have he:t+1=ops.size:=by omega
              have:L[t+1]?=none:=List.getElem?_eq_none (by omega);simp only[HH,he,o9,d];rw[<-he,this]
            rw[e];exact this
           |false=>
            obtain⟨t',r1,r2,r3,r4⟩:=iht (by omega);refine⟨t',by omega,by rw[r2,still t (by omega) uh],r3,fun j hj zf vw=>?_⟩;by_cases e:j=t
            ·subst e;rw[uh] at zf;cases zf
            ·exact r4 j hj zf (by omega)
         obtain⟨t',r1,r2,r3,r4⟩:=sb;have np:=hq _ r3;simp only[aBx,Bool.or_eq_true,List.any_eq_true,QB,Bool.not_eq_true'] at np;rcases np with⟨j,hj,mh,jk⟩|⟨j,hj,mh,qj⟩|sd
         ·exfalso;rw[<-j9] at hj;obtain⟨ii,ss,q1,q2,rfl⟩:=(kG L 0 j).1 hj;have uc:0+ii<ops.size:=by have:=lt_of_getElem? q1;omega
          have zf:=(rc _ uc).2 hj;have:=r4 _ uc zf (hb _ uc zf mh);have wi:Nat.blt (0+ii) t'=true:=by simp only[Nat.blt,Nat.ble_eq];omega
          rw[wi] at jk;cases jk
         ·exfalso;rw[<-j9] at hj;obtain⟨ii,ss,q1,q2,rfl⟩:=(kG L 0 j).1 hj;have uc:0+ii<ops.size:=by have:=lt_of_getElem? q1;omega
          have zf:=(rc _ uc).2 hj;have:=ha _ uc zf mh;simp only[Nat.blt,Nat.ble_eq] at qj;omega
         ·rw[<-r2];split at sd
          ·rename_i u K2 hu;have e1:=aRj sd;have e2:=mC E h4 hu;rw[hF,hV,hu,e1,e2]
          ·cases sd
     ·exact .inr (.inr (.inl ⟨h1,h2,h3⟩))
     ·exact .inr (.inr (.inr ⟨h1,h2,c,args,h3,(qm _ _ _ _ _ h4).2⟩))
    ·-- makers
     have yc:i∈fl:=by simpa using z4
     have hi:=alt_of_getElem? ho;have yo:M i=true:=(rc i hi).2 (cu i yc);obtain⟨s,mg,xg⟩:=hA i hi;have hF:F i=s.1:=by simp only[F,xg]
     have ui:vT (F i) o=true:=by
      have:=List.all_eq_true.1 ga i yc;simp only[ho,mg] at this;rw[hF];exact this
     rcases dE E (qq i o ho).1 with⟨_,_,h3,_⟩|⟨_,h3,_⟩|⟨h1,h2,h3⟩|⟨h1,h2,c,args,h3,_⟩
     ·rw[yo] at h3;cases h3
     ·rw[yo] at h3;cases h3
     ·unfold vT at ui;split at ui
      ·rename_i ty qi;obtain⟨d2,qg⟩:=Option.isSome_iff_exists.1 ui;rw[qi] at h3;simp only[aop,uK] at h3;split at h3
       ·rename_i ii v6;split at h3
        ·rename_i z hz;simp only[aGf,Option.some.injEq,Prod.mk.injEq] at h3;exact⟨yo,h1,d2,none,_,qg,h3.1.symm,h3.2.symm,aBc E v6 hz qi _⟩
        ·cases h3
       ·cases h3
      ·rename_i t n ps qi;obtain⟨d2,qg⟩:=Option.isSome_iff_exists.1 ui;rw[qi] at h3;simp only[aop] at h3;obtain⟨ob,q1,q2,q3⟩:=aMi E qi h3;exact⟨yo,h1,d2,some n,ob,qg,q1,q2,q3⟩
      ·cases ui
     ·unfold vT at ui;split at ui
      ·rename_i ty qi;rw[qi] at h3;simp only[bN] at h3;cases h3
      ·rename_i t n ps qi;rw[qi] at h3;simp only[bN] at h3;cases h3
      ·cases ui
    ·exact wT zh (yP L 0) i j ((rc i (by omega)).1 yo) ((rc j hj).1 zf) ye
    ·exact tz.1 k i j hk (by simpa using cq) (by simpa using z4) ((rc j (by omega)).1 zf) hj hb
    ·exact tz.2 i j (by simpa using z4) (by simpa using cr)
   exact⟨F,HH,V,M,fun i=>fl.contains i,T,w0s,vf.1,vf.2,by show(A.getD ops.size d).1=_;rw[o9],by show(A.getD ops.size d).2.1=_;rw[o9]⟩
  ·cases h
theorem aCp{call:hB}(qm:mM P call)(hm:P.follows .mixedOrders=true){ops:OA}{Q:AQ}{f g:Fr}{H K:AH}(hQ:Q .normal g K)(h:iD E call ops f H=some (g,K))(id:Nat):ACode P (.region id ops true) Q f H:=by
 obtain⟨F,HH,V,M,Fl,T,w0s,rfl,rfl,rfl,rfl⟩:=rC E qm h;exact T.region hm w0s hQ id
theorem sA{call:hB}(qm:mM P call){ops:OA}{f g:Fr}{H K:AH}(h:iD E call ops f H=some (g,K)):K.w0=H.w0:=by
 unfold iD at h;rcases aK h with h|h
 ·split at h
  ·rename_i L g' K' hr;split at h
   ·cases h;exact zX E qm _ _ _ _ _ _ hr
   ·rcases aK h with h|h
    ·cases h;exact zX E qm _ _ _ _ _ _ hr
    ·cases h
  ·cases h
 ·cases h
end
section
variable {P:PG}(E:Env P)
theorem oQ{ops:OA}{listed:Array Bool}{i:Nat}(h:i∈Region.ready .any ops listed):i<ops.size/\listed.getD i true=false:=by
 unfold Region.ready at h;rw[List.mem_filter] at h;obtain⟨h1,h2⟩:=h;simp only[QB,Bool.not_eq_true'] at h2;exact⟨List.mem_range.1 h1,h2.1⟩
theorem aDv{ops:OA}{listed:Array Bool}(zg:bY ops (bef ops)=true)(hs:listed.size=ops.size){i:Nat}(hi:i<ops.size)(hl:listed.getD i false=false):Region.ready .any ops listed≠[]:=by
 have key:∀n i,i<=n->i<ops.size->listed.getD i false=false->∃j,j∈Region.ready .any ops listed:=by
  intro n
  induction n using Nat.strongRecOn with
  |ind n ih=>
   intro i yc hi hl;by_cases y0:∃j,j<i/\listed.getD j false=false
   ·obtain⟨j,hj,hlj⟩:=y0;exact ih j (by omega) j (Nat.le_refl _) (by omega) hlj
   ·refine⟨i,?_⟩;unfold Region.ready;rw[List.mem_filter];refine⟨List.mem_range.2 hi,?_⟩;have ho:ops[i]?=some ops[i]:=Array.getElem?_eq_getElem hi;have qj:listed.getD i true=false:=by
     simp only[Array.getD_eq_getD_getElem?] at hl ⊢;rw[Array.getElem?_eq_getElem (by omega)] at hl ⊢;exact hl
    simp only[qj,ho,Option.map_some,Option.getD_some,Bool.not_false,Bool.true_and];rw[Array.all_eq_true'];intro e he;cases hb:Region.binds .any e with
    |false=>simp
    |true=>
     have cv:=dZ zg ho he hb;cases qf:listed.getD e.on false with
     |true=>simp
     |false=>exact absurd ⟨e.on,cv,qf⟩ y0
 obtain⟨j,hj⟩:=key i i (Nat.le_refl _) hi hl;intro h;rw[h] at hj;cases hj
theorem aMs{ops:OA}{listed:Array Bool}(hs:listed.size=ops.size)(h:∀i,i<ops.size->listed.getD i false=true):Region.ready .any ops listed=[]:=by
 rw[List.eq_nil_iff_forall_not_mem];intro i hi;obtain⟨h1,h2⟩:=oQ hi;have:=h i h1;simp only[Array.getD_eq_getD_getElem?] at this h2;rw[Array.getElem?_eq_getElem (by omega)] at this h2;simp at this h2;rw[this] at h2;cases h2
theorem kE{π:Pins}{ops:OA}{Q:Exit->Act->World->Prop}{i:Nat}{o:Oper}{K:Act->World->Prop}{f g:Fr}{H H':AH}{v:Value}{φ:PL}{a:Act}{w:World}(ho:ops[i]?=some o)(hg:o.guard=none)(qi:aop E (aN f) o.op H=some (v,H'))(hp:f.put o.dst v=some g)
 (hf:FRel φ f a)(hR:Rel φ H w)(next:∀φ' a' w',φ <+: φ'->FRel φ' g a'->Rel φ' H' w'->K a' w'):wpOp P ops Q i K a w:=by
 obtain⟨φ',v',w',h1,h2,h3,h4⟩:=aCh E hR (ρ:=aN f) (ρ':=a.eval) hf.eval qi;have x5:Region.wanted o (yielded ops a.tmps)=true:=by simp[Region.wanted,hg]
 have nx:K (a.put o.dst v') w':=next φ' _ w' h1 ((hf.mono h1).put h3 hp) h2
 unfold wpOp;simp only[ho,x5,if_true];left;unfold Oper.wp;rcases h4 with h4|⟨h4,rfl⟩
 ·rw[h4];exact nx
 ·rw[h4];exact nx
def aKp(P:PG)(ops:OA)(k m:Nat)(Q:Exit->Act->World->Prop):Exit->Act->World->Prop
 |.normal=>fun a w=>wpAny P .any ops Q m (Array.replicate k true++Array.replicate m false) a w
 |e=>Q e
theorem sL{l r:Array Bool}{i:Nat}(h:i<l.size):(l++r).getD i false=l.getD i false:=by
 simp only[Array.getD_eq_getD_getElem?,Array.getElem?_append_left h]
theorem aIa{l:Array Bool}{m i:Nat}(h:l.size<=i):(l++Array.replicate m false).getD i false=false:=by
 simp only[Array.getD_eq_getD_getElem?,Array.getElem?_append_right h,Array.getElem?_replicate];split<;>rfl
theorem zA{ops ops':OA}{k m:Nat}(zg:bY ops (bef ops)=true)(qu:ops.size=k+m)(xc:ops'.size=k)(qo:∀i,i<k->ops'[i]?=ops[i]?)(cw:∀i o,i<k->ops[i]?=some o->o.guard=none)
 (mi:∀i j,i<k->k<=j->j<ops.size->((bef ops).getD j 0).testBit i=true){Q:Exit->Act->World->Prop}:∀(fuel:Nat) (l:Array Bool) (a:Act) (w:World),l.size=k->dU ops (fun i=>(l++Array.replicate m false).getD i false)->l.toList.countP id+fuel=k->
 wpAny P .any ops' (aKp P ops k m Q) fuel l a w->wpAny P .any ops Q (fuel+m) (l++Array.replicate m false) a w:=by
 intro fuel
 induction fuel with
 |zero=>
  intro l a w hl hC cy h;have qv:l=Array.replicate k true:=by
   rw[<-Array.toList_inj];simp only[Array.toList_replicate];have qe:l.toList.length=k:=by rw[Array.length_toList];exact hl
   have h1:l.toList.countP id=l.toList.length:=by omega
   rw[List.countP_eq_length] at h1;rw[<-qe];exact List.eq_replicate_iff.2 ⟨rfl,fun b hb=>by simpa using h1 b hb⟩
  subst qv;have:=h.2;rw[Nat.zero_add];exact this
 |succ fuel ih=>
  intro l a w hl hC cy h;have y0:∃i,i<k/\l.getD i false=false:=by
   by_cases hx:∃i,i<k/\l.getD i false=false
   ·exact hx
   ·exfalso;have hc:l.toList.countP id=l.toList.length:=by
     rw[List.countP_eq_length];intro b hb;obtain⟨n,hn,rfl⟩:=List.mem_iff_getElem.1 hb;rw[Array.length_toList] at hn;cases nq:l[n] with
     |true=>simpa using nq
     |false=>exact absurd ⟨n,by omega,by simp[Array.getD_eq_getD_getElem?,hn,nq]⟩ hx
    rw[Array.length_toList] at hc;omega
  obtain⟨i0,hi0,ym⟩:=y0;have hLs:(l++Array.replicate m false).size=ops.size:=by simp[hl,qu]
  have qn:Region.ready .any ops (l++Array.replicate m false)≠[]:=aDv zg hLs (i:=i0) (by omega) (by rw[sL (by omega)];exact ym);rw[show fuel+1+m=(fuel+m)+1 by omega];refine⟨fun e=>absurd e qn,fun i hi=>?_⟩;have ki:i<k:=by
   rcases Nat.lt_or_ge i k with h|h
   ·exact h
   ·exfalso;have hS:=hZ hC hi;have:=dK (S:=fun j=>if j=i then true else(l++Array.replicate m false).getD j false) hS (mi i0 i hi0 h (oQ hi).1) (by simp);rw[if_neg (by omega),sL (by omega),ym] at this;cases this
  have ho:ops[i]?=some ops[i]:=Array.getElem?_eq_getElem (by omega);have ql:i∈Region.ready .any ops' l:=by
   unfold Region.ready at hi ⊢;rw[List.mem_filter] at hi ⊢;obtain⟨h1,h2⟩:=hi;refine⟨List.mem_range.2 (by omega),?_⟩;rw[qo i ki];simp only[ho,Option.map_some,Option.getD_some,QB,Bool.not_eq_true'] at h2 ⊢;refine⟨?_,?_⟩
   ·have:=h2.1;simp only[Array.getD_eq_getD_getElem?] at this ⊢;rw[Array.getElem?_append_left (by omega)] at this;exact this
   ·have h3:=h2.2;rw[Array.all_eq_true'] at h3 ⊢;intro e he;have h4:=h3 e he;cases hb:Region.binds .any e with
    |false=>simp
    |true=>
     rw[hb] at h4;have qj:=dZ zg ho he hb;rw[sL (by omega)] at h4;simpa using h4
  have qr:=h.2 i ql;have hg:=cw i _ ki ho;unfold wpOp at qr ⊢;rw[qo i ki,ho] at qr;rw[ho];simp only at qr ⊢;have ux:Region.wanted ops[i] (yielded ops' a.tmps)=true:=by simp[Region.wanted,hg]
  have vp:Region.wanted ops[i] (yielded ops a.tmps)=true:=by simp[Region.wanted,hg]
  simp only[ux,vp,if_true] at qr ⊢;have v5:(l++Array.replicate m false).setIfInBounds i true=l.setIfInBounds i true++Array.replicate m false:=by
   rw[Array.setIfInBounds_append_left (by omega)]
  have hgo:∀a w,wpAny P .any ops' (aKp P ops k m Q) fuel (l.setIfInBounds i true) a w->wpAny P .any ops Q (fuel+m) ((l++Array.replicate m false).setIfInBounds i true) a w:=by
   intro a w h;rw[v5];refine ih _ a w (by simp[hl]) ?_ ?_ h
   ·have:=hZ hC hi;intro q o hq hS e he hb;have hgl:∀j,(l.setIfInBounds i true++Array.replicate m false).getD j false=if j=i then true else(l++Array.replicate m false).getD j false:=fun j=>by
     rw[<-v5];exact jY (by simp[hl];omega)
    have vq:(l.setIfInBounds i true++Array.replicate m false).getD q false=true:=hS;show(l.setIfInBounds i true++Array.replicate m false).getD e.on false=true;rw[hgl] at vq ⊢;exact this q o hq vq e he hb
   ·have cz:l.getD i false=false:=by
     have:=(oQ ql).2;simp only[Array.getD_eq_getD_getElem?] at this ⊢;rw[Array.getElem?_eq_getElem (by omega)] at this ⊢;exact this
    have:(l.setIfInBounds i true).toList.countP id=l.toList.countP id+1:=by
     rw[Array.toList_setIfInBounds];have yc:i<l.toList.length:=by rw[Array.length_toList];omega
     have hlv:l.toList[i]=false:=by
      simp only[Array.getD_eq_getD_getElem?] at cz;rw[Array.getElem?_eq_getElem (by omega)] at cz;simpa using cz
     rw[List.countP_set yc];simp[hlv]
    omega
  refine qr.imp (fun hh=>Oper.wp_mono hgo ?_) (fun hh=>hh);exact hh
end
theorem yG{α:Type}{b:Bool}{x:α}{y:α}(h:(bif b then some x else none)=some y):b=true/\x=y:=by
 cases b with
 |true=>rw[QT] at h;exact⟨rfl,Option.some.inj h⟩
 |false=>cases h
def aVx:AObj->AObj->Bool
 |.cells a n x,.cells b m y=>zI a b&&(Nat.beq n m&&(x==y))
 |_,_=>false
theorem aRf{o o':AObj}(h:aVx o o'=true):o=o':=by
 unfold aVx at h;split at h
 ·simp only[QB,beq_iff_eq] at h;rw[rV h.1,QN h.2.1,h.2.2]
 ·cases h
def tO(H K:AH)(i:Nat):Bool:=match H.tr.get i,K.tr.get i with
 |some o,some o'=>aVx o o'
 |_,_=>false
theorem oW{H K:AH}{i:Nat}(h:tO H K i=true):H.tr.get i=K.tr.get i:=by
 unfold tO at h;split at h
 ·rename_i o o' h1 h2;rw[h1,h2,aRf h]
 ·cases h
def tgt(v:Value):Nat:=match v with
 |.pointer (some a)=>a.block / 2
 |_=>0
section
variable {P:PG}(E:Env P)
theorem fZ{ρ:Operand->Value}{t:TY}{x y:Operand}{H H':AH}{v:Value}(h:aop E ρ (.store t x y) H=some (v,H')):H'.w0=H.w0/\H'.nx=H.nx/\∀j,j≠tgt (ρ x)->H'.tr.get j=H.tr.get j:=by
 simp only[aop] at h;split at h
 ·rename_i a ha;split at h
  ·rename_i K hK;cases h;have key:∀{vs:VL} {K:AH},gP H a vs=some K->K.w0=H.w0/\K.nx=H.nx/\∀j,j≠a.block / 2->K.tr.get j=H.tr.get j:=by
    intro vs K hs;unfold gP at hs;rcases aK hs with hs|hs
    ·cases hs
    ·split at hs
     ·rcases aK hs with hs|hs
      ·cases hs;exact⟨rfl,rfl,fun j hj=>by simp only;rw[Tr.get_set_ne _ _ hj]⟩
      ·cases hs
     ·cases hs
   rw[show tgt (ρ x)=a.block / 2 by rw[ha];rfl];unfold jH at hK;split at hK
   ·rcases aK hK with hK|hK
    ·exact key hK
    ·cases hK
   ·cases hK
  ·cases h
 ·cases h
def tA(p:Oper)(t1:TY)(x1 y1:Operand)(t2:TY)(x2 y2:Operand)(f:Fr)(H:AH):Option (Fr×AH):=
 match aop E (aN f) p.op H with
 |some (v,_)=>(match f.put p.dst v with
  |some g=>(match aop E (aN g) (.store t1 x1 y1) H with
   |some (_,H1)=>(match aop E (aN g) (.store t2 x2 y2) H1,aop E (aN g) (.store t2 x2 y2) H,aop E (aN f) (.store t2 x2 y2) H with
    |some (_,K),some (_,H2),some (_,H3)=>(match aop E (aN g) (.store t1 x1 y1) H2,aop E (aN f) p.op H3,aop E (aN g) (.store t1 x1 y1) H3 with
     |some (_,K2),some (v3,_),some (_,K3)=>
      bif bX E p.op&&(veq v v3&&(Nat.beq (tgt (aN f x2)) (tgt (aN g x2))&&(tO K K2 (tgt (aN g x1))&&(tO K K2 (tgt (aN g x2))&&(tO K K3 (tgt (aN g x1))&&tO K K3 (tgt (aN g x2))))))) then some (g,K) else none
     |_,_,_=>none)
    |_,_,_=>none)
   |none=>none)
  |none=>none)
 |none=>none
theorem Rel.same{π:Pins}{φ:PL}{H K:AH}{w:World}(R:Rel φ K w)(h0:K.w0=H.w0)(hn:K.nx=H.nx)(hg:∀j,H.tr.get j=K.tr.get j):Rel φ H w:=
 ⟨by rw[<-h0];exact R.below,by rw[<-hn];exact R.len,fun i o h=>by rw[<-h0];exact R.obj i o (by rw[<-hg];exact h),fun i j o o' p q h1 h2=>R.inj i j o o' p q (by rw[<-hg];exact h1) (by rw[<-hg];exact h2),by rw[<-h0];exact R.pin,R.lt,R.ro' h0.symm (List.prefix_refl _) fun i _ h=>by rw[hg];exact h⟩
theorem aIr{ops:OA}{k:Nat}(zg:bY ops (bef ops)=true)(qu:ops.size=k+3){p s1 s2:Oper}(xr:ops[k]?=some p)(ya:ops[k+1]?=some s1)(zk:ops[k+2]?=some s2)(f9:p.guard=none)(mj:s1.guard=none)(vj:s2.guard=none)
 (ml:s1.dst=none)(qg:s2.dst=none){t1 t2:TY}{x1 y1 x2 y2:Operand}(kc:s1.op=.store t1 x1 y1)(jb:s2.op=.store t2 x2 y2)(uw:((bef ops).getD (k+1) 0).testBit k=true)
 {f g:Fr}{H K:AH}(h:tA E p t1 x1 y1 t2 x2 y2 f H=some (g,K)){Q:AQ}(hQ:Q .normal g K)(π:Pins)(φ0 φ:PL)(w0:Base)(hφ:φ0 <+: φ)(zo:H.w0=w0)(a:Act)(w:World)(hf:FRel φ f a)(hR:Rel φ H w):
 wpAny P .any ops (gY φ0 w0 Q) 3 (Array.replicate k true++Array.replicate 3 false) a w:=by
 unfold tA at h;split at h
 ·rename_i v Hp ep;split at h
  ·rename_i g' eg;split at h
   ·rename_i u1 H1 e1;split at h
    ·rename_i u2 K' u3 H2 u4 H3 e2 e3 e4;split at h
     ·rename_i u5 K2 v3 H4 u6 K3 e5 e6 e7;rcases yG h with⟨hc,h⟩;cases h;simp only[QB] at hc;obtain⟨hq,hv,ht,c1,c2,c3,c4⟩:=hc;have hHp:Hp=H:=mC E hq ep;have ba:H4=H3:=mC E hq e6;subst hHp;subst ba;obtain rfl:=aRj hv;have ht:=QN ht
      -- the heaps agree
      have a1:=fZ E e1;have a2:=fZ E e2;have a3:=fZ E e3;have a4:=fZ E e4;have a5:=fZ E e5;have a7:=fZ E e7;rw[ht] at a4;have k2:K2.w0=K.w0/\K2.nx=K.nx/\∀j,K.tr.get j=K2.tr.get j:=by
       refine⟨(a5.1.trans a3.1).trans (a2.1.trans a1.1).symm,(a5.2.1.trans a3.2.1).trans (a2.2.1.trans a1.2.1).symm,fun j=>?_⟩;by_cases j1:j=tgt (aN g x1)
       ·rw[j1];exact oW c1
       ·by_cases j2:j=tgt (aN g x2)
        ·rw[j2];exact oW c2
        ·rw[a2.2.2 j j2,a1.2.2 j j1,a5.2.2 j j1,a3.2.2 j j2]
      have k3:K3.w0=K.w0/\K3.nx=K.nx/\∀j,K.tr.get j=K3.tr.get j:=by
       refine⟨(a7.1.trans a4.1).trans (a2.1.trans a1.1).symm,(a7.2.1.trans a4.2.1).trans (a2.2.1.trans a1.2.1).symm,fun j=>?_⟩;by_cases j1:j=tgt (aN g x1)
       ·rw[j1];exact oW c3
       ·by_cases j2:j=tgt (aN g x2)
        ·rw[j2];exact oW c4
        ·rw[a2.2.2 j j2,a1.2.2 j j1,a7.2.2 j j1,a4.2.2 j j2]
      have hKw:K.w0=w0:=(a2.1.trans a1.1).trans zo
      -- which operations are listed
      have gL:∀j,j<k+3->(Array.replicate k true++Array.replicate 3 false).getD j false=decide (j<k):=by
       intro j hj;by_cases py:j<k
       ·rw[sL (by simpa using py)];simp[Array.getD_eq_getD_getElem?,py]
       ·rw[aIa (by simpa using Nat.le_of_not_lt py)];simp[py]
      have uj:(Array.replicate k true++Array.replicate 3 false).size=ops.size:=by simp[qu]
      generalize hL:(Array.replicate k true++Array.replicate 3 false:Array Bool)=L at gL uj;have hC:dU ops (fun i=>L.getD i false):=by
       intro i o ho hi e he hb;have qj:=alt_of_getElem? ho;have:=dZ zg ho he hb;simp only at hi ⊢;rw[gL i (by omega)] at hi;rw[gL e.on (by omega)];simp only[decide_eq_true_eq] at hi ⊢;omega
      have nof:∀{l:Array Bool} {i:Nat},l.size=ops.size->i∈Region.ready .any ops l->i<k+3/\l.getD i false=false:=by
       intro l i hl hi;obtain⟨q1,q2⟩:=oQ hi;refine⟨by omega,?_⟩;simp only[Array.getD_eq_getD_getElem?] at q2 ⊢;rw[Array.getElem?_eq_getElem (by omega)] at q2 ⊢;exact q2
      have gs:∀{l:Array Bool} {i j:Nat},l.size=ops.size->i<k+3->(l.setIfInBounds i true).getD j false=if j=i then true else l.getD j false:=fun hl hi=>jY (by omega)
      have cs:∀{l:Array Bool} {i:Nat},l.size=ops.size->dU ops (fun j=>l.getD j false)->i∈Region.ready .any ops l->dU ops (fun j=>(l.setIfInBounds i true).getD j false):=by
       intro l i hl yj hi q o hq hS e he hb;have ki:=(nof hl hi).1;simp only[gs hl ki] at hS ⊢;exact hZ yj hi q o hq hS e he hb
      have need:∀{l:Array Bool},l.size=ops.size->dU ops (fun j=>l.getD j false)->k+1∈Region.ready .any ops l->l.getD k false=true:=by
       intro l hl yj hi;have:=dK (S:=fun j=>if j=k+1 then true else l.getD j false) (hZ yj hi) uw (by simp);simpa using this
      have ne:∀{l:Array Bool} {i:Nat},l.size=ops.size->i<k+3->l.getD i false=false->Region.ready .any ops l≠[]:=fun hl hi hx=>aDv zg hl (by omega) hx;have fin:∀{l:Array Bool} {φ':PL} {a':Act} {w':World},l.size=ops.size->(∀j,j<k+3->l.getD j false=true)->φ <+: φ'->FRel φ' g a'->Rel φ' K w'->wpAny P .any ops (gY φ0 w0 Q) 0 l a' w':=
       fun hl qv p q r=>⟨aMs hl (fun i hi=>qv i (by omega)),_,g,K,hφ.trans p,q,r,hKw,hQ⟩
      have op1:∀{ρ:Operand->Value} {H:AH},aop E ρ s1.op H=aop E ρ (.store t1 x1 y1) H:=by intro ρ H;rw[kc]
      have op2:∀{ρ:Operand->Value} {H:AH},aop E ρ s2.op H=aop E ρ (.store t2 x2 y2) H:=by intro ρ H;rw[jb]
      have pd1:∀(f:Fr) (v:Value),f.put s1.dst v=some f:=fun f v=>by rw[ml];rfl
      have pd2:∀(f:Fr) (v:Value),f.put s2.dst v=some f:=fun f v=>by rw[qg];rfl
      refine⟨fun e=>absurd e (ne uj (i:=k) (by omega) (by rw[gL k (by omega)];simp)),fun i hi=>?_⟩;obtain⟨q1,q2⟩:=nof uj hi;rw[gL i q1] at q2;have ki:k<=i:=by simpa using q2
      have s1L:(L.setIfInBounds i true).size=ops.size:=by simp[uj]
      have C1:=cs uj hC hi;have g1:∀j,j<k+3->(L.setIfInBounds i true).getD j false=if j=i then true else decide (j<k):=fun j hj=>by rw[gs uj q1,gL j hj]
      rcases(show i=k\/i=k+1\/i=k+2 by omega) with rfl|rfl|rfl
      ·-- first the quiet one
       refine kE E xr f9 ep eg hf hR fun φ1 a1' w1 p1 f1 r1=>?_;refine⟨fun e=>absurd e (ne s1L (i:=i+1) (by omega) (by rw[g1 _ (by omega)];simp)),fun j hj=>?_⟩;obtain⟨m1,m2⟩:=nof s1L hj;rw[g1 j m1] at m2;have py:j=i+1\/j=i+2:=by
        by_cases yk:j=i
        ·rw[if_pos yk] at m2;cases m2
        ·rw[if_neg yk] at m2;simp at m2;omega
       have s2L:((L.setIfInBounds i true).setIfInBounds j true).size=ops.size:=by simp[uj]
       have g2:∀n,n<i+3->((L.setIfInBounds i true).setIfInBounds j true).getD n false=if n=j then true else if n=i then true else decide (n<i):=fun n hn=>by rw[gs s1L m1,g1 n hn]
       have last:∀q,q∈Region.ready .any ops ((L.setIfInBounds i true).setIfInBounds j true)->q≠j/\(q=i+1\/q=i+2):=by
        intro q hq;obtain⟨n1,n2⟩:=nof s2L hq;rw[g2 q n1] at n2;by_cases h1:q=j
        ·rw[if_pos h1] at n2;cases n2
        ·rw[if_neg h1] at n2;by_cases h2:q=i
         ·rw[if_pos h2] at n2;cases n2
         ·rw[if_neg h2] at n2;simp at n2;exact⟨h1,by omega⟩
       have all3:∀q,q≠j->(q=i+1\/q=i+2)->∀n,n<i+3->(((L.setIfInBounds i true).setIfInBounds j true).setIfInBounds q true).getD n false=true:=by
        intro q hqj hq n hn;rw[gs s2L (by omega),g2 n hn];by_cases h1:n=q
        ·rw[if_pos h1]
        ·rw[if_neg h1];by_cases h2:n=j
         ·rw[if_pos h2]
         ·rw[if_neg h2];by_cases h3:n=i
          ·rw[if_pos h3]
          ·rw[if_neg h3];simp;omega
       rcases py with rfl|rfl
       ·refine kE E ya mj (op1.trans e1) (pd1 _ _) f1 r1 fun φ2 a2' w2 p2 f2 r2=>?_;refine⟨fun e=>absurd e (ne s2L (i:=i+2) (by omega) (by rw[g2 _ (by omega)];simp)),fun q hq=>?_⟩;obtain⟨l1,l2⟩:=last q hq;have rp:q=i+2:=by omega
        have A3:=all3 q l1 l2;subst rp;exact kE E zk vj (op2.trans e2) (pd2 _ _) f2 r2 fun φ3 a3' w3 p3 f3 r3=>fin (by simp[uj]) A3 ((p1.trans p2).trans p3) f3 r3
       ·refine kE E zk vj (op2.trans e3) (pd2 _ _) f1 r1 fun φ2 a2' w2 p2 f2 r2=>?_;refine⟨fun e=>absurd e (ne s2L (i:=i+1) (by omega) (by rw[g2 _ (by omega)];simp)),fun q hq=>?_⟩;obtain⟨l1,l2⟩:=last q hq;have rp:q=i+1:=by omega
        have A3:=all3 q l1 l2;subst rp;exact kE E ya mj (op1.trans e5) (pd1 _ _) f2 r2 fun φ3 a3' w3 p3 f3 r3=>fin (by simp[uj]) A3 ((p1.trans p2).trans p3) f3 (r3.same k2.1 k2.2.1 k2.2.2)
      ·exfalso;have:=need uj hC hi;rw[gL k (by omega)] at this;simp at this
      ·-- first the late store
       refine kE E zk vj (op2.trans e4) (pd2 _ _) hf hR fun φ1 a1' w1 p1 f1 r1=>?_;refine⟨fun e=>absurd e (ne s1L (i:=k) (by omega) (by rw[g1 _ (by omega)];simp)),fun j hj=>?_⟩;obtain⟨m1,m2⟩:=nof s1L hj;rw[g1 j m1] at m2;have py:j=k\/j=k+1:=by
        by_cases yk:j=k+2
        ·rw[if_pos yk] at m2;cases m2
        ·rw[if_neg yk] at m2;simp at m2;omega
       rcases py with rfl|rfl
       ·refine kE E xr f9 e6 eg f1 r1 fun φ2 a2' w2 p2 f2 r2=>?_;have s2L:((L.setIfInBounds (j+2) true).setIfInBounds j true).size=ops.size:=by simp[uj]
        have g2:∀n,n<j+3->((L.setIfInBounds (j+2) true).setIfInBounds j true).getD n false=if n=j then true else if n=j+2 then true else decide (n<j):=fun n hn=>by rw[gs s1L m1,g1 n hn]
        refine⟨fun e=>absurd e (ne s2L (i:=j+1) (by omega) (by rw[g2 _ (by omega)];simp)),fun q hq=>?_⟩;obtain⟨n1,n2⟩:=nof s2L hq;rw[g2 q n1] at n2;have rp:q=j+1:=by
         by_cases h1:q=j
         ·rw[if_pos h1] at n2;cases n2
         ·rw[if_neg h1] at n2;by_cases h2:q=j+2
          ·rw[if_pos h2] at n2;cases n2
          ·rw[if_neg h2] at n2;simp at n2;omega
        subst rp;refine kE E ya mj (op1.trans e7) (pd1 _ _) f2 r2 fun φ3 a3' w3 p3 f3 r3=>fin (by simp[uj]) (fun n hn=>?_) ((p1.trans p2).trans p3) f3 (r3.same k3.1 k3.2.1 k3.2.2);rw[gs s2L n1,g2 n hn];by_cases h1:n=j+1
        ·rw[if_pos h1]
        ·rw[if_neg h1];by_cases h2:n=j
         ·rw[if_pos h2]
         ·rw[if_neg h2];by_cases h3:n=j+2
          ·rw[if_pos h3]
          ·rw[if_neg h3];simp;omega
       ·exfalso;have:=need s1L C1 hj;rw[g1 k (by omega)] at this;simp at this
     ·cases h
    ·cases h
   ·cases h
  ·cases h
 ·cases h
end
theorem aIh{P:PG}{ops:OA}{Q Q':Exit->Act->World->Prop}(h:∀e a w,Q e a w->Q' e a w){i:Nat}{K K':Act->World->Prop}(hK:∀a w,K a w->K' a w){a:Act}{w:World}(k:wpOp P ops Q i K a w):wpOp P ops Q' i K' a w:=by
 unfold wpOp at k ⊢;cases ho:ops[i]? with
 |none=>simp only[ho] at k ⊢;exact hK _ _ k
 |some o=>
  simp only[ho] at k ⊢;split
  ·rename_i hw;simp only[hw,if_true] at k;rcases k with k|⟨k1,k2⟩
   ·left;unfold Oper.wp at*;generalize (execOp a.eval o).run P w=r at*;cases r with
    |ok n w'=>
     cases n<;>simp only[Oper.upon] at k ⊢ <;>
      first
       |exact hK _ _ k
       |exact Calls.mono k (fun e w'' he=>by cases e<;>first|exact hK _ _ he|exact h _ _ _ he|exact jB h he)
       |exact Rows.mono k (fun _ _ he=>hK _ _ he)
    |halt x w'=>cases x<;>simp only[Oper.upon] at k ⊢ <;>first|exact h _ _ _ k|exact k
   ·exact .inr ⟨k1,jB h k2⟩
  ·rename_i hw;simp only[hw] at k;exact hK _ _ k
theorem vD{P:PG}{md:Region.Mode}{ops:OA}{Q Q':Exit->Act->World->Prop}(h:∀e a w,Q e a w->Q' e a w):∀(n:Nat) (l:Array Bool) (a:Act) (w:World),wpAny P md ops Q n l a w->wpAny P md ops Q' n l a w
 |0,l,a,w,k=>⟨k.1,h _ _ _ k.2⟩
 |n+1,l,a,w,k=>⟨fun e=>h _ _ _ (k.1 e),fun i hi=>aIh h (fun a w q=>vD h n _ a w q) (k.2 i hi)⟩
def aHf(ops:OA)(bs:NL)(k:Nat):Bool:=
 (List.range k).all (fun i=>(match ops[i]? with|some o=>o.guard.isNone|none=>true)&&((bs.getD k 0).testBit i&&((bs.getD (k+1) 0).testBit i&&(bs.getD (k+2) 0).testBit i)))&&(bs.getD (k+1) 0).testBit k
section
variable {P:PG}(E:Env P)
def tR(call:hB)(ops:OA)(f:Fr)(H:AH):Option (Fr×AH):=
 match ops.toList.drop (ops.size - 3) with
 |[p,s1,s2]=>(match s1.op,s2.op with
  |.store t1 x1 y1,.store t2 x2 y2=>
   bif bY ops (bef ops)&&(aHf ops (bef ops) (ops.size - 3)&&(p.guard.isNone&&(s1.guard.isNone&&(s2.guard.isNone&&(s1.dst.isNone&&s2.dst.isNone))))) then
    (match iD E call (ops.toList.take (ops.size - 3)).toArray f H with
    |some (g,K)=>tA E p t1 x1 y1 t2 x2 y2 g K
    |none=>none)
   else none
  |_,_=>none)
 |_=>none
theorem aJa{p:Oper}{t1 t2:TY}{x1 y1 x2 y2:Operand}{f g:Fr}{H K:AH}(h:tA E p t1 x1 y1 t2 x2 y2 f H=some (g,K)):K.w0=H.w0:=by
 unfold tA at h;split at h
 ·split at h
  ·split at h
   ·rename_i u1 H1 e1;split at h
    ·rename_i u2 K' u3 H2 u4 H3 e2 e3 e4;split at h
     ·obtain⟨_,h⟩:=yG h;cases h;exact(fZ E e2).1.trans (fZ E e1).1
     ·cases h
    ·cases h
   ·cases h
  ·cases h
 ·cases h
theorem aDl{call:hB}(qm:mM P call)(hm:P.follows .mixedOrders=true){ops:OA}{f g:Fr}{H K:AH}(h:tR E call ops f H=some (g,K))(id:Nat):pM P (.region id ops true) .normal g K f H:=by
 unfold tR at h;split at h
 ·rename_i p s1 s2 wo;split at h
  ·rename_i t1 x1 y1 t2 x2 y2 kc jb;cases hc:(bY ops (bef ops)&&(aHf ops (bef ops) (ops.size - 3)&&(p.guard.isNone&&(s1.guard.isNone&&(s2.guard.isNone&&(s1.dst.isNone&&s2.dst.isNone)))))) with
   |false=>rw[hc] at h;cases h
   |true=>
    rw[hc,QT] at h;simp only[QB,Option.isNone_iff_eq_none] at hc;obtain⟨zg,se,f9,mj,vj,ml,qg⟩:=hc;split at h
    ·rename_i g1 K1 qp;generalize ops.size - 3=k at wo se qp;have qe:(ops.toList.drop k).length=3:=by rw[wo];rfl
     have qu:ops.size=k+3:=by rw[List.length_drop,Array.length_toList] at qe;omega
     have hp:∀i,(ops.toList.drop k)[i]?=ops[k+i]?:=fun i=>by rw[List.getElem?_drop,Array.getElem?_toList]
     have xr:ops[k]?=some p:=by have:=hp 0;rw[wo] at this;simpa using this.symm
     have ya:ops[k+1]?=some s1:=by have:=hp 1;rw[wo] at this;simpa using this.symm
     have zk:ops[k+2]?=some s2:=by have:=hp 2;rw[wo] at this;simpa using this.symm
     have qo:∀i,i<k->(ops.toList.take k).toArray[i]?=ops[i]?:=fun i hi=>by simp[List.getElem?_take,hi]
     have xc:(ops.toList.take k).toArray.size=k:=by simp;omega
     simp only[aHf,QB,List.all_eq_true] at se;obtain⟨px,uw⟩:=se;have cw:∀i o,i<k->ops[i]?=some o->o.guard=none:=fun i o hi ho=>by
      have:=(px i (List.mem_range.2 hi)).1;rw[ho] at this;simpa using this
     have mi:∀i j,i<k->k<=j->j<ops.size->((bef ops).getD j 0).testBit i=true:=fun i j hi hkj hj=>by
      have:=(px i (List.mem_range.2 hi)).2;rcases(show j=k\/j=k+1\/j=k+2 by omega) with rfl|rfl|rfl
      ·exact this.1
      ·exact this.2.1
      ·exact this.2.2
     have ux:=sA E qm qp;refine⟨(aJa E h).trans ux,?_⟩;obtain⟨F,HH,V,M,Fl,T,w0s,rfl,rfl,rfl,rfl⟩:=rC E qm qp;refine ACode.of_any hm (kQ zg) (fun π φ a w hf hR=>?_) ⟨rfl,rfl,rfl⟩;have qv:=T.anyAll w0s (Q:=fun e f' H'=>e=Exit.normal/\f'=F _/\H'=HH _) ⟨rfl,rfl,rfl⟩ π φ a w hf hR;have sb:Array.replicate ops.size false=Array.replicate k false++Array.replicate 3 false:=by rw[qu,Array.replicate_append_replicate]
     rw[sb];have jh:ops.size=k+3:=qu;rw[jh];refine zA zg qu xc qo cw mi k (Array.replicate k false) a w.drew (by simp) ?_ (by simp[Array.toList_replicate]) ?_
     ·intro i o ho hi;have:(Array.replicate k false++Array.replicate 3 false).getD i false=false:=by
       rw[Array.replicate_append_replicate];simp only[Array.getD_eq_getD_getElem?,Array.getElem?_replicate];split<;>rfl
      replace hi:(Array.replicate k false++Array.replicate 3 false).getD i false=true:=hi
      rw[this] at hi;cases hi
     ·rw[xc] at qv h;refine vD ?_ _ _ _ _ qv;rintro e a' w' ⟨φ',f',H',p1,q1,q2,q3,rfl,rfl,rfl⟩;exact aIr E zg qu xr ya zk f9 mj vj ml qg kc jb uw h (Q:=fun e' g' K'=>e'=Exit.normal/\g'=g/\K'=K) ⟨rfl,rfl,rfl⟩ π φ φ' _ p1 q3 a' w' q1 q2
    ·cases h
  ·cases h
 ·cases h
end
section
variable {P:PG}(E:Env P)
def eZ(call:hB)(fuel:Nat):Code->Fr->AH->Option (Exit×Fr×AH)
 |.skip,f,H=>some (.normal,f,H)
 |.label _,f,H=>some (.normal,f,H)
 |.exit i,f,H=>some (.exit i,f,H)
 |.ret,f,H=>some (.ret,f,H)
 |.seq a b,f,H=>(match eZ call fuel a f H with
  |some (.normal,f',H')=>eZ call fuel b f' H'
  |r=>r)
 |.cond c x y,f,H=>(match aN f c with
  |.bool true=>eZ call fuel x f H
  |.bool false=>eZ call fuel y f H
  |_=>none)
 |.block i c,f,H=>(match eZ call fuel c f H with
  |some (.exit j,f',H')=>bif Nat.beq j i then some (.normal,f',H') else some (.exit j,f',H')
  |r=>r)
 |.loop c,f,H=>uP (eZ call fuel c) fuel f H
 |.region _ ops draw,f,H=>
  bif draw then(match iD E call ops f H with
   |some (g,K)=>some (.normal,g,K)
   |none=>(match tR E call ops f H with
    |some (g,K)=>some (.normal,g,K)
    |none=>none))
  else(match jW E call ops ops.toList f H with
   |some (g,K)=>some (.normal,g,K)
   |none=>none)
 |_,_,_=>none
theorem aTr{call:hB}(qm:mM P call)(hm:P.follows .mixedOrders=true)(fuel:Nat):∀(c:Code) (f:Fr) (H:AH) (e:Exit) (g:Fr) (K:AH),eZ E call fuel c f H=some (e,g,K)->pM P c e g K f H:=by
 intro c
 induction c with
 |skip=>intro f H e g K h;simp only[eZ] at h;cases h;exact⟨rfl,ACode.skip ⟨rfl,rfl,rfl⟩⟩
 |label l=>intro f H e g K h;simp only[eZ] at h;cases h;exact⟨rfl,ACode.label ⟨rfl,rfl,rfl⟩⟩
 |exit i=>intro f H e g K h;simp only[eZ] at h;cases h;exact⟨rfl,ACode.exit ⟨rfl,rfl,rfl⟩⟩
 |ret=>intro f H e g K h;simp only[eZ] at h;cases h;exact⟨rfl,ACode.ret ⟨rfl,rfl,rfl⟩⟩
 |seq x y ihx ihy=>
  intro f H e g K h;simp only[eZ] at h;cases hx:eZ E call fuel x f H with
  |none=>rw[hx] at h;cases h
  |some r=>
   obtain⟨e1,f1,H1⟩:=r;rw[hx] at h;obtain⟨w1,c1⟩:=ihx _ _ _ _ _ hx;by_cases he:e1=.normal
   ·subst he;simp only at h;obtain⟨w2,c2⟩:=ihy _ _ _ _ _ h;refine⟨w2.trans w1,ACode.seq c1 ?_ ?_⟩
    ·rintro f' H' ⟨_,rfl,rfl⟩;exact c2
    ·rintro e' f' H' qn ⟨rfl,_⟩;exact absurd rfl qn
   ·have hh:e1=e/\f1=g/\H1=K:=by
     cases e1 with
     |normal=>exact absurd rfl he
     |_=>simp only[Option.some.injEq,Prod.mk.injEq] at h;exact h
    obtain⟨rfl,rfl,rfl⟩:=hh;refine⟨w1,ACode.seq c1 ?_ ?_⟩
    ·rintro f' H' ⟨e0,_⟩;exact absurd e0.symm he
    ·rintro e' f' H' _ k;exact k
 |cond c x y ihx ihy=>
  intro f H e g K h;simp only[eZ] at h;split at h
  ·rename_i hc;obtain⟨w1,c1⟩:=ihx _ _ _ _ _ h;exact⟨w1,ACode.cond hc c1⟩
  ·rename_i hc;obtain⟨w1,c1⟩:=ihy _ _ _ _ _ h;exact⟨w1,ACode.cond hc c1⟩
  ·cases h
 |block i c ih=>
  intro f H e g K h;simp only[eZ] at h;cases hx:eZ E call fuel c f H with
  |none=>rw[hx] at h;cases h
  |some r=>
   obtain⟨e1,f1,H1⟩:=r;rw[hx] at h;obtain⟨w1,c1⟩:=ih _ _ _ _ _ hx;have fin:H1=K->f1=g->(∀f' H',f'=g->H'=K->(match e1 with|.exit j=>if j=i then(Exit.normal=e/\f'=g/\H'=K) else(Exit.exit j=e/\f'=g/\H'=K)|e'=>(e'=e/\f'=g/\H'=K)))->pM P (.block i c) e g K f H:=by
    rintro rfl rfl k;refine⟨w1,ACode.block (c1.mono ?_)⟩;rintro e' f' H' ⟨rfl,rfl,rfl⟩;have:=k f' H' rfl rfl;cases e'<;>exact this
   cases e1 with
   |exit j=>
    simp only at h;cases hj:Nat.beq j i with
    |true=>
     rw[hj,QT] at h;cases h;have:=QN hj;exact fin rfl rfl fun f' H' h1 h2=>by simp only[this,if_true];exact⟨trivial,h1,h2⟩
    |false=>
     rw[hj,QF] at h;cases h;have:¬j=i:=fun e=>by rw[e] at hj;simp at hj
     exact fin rfl rfl fun f' H' h1 h2=>by simp only[this,if_false];exact⟨trivial,h1,h2⟩
   |_=>
    simp only[Option.some.injEq,Prod.mk.injEq] at h;obtain⟨rfl,rfl,rfl⟩:=h;exact fin rfl rfl fun f' H' h1 h2=>⟨rfl,h1,h2⟩
 |loop c ih=>
  intro f H e g K h;simp only[eZ] at h;exact aWg ih fuel f H e g K h
 |region i ops draw=>
  intro f H e g K h;simp only[eZ] at h;cases draw with
  |true=>
   rw[QT] at h;split at h
   ·rename_i g' K' hd;cases h;exact⟨sA E qm hd,aCp E qm hm ⟨rfl,rfl,rfl⟩ hd i⟩
   ·split at h
    ·rename_i g' K' hd;cases h;exact aDl E qm hm hd i
    ·cases h
  |false=>
   rw[QF] at h;split at h
   ·rename_i g' K' hd;cases h;refine⟨aJu E qm _ _ _ hd,ACode.region ?_⟩;have:=aHg E qm (Q:=fun e' g'' K''=>e'=Exit.normal/\g''=g/\K''=K) ⟨rfl,rfl,rfl⟩ ops.toList 0 f H (fun j=>by simp) hd;rw[Array.length_toList,<-List.range_eq_range'] at this;exact this
   ·cases h
 |_=>intro f H e g K h;simp only[eZ] at h;cases h
end
end Go.AM
namespace Go.AM
open Go.RowKit
variable [σ:Sg]
theorem aOq{len cap a:Nat}{k:IntKind}(h1:a<=len)(h2:len<=cap):bC len cap (some (.int k (a:Int))) none none=some (a,len,cap):=by
 have e1:bO none cap cap=some cap:=rfl;have e3:bO (some (Value.int k (a:Int))) 0 len=some a:=by simp only[bO];rw[if_pos ⟨by omega,by omega⟩];simp
 simp only[bC,e1,e3]
section
variable [γ:Gam]{P:PG}{E:Env P}{G:RG}{i n d:Nat}{r:OL2}{Q:FQ}{t:Tr Value}{l:LV}{S H0:AH}{A0 A:NQ}{L L':OL}{v u:Value}{x:Operand}{gd:OB}{af:Array Edge}{ps:String}{ty:TY}
theorem aWb{ta e:TY}{lo:Operand}{kk:IntKind}{ii:TI}{a:Option Addr}{b cap p:Nat}{ks:KL}{rw':LX}(hw:gok G.ops l gd=true)(qd:Nat.ble (d+1) n=true)(hx:opv l x=some (.slice a rw'.length cap))(hu:E.und ta=some (.slice e))(ql:E.inf e=some ii)
 (h1:opv l lo=some (.int kk ((p:Nat):Int)))(hr:RowD (qA G A) (qH G H0) b ks rw' a cap)(hk:ks.length=ii.size)(hp:p<=rw'.length)
 (h:∀a',RowD (qA G A) (qH G H0) b ks (rw'.drop p) a' (cap - p)->SO E G (i+1) r Q (fr n t ((d,.slice a' (rw'.drop p).length (cap - p))::l)) H0 A L):SO E G i (⟨some d,.slice ta x (some lo) none none,ty,ps,af,gd⟩::r) Q (fr n t l) H0 A L:=by
 have qe:(rw'.drop p).length=rw'.length - p:=List.length_drop;have hb:bC rw'.length cap (some (.int kk ((p:Nat):Int))) none none=some (p,rw'.length,cap):=aOq hp hr.le;have hO:OpO l (some lo) (some (.int kk ((p:Nat):Int))):=.some h1;have row:∀q q',a=some q->q'.block=q.block->(rw'.length=p\/q'=q.add (p*ks.length))->RowD (qA G A) (qH G H0) b ks (rw'.drop p) (some q') (cap - p):=by
  intro q q' hq og hq';refine⟨by rw[qe];have:=hr.len;omega,by rw[qe];have h4:=Nat.mul_le_mul_right b (show rw'.length - p<=rw'.length by omega);have:=hr.bytes;omega,by rw[qe];have:=hr.le;omega,(fun h=>by cases h),(fun p' h'=>by cases h';rw[og];exact hr.inA q hq),(fun p' h'=>by cases h';have:=hr.sz q hq;unfold SzA at this ⊢;rw[og];exact this),fun j hj=>?_⟩;rw[qe] at hj;obtain⟨p2,xs,c,e1,e2,e3,e4,e5⟩:=hr.at' (p+j) (by omega);rw[hq] at e1;cases e1;have e6:q'=q.add (p*ks.length):=by
   rcases hq' with h|h
   ·omega
   ·exact h
  refine⟨q',xs,c,rfl,by rw[og];exact e2,by rw[List.getElem?_drop];exact e3,?_,e5⟩;rw[e6,rQ,<-Nat.add_mul];exact e4
 cases a with
 |none=>
  have ym:rw'.length=0:=by
   rcases Nat.eq_zero_or_pos rw'.length with e|e
   ·exact e
   ·obtain⟨p,_,_,e1,_⟩:=hr.at' 0 e;cases e1
  have xr:p=0:=by omega
  subst xr;rw[ym] at hx hb;rcases hr.nil rfl with e|e
  ·subst e;have h0:=h none ⟨by rw[qe];omega,by rw[qe,ym];simp,by rw[qe,ym];simp,fun _=>.inl rfl,(fun p h=>by cases h),(fun p h=>by cases h),fun j hj=>by rw[qe] at hj;omega⟩;rw[qe,ym] at h0;exact aAv hw qd hx hu ql (by rw[show(some lo).map (aN (fr n t l))=some (.int kk ((0:Nat):Int)) from hO.ok];exact hb) h0
  ·subst e;have h0:=h none ⟨by rw[qe];omega,by rw[qe,ym];simp,by rw[qe,ym];simp,fun _=>.inr rfl,(fun p h=>by cases h),(fun p h=>by cases h),fun j hj=>by rw[qe] at hj;omega⟩;rw[qe,ym] at h0;exact aAp hw qd hx hu ql (b:=(0,0,0)) (by rw[show(some lo).map (aN (fr n t l))=some (.int kk ((0:Nat):Int)) from hO.ok];rfl) h0
 |some q=>
  rcases Nat.mod_two_eq_zero_or_one q.block with qz|ce
  ·refine aAz hw qd hx hu ql hr.le qz (by rw[show(some lo).map (aN (fr n t l))=_ from hO.ok];exact hb) ?_;rw[<-qe];refine h _ (row q _ rfl ?_ ?_)
   ·split
    ·rfl
    ·exact bR _ _
   ·by_cases e:cap=p
    ·have:=hr.le;exact .inl (by omega)
    ·rw[if_neg e,hk];exact .inr rfl
  ·have hget:=hr.sz q rfl;rw[hk] at hget;have cf:qA G A (q.block / 2):=by
    rcases hr.inA q rfl with h'|h'
    ·omega
    ·exact h'
   refine aAd hw qd hx hu ql hr.le ce cf hget (by rw[show(some lo).map (aN (fr n t l))=_ from hO.ok];exact hb) ?_;rw[<-qe];exact h _ (row q _ rfl (bR _ _) (.inr (by rw[hk])))
end
end Go.AM
namespace Go.AM
open Go.RowKit
variable [σ:Sg]
theorem aRz{φ:PL}{v v':Value}(h:VR φ v v')(hf:flat v=true):v'=v:=by
 cases v with
 |agg cs=>
  cases cs with
  |mk l=>
   cases h with
   |agg ha hv=>rw[jL ⟨ha,hv⟩ hf]
 |_=>exact aEg h hf
theorem aFo{φ:PL}:∀{l l':VL},VRs φ l l'->l.all flat=true->l'=l
 |[],l',h,_=>List.eq_nil_of_length_eq_zero h.1.symm
 |v::l,[],h,_=>by have:=h.1;simp at this
 |v::l,v'::l',h,hf=>by
  simp only[List.all_cons,QB] at hf;rw[aRz h.head hf.1,aFo h.tail hf.2]
section
variable {P:PG}(E:Env P)
abbrev aZd:=FuncId->List Value->Option Value
def aLx(P:PG)(tb:aZd):Prop:=∀g args r,tb g args=some r->args.all flat=true/\aEf r=true/\∀w,Flat P g args w r
def qT(tb:aZd):Nat->hB
 |0,_,_,_=>none
 |n+1,g,args,H=>(match tb g args with
  |some r=>some (r,H)
  |none=>(match E.fn g with
   |some x=>(match eZ E (qT tb n) n x.body (sI args x.ntmps) H with
    |some (.normal,f,H')=>(match bP E f H' x.results with
     |some vs=>some (bK vs,H')
     |none=>none)
    |some (.ret,f,H')=>(match bP E f H' x.results with
     |some vs=>some (bK vs,H')
     |none=>none)
    |_=>none)
   |none=>none))
theorem aOu{tb:aZd}(zp:aLx P tb)(hm:P.follows .mixedOrders=true):∀n,mM P (qT E tb n):=by
 intro n
 induction n with
 |zero=>intro g args H v H' h;cases h
 |succ n ih=>
  intro g args H v H' h;simp only[qT] at h;split at h
  ·rename_i r hr;cases h;obtain⟨h1,h2,h3⟩:=zp _ _ _ hr;refine⟨rfl,ACalls.flat h2 fun π φ args' w hv hR=>?_⟩;rw[aFo hv h1];exact h3 w
  ·split at h
   ·rename_i x hg
    have fin:∀{e f K},eZ E (qT E tb n) n x.body (sI args x.ntmps) H=some (e,f,K)->(e=.normal\/e=.ret)->(match bP E f K x.results with|some vs=>some (bK vs,K)|none=>none)=some (v,H')->
     H'.w0=H.w0/\ACalls P g args H fun u K=>u=v/\K=H':=by
     intro e f K hr he hv;split at hv
     ·rename_i vs o8;cases hv;obtain⟨w1,c1⟩:=aTr E ih hm n _ _ _ _ _ _ hr;refine⟨w1,ACalls.body E hg (c1.mono ?_)⟩;rintro e' f' K' ⟨rfl,rfl,rfl⟩;exact⟨he,vs,o8,rfl,rfl⟩
     ·cases hv
    split at h
    ·rename_i f K hr;exact fin hr (.inl rfl) h
    ·rename_i f K hr;exact fin hr (.inr rfl) h
    ·cases h
   ·cases h
theorem Flat.closedT{tb:aZd}(zp:aLx P tb)(hm:P.follows .mixedOrders=true){g:FuncId}{args:VL}{r:Value}(hx:extL args=args)(n:Nat)(h:∀w:World,∃H',qT E tb n g args (start w)=some (r,H'))(w:World):Flat P g args w r:=by
 obtain⟨H',hH⟩:=h w;show ACalls P g (extL args) (start w) _;rw[hx];exact((aOu E zp hm n _ _ _ _ _ hH).2).mono fun v K hv=>hv.1
theorem bAy:aLx P fun _ _=>none:=fun _ _ _ h=>by cases h
end
end Go.AM
namespace Go.AM
open Go.RowKit
variable [σ:Sg]
variable [γ:Gam]
section
variable {P:PG}{E:Env P}{G:RG}{i n d:Nat}{r:OL2}{Q:FQ}{t:Tr Value}{l:LV}{S H0:AH}{A0 A:NQ}{L L':OL}{v u:Value}{x y:Operand}{gd:OB}{af:Array Edge}{ps:String}{ty:TY}
theorem amax2{k:IntKind}{a b:Int}:vH true (.int k a) [.int k b]=some (.int k (max a b)):=by
 simp only[vH,decide_true,QT,if_true];congr 2;by_cases h:b>a
 ·rw[if_pos h];omega
 ·rw[if_neg h];omega
theorem amin2{k:IntKind}{a b:Int}:vH false (.int k a) [.int k b]=some (.int k (min a b)):=by
 simp only[vH,decide_true,QT,Bool.false_eq_true,if_false];congr 2;by_cases h:b<a
 ·rw[if_pos h];omega
 ·rw[if_neg h];omega
theorem bAz{c:Call}{k:IntKind}{a b m:Int}(hw:gok G.ops l gd=true)(qd:Nat.ble (d+1) n=true)(hc:c.callee=.builtin .max)(ha:c.args.toList=[x,y])(hx:opv l x=some (.int k a))(hy:opv l y=some (.int k b))(hm:max a b=m)
 (h:SO E G (i+1) r Q (fr n t ((d,.int k m)::l)) H0 A L):SO E G i (⟨some d,.call c,ty,ps,af,gd⟩::r) Q (fr n t l) H0 A L:=
 bJ hw rfl qd (by simp only[eO,hc]) (fun H=>by subst hm;simp only[aop,hc,ha,List.map_cons,List.map_nil,aI hx,aI hy,amax2,aQ]) h
theorem aYh{c:Call}{k:IntKind}{a b m:Int}(hw:gok G.ops l gd=true)(qd:Nat.ble (d+1) n=true)(hc:c.callee=.builtin .min)(ha:c.args.toList=[x,y])(hx:opv l x=some (.int k a))(hy:opv l y=some (.int k b))(hm:min a b=m)
 (h:SO E G (i+1) r Q (fr n t ((d,.int k m)::l)) H0 A L):SO E G i (⟨some d,.call c,ty,ps,af,gd⟩::r) Q (fr n t l) H0 A L:=
 bJ hw rfl qd (by simp only[eO,hc]) (fun H=>by subst hm;simp only[aop,hc,ha,List.map_cons,List.map_nil,aI hx,aI hy,amin2,aQ]) h
end
section
variable {P:PG}{E:Env P}{t:TY}{k:IntKind}{a b c:Int}
theorem aXs(hb:b≠0)(h:k.wrap (a.tdiv b)=c):aS E .quo t (.int k a) (.int k b)=some (.int k c):=by simp only[aS,bW];rw[if_neg hb,h,if_pos trivial]
theorem bAk(hb:b≠0)(h:a.tmod b=c):aS E .rem t (.int k a) (.int k b)=some (.int k c):=by simp only[aS,bW];rw[if_neg hb,h,if_pos trivial]
end
end Go.AM
namespace Go.AM
open Go.RowKit
variable [σ:Sg]
variable [γ:Gam]
section
variable {P:PG}{E:Env P}{ops:OA}{ms:NL}{W W':AH->Prop}
theorem RunD.drawZ{m:Nat}{o:Oper}{f g1 g:Fr}{H K1 K:AH}{L1 L2:List gF}(h1:RunD E true ops ms W 0 (ops.toList.take m) f H L1 g1 K1)(h2:RunD E false ops [] W' m [o] g1 K1 L2 g K)(ho:ops.toList.drop m=[o])
 (hq:bX E o.op=false)(xl:o.guard=none)(qv:((List.range m).all fun i=>((bef ops).getD m 0).testBit i)=true)(hm:P.follows .mixedOrders=true)(zg:bY ops (bef ops)=true)(zh:dB (bef ops) ms=true)(zd:ms.Pairwise (·<·))(hW:W H)(hy:γ.y=false\/∀c,o.op≠.call c)(id:Nat):
 pM P (.region id ops true) .normal g K f H:=by
 have qu:ops.size=m+1:=by
  have:=congrArg List.length ho;rw[List.length_drop,Array.length_toList,List.length_singleton] at this;omega
 have nr:ops[m]?=some o:=by
  have:(ops.toList.drop m)[0]?=some o:=by rw[ho];rfl
  rw[List.getElem?_drop,Nat.add_zero,Array.getElem?_toList] at this;exact this
 obtain⟨v,hp,hz⟩:∃v,g1.put o.dst v=some g/\(aop E (aN g1) o.op K1=some (v,K)\/(K.w0=K1.w0/\∃c args,bN E (aN g1) o.op=some (c,args)/\ACalls P c args K1 fun u K'=>u=v/\K'=K)):=by
  cases h2 with
  |cons hs hp r=>
   cases r;have ru:aR ops (bV g1) o=true:=by unfold aR;rw[xl]
   rcases hs with⟨q,_⟩|⟨_,_,_,⟨q,_⟩,_⟩|⟨_,_,_,q⟩|⟨_,_,_,q0,q|⟨_,hF,⟨c,hc⟩,_⟩⟩
   ·rw[ru] at q;cases q
   ·rw[hq] at q;cases q
   ·exact⟨_,hp,.inl q⟩
   ·exact⟨_,hp,.inr ⟨q0,q⟩⟩
   ·rcases hy with hy|hy
    ·rw[hy] at hF;cases hF
    ·exact absurd hc (hy c)
 have ru:aR ops (bV g1) o=true:=by unfold aR;rw[xl]
 have ux:=h1.w0;have vp:K.w0=K1.w0:=by
  rcases hz with q|⟨q,_⟩
  ·exact lY E q
  ·exact q
 refine⟨vp.trans ux,?_⟩;obtain⟨qe,⟨s0,xa,tm,tn⟩,qr⟩:=h1.at;have zc:L1.length=m:=by rw[qe,List.length_take,Array.length_toList,qu];omega
 let A:List gF:=L1++[(g1,K1,v,true),(g,K,undef,false)]
 let d:gF:=(g,K,undef,false)
 let F:=fun i=>(A.getD i d).1
 let HH:=fun i=>(A.getD i d).2.1
 let V:=fun i=>(A.getD i d).2.2.1
 let M:=fun i=>(A.getD i d).2.2.2
 have gc:A.getD m d=(g1,K1,v,true):=by
  simp only[A,List.getD_eq_getElem?_getD];rw[List.getElem?_append_right (by omega),zc,Nat.sub_self];rfl
 have ug:A.getD (m+1) d=(g,K,undef,false):=by
  simp only[A,List.getD_eq_getElem?_getD];rw[List.getElem?_append_right (by omega),zc,show m+1 - m=1 by omega];rfl
 have hA:∀i,i<m->∃s,L1[i]?=some s/\A.getD i d=s:=by
  intro i hi;refine⟨L1[i]'(by omega),by simp[zc,hi],?_⟩;simp only[A,List.getD_eq_getElem?_getD];rw[List.getElem?_append_left (by omega)];simp[zc,hi]
 have wg:∀i s',(L1++[(g1,K1,undef,false)])[i]?=some s'->(A.getD i d).1=s'.1/\(A.getD i d).2.1=s'.2.1:=by
  intro i s' hs;by_cases hi:i<m
  ·rw[List.getElem?_append_left (by omega)] at hs;obtain⟨s,q1,q2⟩:=hA i hi;rw[q1] at hs;cases hs;rw[q2];exact⟨rfl,rfl⟩
  ·rw[List.getElem?_append_right (by omega),zc] at hs;have:i=m:=by
    have:=lt_of_getElem? hs;simp at this;omega
   subst this;rw[Nat.sub_self] at hs;simp at hs;rw[gc,<-hs];exact⟨rfl,rfl⟩
 have qq:∀i o',i<m->ops[i]?=some o'->SD E true ops ms W i o' (F i) (HH i) (V i) (HH (i+1)) (M i)/\(F i).put o'.dst (V i)=some (F (i+1)):=by
  intro i o' hi ua;obtain⟨s,q1,q2⟩:=hA i hi;obtain⟨s',r1,r2,r3⟩:=qr i o' s (by rw[List.getElem?_take,if_pos hi];simpa using ua) q1;obtain⟨e1,e2⟩:=wg _ _ r1;simp only[F,HH,V,M,q2,e1,e2];rw[Nat.zero_add] at r2;exact⟨r2,r3⟩
 have vf:F 0=f/\HH 0=H:=by
  obtain⟨e1,e2⟩:=wg 0 s0 xa;simp only[F,HH,e1,e2];exact⟨tm,tn⟩
 have nt:M m=true:=by simp only[M,gc]
 have nu:∀i,i<m->((bef ops).getD m 0).testBit i=true:=by
  intro i hi;rw[List.all_eq_true] at qv;exact qv i (List.mem_range.2 hi)
 have lt_of:∀i,i<ops.size->i≠m->i<m:=by intro i h1 h2;omega
 have ops_at:∀i (hi:i<m),ops[i]?=some (ops[i]'(by omega)):=fun i hi=>Array.getElem?_eq_getElem (by omega);have still:∀i,i<ops.size->M i=false->HH (i+1)=HH i:=by
  intro i hi hM;have ql:i<m:=lt_of i hi (fun e=>by rw[e,nt] at hM;cases hM);rcases(qq i _ ql (ops_at i ql)).1 with⟨_,_,_,h4⟩|⟨_,_,h4,_⟩|⟨_,h4,_⟩|⟨_,h4,_⟩
  ·exact h4
  ·exact h4
  ·rw[hM] at h4;cases h4
  ·rw[hM] at h4;cases h4
 have w0s:∀i,i<ops.size->(HH (i+1)).w0=(HH i).w0:=by
  intro i hi;by_cases e:i=m
  ·subst e;simp only[HH,gc,ug];exact vp
  ·have ql:=lt_of i hi e;rcases(qq i _ ql (ops_at i ql)).1 with⟨_,_,_,h4⟩|⟨_,_,h4,_⟩|⟨_,_,_,h4⟩|⟨_,_,_,h4,_⟩
   ·rw[h4]
   ·rw[h4]
   ·exact lY E h4
   ·exact h4
 have mainW:∀i,i<m->M i=true->i∈ms/\W (HH (i+1)):=by
  intro i hi hM;rcases(qq i _ hi (ops_at i hi)).1 with⟨_,_,h4,_⟩|⟨_,h4,_⟩|⟨_,_,h4,_⟩|⟨_,_,h4,_⟩
  ·rw[hM] at h4;cases h4
  ·rw[hM] at h4;cases h4
  ·exact h4 rfl
  ·exact h4 rfl
 have allW:∀t,t<=m->W (HH t):=by
  intro t
  induction t with
  |zero=>intro _;rw[vf.2];exact hW
  |succ t ih=>
   intro ht;cases uh:M t with
   |true=>exact(mainW t (by omega) uh).2
   |false=>rw[still t (by omega) uh];exact ih (by omega)
 have between:∀n a,a+n<=ops.size->(∀j,a<=j->j<a+n->M j=false)->HH (a+n)=HH a:=by
  intro n
  induction n with
  |zero=>intro a _ _;rfl
  |succ n ih=>
   intro a ha zy;rw[show a+(n+1)=a+n+1 by omega,still (a+n) (by omega) (zy _ (by omega) (by omega))];exact ih a (by omega) (fun j h1 h2=>zy j h1 (by omega))
 have T:Trace E ops F HH V M:=by
  refine⟨⟨zg,fun i o' ua=>?_⟩,fun i o' ua=>?_,still,fun i j ye hj yo zf=>?_⟩
  ·by_cases e:i=m
   ·subst e;rw[nr] at ua;cases ua;simp only[F,V,gc,ug];exact hp
   ·exact(qq i o' (lt_of i (alt_of_getElem? ua) e) ua).2
  ·by_cases e:i=m
   ·subst e;rw[nr] at ua;cases ua;simp only[F,HH,V,M,gc,ug];rcases hz with q|⟨_,c,args,q1,q2⟩
    ·exact .inr (.inr (.inl ⟨ru,trivial,q⟩))
    ·exact .inr (.inr (.inr ⟨ru,trivial,c,args,q1,q2⟩))
   ·have hi:i<m:=lt_of i (alt_of_getElem? ua) e;rcases(qq i o' hi ua).1 with⟨h1,h2,h3,h4⟩|⟨h1,h2,h3,⟨_,h4⟩,h5⟩|⟨h1,h2,h3,h4⟩|⟨h1,h2,_,_,⟨c,args,h3,h4⟩|⟨hF,_⟩⟩
    ·exact .inl ⟨h1,h2,h3⟩
    ·refine .inr (.inl ⟨h1,h2,fun t ht hb ha=>?_⟩);have rl:t<=m:=ha m (by omega) nt (nu i hi);rcases h5 rfl with hp|hp|hp
     ·exact sU E hp h4 (HH t)
     ·have wm:∀j,j<m->M j=true->(j<t↔j<i):=by
       intro j hj zf;have jt:=(mainW j hj zf).1;simp only[fK,List.all_eq_true] at hp;have:=hp j jt;simp only[Bool.or_eq_true,QB,Nat.blt,Nat.ble_eq] at this;rcases this with⟨q1,q2⟩|⟨q1,q2⟩
       ·exact⟨fun _=>q1,fun _=>hb j (by omega) zf q2⟩
       ·have:=ha j (by omega) zf q2;constructor<;>intro<;>omega
      have:HH t=HH i:=by
       rcases Nat.le_total t i with qf|qf
       ·have e:=between (i - t) t (by omega) (fun j h1 h2=>by
         cases zf:M j with
         |false=>rfl
         |true=>have:=(wm j (by omega) zf).2 (by omega);omega)
        rw[show t+(i - t)=i by omega] at e;exact e.symm
       ·have e:=between (t - i) i (by omega) (fun j h1 h2=>by
         cases zf:M j with
         |false=>rfl
         |true=>have:=(wm j (by omega) zf).1 (by omega);omega)
        rw[show i+(t - i)=t by omega] at e;exact e
      rw[this];exact h4
     ·exact hp _ (allW t rl)
    ·exact .inr (.inr (.inl ⟨h1,h2,h4⟩))
    ·exact .inr (.inr (.inr ⟨h1,h2,c,args,h3,h4⟩))
    ·cases hF
  ·by_cases e:j=m
   ·subst e;exact nu i (by omega)
   ·exact uU zh zd i j (mainW i (by omega) yo).1 (mainW j (by omega) zf).1 ye
 have:=T.region hm w0s (Q:=fun e' g' K'=>e'=.normal/\g'=g/\K'=K) (by simp only[F,HH,qu,ug];refine⟨?_,?_,?_⟩<;>first|trivial|rfl) id;rw[vf.1,vf.2] at this;exact this
end
section
variable {P:PG}{E:Env P}{S H0:AH}{A0 A:NQ}{L:OL}{K:AQ}
theorem aVj{ops:OA}{id:Nat}{f:Fr}(hm:P.follows .mixedOrders=true)(ms:NL)(Lw:OL)(pu:Lw.Sublist L)(zg:bY ops (bef ops)=true)(zh:dB (bef ops) ms=true)(zd:ms.Pairwise (·<·))(m:Nat)(o:Oper)(ho:ops.toList.drop m=[o])(hq:bX E o.op=false)(xl:o.guard=none)
 (qv:((List.range m).all fun i=>((bef ops).getD m 0).testBit i)=true)
 (h:SO E ⟨true,ops,ms,S,A0,H0,A,Lw⟩ 0 (ops.toList.take m) (fun f H=>∃Ls g K',RunD E false ops [] (HS S H0 A0 A Lw) m [o] f H Ls g K'/\K .normal g K') f H0 A L)(hy:γ.y=false\/∀c,o.op≠.call c:=by exact .inl rfl):SX P (.region id ops true) K f S A0 H0 A L:=by
 intro H hH;have hW:HS S H0 A0 A Lw H:=hH.subl pu;obtain⟨Ls,g,K',hr,Ls2,g2,K2,v9,rp⟩:=h (fun _=>⟨fun p hp=>pu.subset hp,hW.dist,fun j hj=>⟨hj,rfl⟩,rfl⟩) H hH;exact⟨.normal,g2,K2,rp,hr.drawZ v9 ho hq xl qv hm zg zh zd hW hy id⟩
theorem aXz{ops:OA}{ms:NL}{i m:Nat}{o:Oper}{Hw:AH}{Aw:NQ}{Lw:OL}{f:Fr}(h:SO E ⟨false,ops,[],S,A0,Hw,Aw,Lw⟩ m [o] (fun f H=>K .normal f H) f H0 A L):
 SO E ⟨true,ops,ms,S,A0,Hw,Aw,Lw⟩ i [] (fun f H=>∃Ls g K',RunD E false ops [] (HS S Hw A0 Aw Lw) m [o] f H Ls g K'/\K .normal g K') f H0 A L:=fun _ H hH=>⟨[],f,H,.nil,h (fun hD=>by cases hD) H hH⟩
end
end Go.AM
namespace Go.AM
variable [σ:Sg]
theorem aJn{α:Type}(l:List α)(a c:Nat):l.drop a=(l.drop a).take c++l.drop (a+c):=by
 rw[<-List.drop_drop];exact(List.take_append_drop c (l.drop a)).symm
theorem aU{α β:Type}(f:List α->List β)(hn:f []=[])(ha:∀a b,f (a++b)=f a++f b)(l:List α)(c:Nat):∀(Ls:List (List β)) (a:Nat),(∀i L,Ls[i]?=some L->f ((l.drop (a+i*c)).take c)=L)->l.length<=a+Ls.length*c->f (l.drop a)=Ls.flatten
 |[],a,_,hl=>by
  rw[List.drop_eq_nil_of_le (by simpa using hl),hn];rfl
 |L::Ls,a,h,hl=>by
  rw[aJn l a c,ha,List.flatten_cons];have h0:=h 0 L rfl;rw[Nat.zero_mul,Nat.add_zero] at h0;rw[h0,aU f hn ha l c Ls (a+c) (fun i M hi=>by
   have:=h (i+1) M (by simpa using hi)
   rwa [show a+(i+1)*c=a+c+i*c by rw[Nat.add_mul];omega] at this) (by rw[List.length_cons,Nat.add_mul] at hl;omega)]
section
variable {P P':PG}
def bare(F:Func):Bool:=F.body.isNone
theorem aWc(h:P.funcs.toList.filter bare=P'.funcs.toList)(w:String):P.worded w=P'.worded w:=by
 unfold Program.worded;rw[<-Array.any_toList,<-Array.any_toList,<-h,List.any_filter];congr 1;funext F;unfold bare;cases F.body.isNone<;>rfl
theorem aMa(h:P.funcs.toList.filter bare=P'.funcs.toList):P.doorBytes=P'.doorBytes:=by
 unfold Program.doorBytes;rw[<-h,List.filterMap_filter];congr 2;funext F;unfold bare;cases F.body.isNone<;>rfl
theorem qB(h:P.doorBytes=P'.doorBytes)(v:String):P.kindBase v=P'.kindBase v:=by
 unfold Program.kindBase Program.wordedOn Program.tailsOn;rw[h]
theorem aNv(h:P.doorBytes=P'.doorBytes)(v:String):P.kindOfLater v=P'.kindOfLater v:=by
 unfold Program.kindOfLater Program.wordedOn Program.tailsOn;rw[qB h,h]
theorem qM{p:Nat->Bool}{i:Nat}:∀(m:Nat),i<m->(∀j,j<m->p j=decide (j=i))->(List.range m).filter p=[i]
 |0,h,_=>by omega
 |m+1,h,hp=>by
  rw[List.range_succ,List.filter_append];by_cases e:i=m
  ·subst e;have h1:(List.range i).filter p=[]:=by
    rw[List.filter_eq_nil_iff];intro j hj;rw[hp j (by have:=List.mem_range.1 hj;omega)];have:=List.mem_range.1 hj;simp;omega
   rw[h1,List.nil_append,List.filter_cons,hp i (by omega)];simp
  ·rw[qM m (by omega) fun j hj=>hp j (by omega),List.filter_cons,hp m (by omega)];simp[Ne.symm e]
theorem cJ{nm:List String}(h:P.funcs.toList.map (fun F:Func=>F.name)=nm){n:String}{i:Nat}(hi:nm[i]?=some n)(h1:(nm.take i).all (fun x=>!(x==n))=true)(h2:(nm.drop (i+1)).all (fun x=>!(x==n))=true):P.funcNamed n=some i:=by
 have qe:nm.length=P.funcs.size:=by rw[<-h,List.length_map,Array.length_toList]
 have qj:i<nm.length:=by
  obtain⟨q,_⟩:=List.getElem?_eq_some_iff.1 hi;exact q
 have vx:∀j,(P.funcs[j]?).map (fun F:Func=>F.name)=nm[j]?:=fun j=>by rw[<-h,List.getElem?_map,Array.getElem?_toList]
 have hp:∀j,j<P.funcs.size->((P.funcs[j]?).any (·.name==n))=decide (j=i):=by
  intro j hj;have hx:nm[j]?=some (nm[j]'(by omega)):=List.getElem?_eq_getElem (by omega);generalize nm[j]'(by omega)=x at hx;have hq:=vx j;rw[hx] at hq;cases hF:P.funcs[j]? with
  |none=>rw[hF] at hq;cases hq
  |some F=>
   rw[hF] at hq;have hq:F.name=x:=Option.some.inj hq;simp only[Option.any_some,hq];by_cases e:j=i
   ·subst e;rw[hi] at hx;cases hx;simp
   ·have qn:(x==n)=false:=by
     rcases Nat.lt_or_ge j i with hl|hl
     ·rw[List.all_eq_true] at h1;have:=h1 x (List.mem_of_getElem? (i:=j) (by rw[List.getElem?_take,if_pos hl];exact hx));simpa using this
     ·rw[List.all_eq_true] at h2;have:=h2 x (List.mem_of_getElem? (i:=j - (i+1)) (by rw[List.getElem?_drop,show i+1+(j - (i+1))=j by omega];exact hx));simpa using this
    rw[qn];simp[e]
 unfold Program.funcNamed;rw[qM P.funcs.size (by omega) hp]
def iL{α:Type}:List α->Nat->Tr α->Tr α
 |[],_,t=>t
 |x::l,i,t=>iL l (i+1) (t.set i (some x))
theorem aDc{α:Type}:∀(l:List α) (i:Nat) (t:Tr α) (j:Nat),(∀k,i<=k->t.get k=none)->(iL l i t).get j=if i<=j then l[j - i]? else t.get j
 |[],i,t,j,h=>by
  simp only[iL];split
  ·rename_i hj;rw[h j hj];simp
  ·rfl
 |x::l,i,t,j,h=>by
  simp only[iL];rw[aDc l (i+1) _ j (fun k hk=>by rw[Tr.get_set,if_neg (by omega)];exact h k (by omega)),Tr.get_set];by_cases e:j=i
  ·subst e;rw[if_neg (by omega),if_pos rfl,if_pos (Nat.le_refl _),Nat.sub_self];rfl
  ·rw[if_neg e];by_cases q:i+1<=j
   ·rw[if_pos q,if_pos (by omega),show j - i=(j - (i+1))+1 by omega,List.getElem?_cons_succ]
   ·rw[if_neg q,if_neg (by omega)]
theorem vW{α:Type}(l:List α)(j:Nat):(iL l 0 .nil).get j=l[j]?:=by
 rw[aDc l 0 .nil j (fun k _=>Tr.get_nil k),if_pos (Nat.zero_le _),Nat.sub_zero]
def clT(T:Tr NL):Nat->List Nat->Tr Unit->List Nat->List Nat
 |0,_,_,acc=>acc.reverse
 |_+1,[],_,acc=>acc.reverse
 |n+1,f::todo,s,acc=>match s.get f with
  |some _=>clT T n todo s acc
  |none=>clT T n ((T.get f).getD []++todo) (s.set f (some ())) (f::acc)
theorem aYy{T:List NL}(hT:P.funcs.toList.map P.leadsTo=T):∀(n:Nat) (todo:NL) (s:Tr Unit) (acc:NL),(∀x,acc.contains x=(s.get x).isSome)->clT (iL T 0 .nil) n todo s acc=P.closureVia n todo acc:=by
 have vx:∀f,(P.funcs[f]?).elim [] P.leadsTo=((iL T 0 .nil).get f).getD []:=fun f=>by
  rw[vW,<-hT,List.getElem?_map,Array.getElem?_toList];cases P.funcs[f]?<;>rfl
 intro n
 induction n with
 |zero=>intro todo s acc _;simp only[clT,Program.closureVia]
 |succ n ih=>
  intro todo s acc hs;cases todo with
  |nil=>simp only[clT,Program.closureVia]
  |cons f todo=>
   simp only[clT,Program.closureVia];cases hf:s.get f with
   |some u=>rw[hs f,hf,Option.isSome_some,if_pos rfl];exact ih todo s acc hs
   |none=>
    rw[hs f,hf,Option.isSome_none,if_neg (by decide),vx f];refine ih _ _ _ fun x=>?_;rw[Tr.get_set,List.contains_cons,hs x];by_cases e:x=f
    ·subst e;simp
    ·rw[if_neg e];simp[e]
theorem tJ{T:List NL}(hT:P.funcs.toList.map P.leadsTo=T)(f:Nat){fuel:Nat}(hf:1+(T.map fun l=>l.length+1).sum=fuel){C:NL}(hC:clT (iL T 0 .nil) fuel [f] .nil []=C):P.closure f=C:=by
 have hs:∀x:Nat,([]:NL).contains x=((Tr.nil:Tr Unit).get x).isSome:=fun x=>by rw[Tr.get_nil];rfl
 have e:(P.funcs.toList.map fun g=>(P.leadsTo g).length+1)=T.map fun l=>l.length+1:=by rw[<-hT,List.map_map];rfl
 rw[<-hC,aYy hT fuel [f] .nil [] hs,Program.closure,e,hf]
theorem pD{β:Type}{q:Func->Option β}{I:List (Option β)}(h:P.funcs.toList.map q=I)(C:NL):(C.filterMap fun g=>(P.funcs[g]?).bind q)=C.filterMap fun g=>((iL I 0 .nil).get g).bind id:=by
 congr 1;funext g;rw[vW,<-h,List.getElem?_map,Array.getElem?_toList];cases P.funcs[g]?<;>rfl
theorem aGw{β:Type}{q:Func->List β}{I:List (List β)}(h:P.funcs.toList.map q=I)(C:NL):(C.flatMap fun g=>(P.funcs[g]?).elim [] q)=C.flatMap fun g=>((iL I 0 .nil).get g).getD []:=by
 congr 1;funext g;rw[vW,<-h,List.getElem?_map,Array.getElem?_toList];cases P.funcs[g]?<;>rfl
theorem aOc{I:List NL}(h:P.funcs.toList.map (fun F:Func=>F.body.elim [] Code.globalsNamed)=I)(C:NL):(C.flatMap fun g=>((P.funcs[g]?).bind (·.body)).elim [] Code.globalsNamed)=C.flatMap fun g=>((iL I 0 .nil).get g).getD []:=by
 rw[<-aGw h];congr 1;funext g;cases P.funcs[g]?<;>rfl
end
end Go.AM
namespace Go.AM
open Go.RowKit
variable [σ:Sg]
variable [γ:Gam]
omit [γ:Gam] in
inductive Takes:OL->OL->OL->Prop
 |nil {L:OL}:Takes [] L L
 |cons {N:Nat} {o:AObj} {r L L1 L2:OL} (h:Rem N o L L1) (k:Takes r L1 L2):Takes ((N,o)::r) L L2
theorem Takes.sub{T L L0:OL}(h:Takes T L L0):L0.Sublist L:=by
 induction h with
 |nil=>exact List.Sublist.refl _
 |cons h _ ih=>exact ih.trans h.sub
theorem Takes.mem{T L L0:OL}(h:Takes T L L0):∀p∈T,p∈L:=by
 induction h with
 |nil=>intro p hp;cases hp
 |cons h _ ih=>
  intro p hp;rcases List.mem_cons.1 hp with rfl|hp
  ·exact h.mem
  ·exact h.sub.subset (ih p hp)
omit [γ:Gam] in
def ids(L:OL)(j:Nat):Prop:=∃p∈L,p.1=j
theorem Takes.ne{T L L0:OL}(h:Takes T L L0):L.Pairwise (fun p q=>p.1≠q.1)->∀p∈L0,¬ids T p.1:=by
 induction h with
 |nil=>rintro _ p _ ⟨q,hq,_⟩;cases hq
 | @cons N o r L L1 L2 h k ih=>
   rintro hd p hp ⟨q,hq,e⟩;rcases List.mem_cons.1 hq with rfl|hq
   ·exact h.ne hd p (k.sub.subset hp) e.symm
   ·exact ih (hd.sublist h.sub) p hp ⟨q,hq,e⟩
omit [γ:Gam] in
structure Turned (Li:OL) (S H:AH) (Lo:OL):Prop where
 w0:H.w0=S.w0
 get:∀j,j<S.nx->¬ids Li j->H.tr.get j=S.tr.get j
 lt:∀j,j<S.nx->¬ids Li j->j<H.nx
 out:∀p∈Lo,H.tr.get p.1=some p.2/\p.1<H.nx/\(ids Li p.1\/S.nx<=p.1)
 dist:Lo.Pairwise (fun p q=>p.1≠q.1)
 sv:∃p,p∈Lo
omit [γ:Gam] in
def frs(A:NQ)(H H':AH)(Lo:OL):NQ:=fun j=>A j\/(H.nx<=j/\j<H'.nx/\¬ids Lo j)
omit [γ:Gam] in
def bBx(S:AH):AH:={S with nx:=0}
omit [γ:Gam] in
def aWt(S:AH)(Li:OL):NQ:=fun j=>j<S.nx/\¬ids Li j
section
variable {P:PG}{E:Env P}{G:RG}{i n d:Nat}{r:OL2}{rs:List ResultVar}{R:Value->AH->Prop}{Q:FQ}{t:Tr Value}{l:LV}{S H H0 H1:AH}{A0 A A1:NQ}{L L' Li Lo:OL}{v:Value}
 {ty:TY}{ps:String}{af:Array Edge}{gd:OB}
theorem nC{g:FuncId}{c:Code}{args:VL}(hg:E.fn g=some ⟨n,rs,c⟩)(yc:∀p∈Li,S.tr.get p.1=some p.2/\p.1<S.nx)(hd:Li.Pairwise (fun p q=>p.1≠q.1))(hf:sI args n=fr n .nil l)
 (h:SX (γ:=allG) P c (vL E rs R) (fr n .nil l) (bBx S) (aWt S Li) S (aWt S Li) Li):XCall P g args S R:=
 XCall.body E hg (by
  rw[hf];exact h S ⟨⟨rfl,Nat.zero_le _,fun i hi=>absurd hi (Nat.not_lt_zero _)⟩,fun _ _=>rfl,rfl,fun _ h=>.inl h,fun _ h=>h.1,fun p hp=>⟨(yc p hp).1,Nat.zero_le _,(yc p hp).2,fun h=>h.2 ⟨p,hp,rfl⟩⟩,hd⟩)
theorem HS.turned(h:HS (bBx S) H1 A0 A1 Lo H)(g:Gr (aWt S Li) S A1 H1)(sv:∃p,p∈Lo):Turned Li S H Lo:=by
 have key:∀j,j<S.nx->¬ids Li j->H.tr.get j=S.tr.get j/\j<H.nx:=fun j h1 h2=>by
  have ha:=g.sub j ⟨h1,h2⟩;exact⟨(h.base j ha).trans (g.get j ⟨h1,h2⟩),h.lt j ha⟩
 refine⟨h.kept.w0,fun j h1 h2=>(key j h1 h2).1,fun j h1 h2=>(key j h1 h2).2,fun p hp=>?_,h.dist,sv⟩;obtain⟨q1,_,q3,q4⟩:=h.own p hp;refine⟨q1,q3,?_⟩;by_cases e:ids Li p.1
 ·exact .inl e
 ·rcases Nat.lt_or_ge p.1 S.nx with hl|hl
  ·exact absurd (g.sub _ ⟨hl,e⟩) q4
  ·exact .inr hl
theorem HS.after{Sc Hc:AH}{L0:OL}(hH:HS Sc H0 A0 A L H)(ht:Takes Li L L0)(k:Turned Li H H1 Lo):HS Sc H1 A0 (frs A H H1 Lo) (Lo++L0) H1/\Gr A H0 (frs A H H1 Lo) H1:=by
 have r7:∀j,ids Li j->Sc.nx<=j/\j<H.nx/\¬A j:=by
  rintro j ⟨p,hp,rfl⟩;obtain⟨_,q2,q3,q4⟩:=hH.own p (ht.mem p hp);exact⟨q2,q3,q4⟩
 have bc:∀j,A j->¬ids Li j:=fun j h e=>(r7 j e).2.2 h;have mq:Sc.nx<=H1.nx:=by
  obtain⟨p,hp⟩:=k.sv;obtain⟨_,q2,q3⟩:=k.out p hp;rcases q3 with e|e
  ·have:=(r7 _ e).1;omega
  ·have:=hH.kept.nx;omega
 have qn:=ht.ne hH.dist;refine⟨⟨⟨k.w0.trans hH.kept.w0,mq,fun j hj=>?_⟩,fun _ _=>rfl,rfl,fun j hj=>?_,fun j hj=>?_,fun p hp=>?_,List.pairwise_append.2 ⟨k.dist,hH.dist.sublist ht.sub,fun p hp q hq=>?_⟩⟩,⟨fun j hj=>.inl hj,fun j hj=>?_,k.w0.trans hH.w0.symm⟩⟩
 ·have h1:¬ids Li j:=fun e=>by have:=(r7 j e).1;omega
  exact(k.get j (Nat.lt_of_lt_of_le hj hH.kept.nx) h1).trans (hH.kept.get j hj)
 ·rcases hj with hj|⟨hj,_⟩
  ·exact hH.sub j hj
  ·exact .inr (Nat.le_trans hH.kept.nx hj)
 ·rcases hj with hj|⟨_,hj,_⟩
  ·exact k.lt j (hH.lt j hj) (bc j hj)
  ·exact hj
 ·rcases List.mem_append.1 hp with hp|hp
  ·obtain⟨q1,q2,q3⟩:=k.out p hp;refine⟨q1,?_,q2,?_⟩
   ·rcases q3 with q3|q3
    ·exact(r7 _ q3).1
    ·exact Nat.le_trans hH.kept.nx q3
   ·rintro(h|⟨_,_,h⟩)
    ·rcases q3 with q3|q3
     ·exact bc _ h q3
     ·have:=hH.lt _ h;omega
    ·exact h ⟨p,hp,rfl⟩
  ·obtain⟨q1,q2,q3,q4⟩:=hH.own p (ht.sub.subset hp);refine⟨(k.get _ q3 (qn p hp)).trans q1,q2,k.lt _ q3 (qn p hp),?_⟩;rintro(h|⟨h,_,_⟩)
   ·exact q4 h
   ·omega
 ·intro e;rcases(k.out p hp).2.2 with h|h
  ·exact qn q hq (e▸h)
  ·have:=(hH.own q (ht.sub.subset hq)).2.2.1;omega
 ·exact(k.get j (hH.lt j hj) (bc j hj)).trans (hH.base j hj)
theorem HS.perm(h:HS S H0 A0 A L H)(hp:L'.Perm L):HS S H0 A0 A L' H:=
 ⟨h.kept,h.base,h.w0,h.sub,h.lt,fun p q=>h.own p (hp.subset q),(List.Perm.pairwise_iff (fun {a b} (q:a.1≠b.1)=>q.symm) hp).2 h.dist⟩
theorem HS.after0{Sc Hc:AH}{L0:OL}(hH:HS Sc H0 A0 A L H)(ht:Takes Li L L0)(k:Turned Li H H1 Lo):HS Sc H0 A0 A (Lo++L0) H1:=by
 obtain⟨hs,g⟩:=hH.after (Hc:=H) ht k;exact⟨hs.kept,fun j hj=>g.get j hj,g.w0.symm,fun j hj=>hs.sub j (.inl hj),fun j hj=>hs.lt j (.inl hj),fun p hp=>by
  obtain⟨q1,q2,q3,q4⟩:=hs.own p hp;exact⟨q1,q2,q3,fun h=>q4 (.inl h)⟩,hs.dist⟩
theorem bBi{f:Fr}{ops:OL2}(hp:L'.Perm L)(hD:G.D=true->G.Lw.Sublist L')(h:SO E G i ops Q f H0 A L'):SO E G i ops Q f H0 A L:=fun vg H hH=>h (vg.list hD) H (hH.perm hp)
theorem zU{c:Call}{g:FuncId}{vs:VL}{L0:OL}(T:Value->OL->Prop)(hw:gok G.ops l gd=true)(qd:Nat.ble (d+1) n=true)(hm:G.D=true->i∈G.ms)(hc:c.callee=.value (.func g))(hg:∃fn,E.fn g=some fn)(ha:Opvs l c.args.toList vs)(ht:Takes Li L L0)(vg:G.D=true->G.Lw.Sublist L0)
 (hk:∀H,HS G.S H0 G.A0 A L H->XCall P g vs H fun u H'=>∃Lo,Turned Li H H' Lo/\T u Lo)
 (h:∀u Lo,T u Lo->SO E G (i+1) r Q (fr n t ((d,u)::l)) H0 A (Lo++L0)):SO E G i (⟨some d,.call c,ty,ps,af,gd⟩::r) Q (fr n t l) H0 A L:=
 dS hw rfl qd hm fun hD H hH=>by
  obtain⟨fn,hg⟩:=hg;obtain⟨u,H',⟨Lo,hT,hu⟩,zo,qm⟩:=hk H hH;refine⟨u,H',H0,A,Lo++L0,.inr ⟨zo,g,vs,?_,qm⟩,hH.after0 (Hc:=H) ht hT,hD.list fun hD=>(vg hD).trans (List.sublist_append_right _ _),h u Lo hu⟩;simp only[bN,hc,aAw,hg,ha.ok,List.append_nil,List.nil_append]
end
end Go.AM
namespace Go.AM
open Go.RowKit
variable [σ:Sg]
variable [γ:Gam]
section
variable {P:PG}{E:Env P}{t:TY}{k k':IntKind}{a b c:Int}
theorem mN(hb:0<=b)(h:a.fdiv (2^(min b.toNat k.bits))=c):aS E .shr t (.int k a) (.int k' b)=some (.int k c):=by
 have:¬b<0:=by omega
 simp only[aS,this,if_false,h]
theorem aZt(hb:0<=b)(h:k.wrap (a*2^(min b.toNat k.bits))=c):aS E .shl t (.int k a) (.int k' b)=some (.int k c):=by
 have:¬b<0:=by omega
 simp only[aS,this,if_false,h]
theorem wC(h:bits .xor k a b=c):aS E .xor t (.int k a) (.int k b)=some (.int k c):=by simp[aS,bW,h]
theorem aBq(h:bits .and k a b=c):aS E .and t (.int k a) (.int k b)=some (.int k c):=by simp[aS,bW,h]
theorem bDm(h:bits .or k a b=c):aS E .or t (.int k a) (.int k b)=some (.int k c):=by simp[aS,bW,h]
theorem aYf{s u v:BA}(hl:s.data.toList.length+u.data.toList.length<=9223372036854775807)(h:v=⟨⟨s.data.toList++u.data.toList⟩⟩):aS E .add t (.string s) (.string u)=some (.string v):=by
 subst h;have e1:s.size=s.data.toList.length:=by rw[Array.length_toList];rfl
 have e2:u.size=u.data.toList.length:=by rw[Array.length_toList];rfl
 simp only[aS,rG,e1,e2,hl,if_true]
end
section
variable {P:PG}{E:Env P}{G:RG}{i n d:Nat}{r:OL2}{Q:FQ}{t:Tr Value}{l:LV}{H0:AH}{A:NQ}{L L':OL}{v:Value}
 {ty:TY}{ps:String}{af:Array Edge}{gd:OB}{x y:Operand}
theorem aTv{op:UnOp}{ta:TY}{a:Value}(hw:gok G.ops l gd=true)(qd:Nat.ble (d+1) n=true)(hx:opv l x=some a)(hb:aun op a=some v)(h:SO E G (i+1) r Q (fr n t ((d,v)::l)) H0 A L):
 SO E G i (⟨some d,.unOp op ta x,ty,ps,af,gd⟩::r) Q (fr n t l) H0 A L:=
 bJ hw rfl qd rfl (fun H=>by simp only[aop,aI hx,aVh,hb,aQ]) h
theorem aAn{kk:IntKind}{b off m j s o':Nat}{e:TY}{ii:TI}{ta:TY}(hw:gok G.ops l gd=true)(qd:Nat.ble (d+1) n=true)(hx:opv l x=some (.pointer (some ⟨b,off,none⟩)))(hy:opv l y=some (.int kk ((j:Nat):Int)))(hu:E.und ta=some (.array m e))(hi:E.inf e=some ii)(hs:ii.size=s)
 (hj:j<m)(ho:off+j*s=o')(h:SO E G (i+1) r Q (fr n t ((d,.pointer (some ⟨b,o',none⟩))::l)) H0 A L):SO E G i (⟨some d,.indexAddr ta x y,ty,ps,af,gd⟩::r) Q (fr n t l) H0 A L:=
 bJ hw rfl qd rfl (fun H=>by
  have:lM (.int kk ((j:Nat):Int)) m=some j:=by simp only[lM];rw[if_pos ⟨by omega,by omega⟩];simp
  simp only[aop,aI hx,aI hy,bE,hu,hi,this,aQ,hs,gH,ho]) h
theorem aAr{sT dT e:TY}{N m c sz:Nat}{cs:VL}{ex:Bool}{bs:BL}(hw:gok G.ops l gd=true)(qd:Nat.ble (d+1) n=true)(hm:G.D=true->i∈G.ms)(hx:opv l x=some (.slice (some ⟨2*N+1,0,none⟩) m c))(hs:E.und sT=some (.slice e))(he:E.und e=some (.int .u8))(hd:E.und dT=some .string)
 (zu:(N,AObj.cells cs sz ex)∈L)(hl:cs.length=m)(hb:jQ cs=some bs)(h:SO E G (i+1) r Q (fr n t ((d,.string ⟨⟨bs⟩⟩)::l)) H0 A L):
 SO E G i (⟨some d,.convert sT dT x,ty,ps,af,gd⟩::r) Q (fr n t l) H0 A L:=
 dS hw rfl qd hm fun hD H hH=>by
  refine⟨.string ⟨⟨bs⟩⟩,H,H0,A,L,.inl ?_,hH,hD,h⟩;have hg:=iB (hH.own _ zu).1 0 m none (by omega);rw[List.drop_zero,<-hl,List.take_length] at hg;simp only[aop,aI hx,kK,hs,hd,he,<-hl,hg,hb]
theorem aJp{sT dT e:TY}{m:Nat}(hw:gok G.ops l gd=true)(qd:Nat.ble (d+1) n=true)(hm:G.D=true->i∈G.ms)(hx:opv l x=some (.slice none m 0))(hs:E.und sT=some (.slice e))(he:E.und e=some (.int .u8))(hd:E.und dT=some .string)
 (h:SO E G (i+1) r Q (fr n t ((d,.string ⟨⟨[]⟩⟩)::l)) H0 A L):SO E G i (⟨some d,.convert sT dT x,ty,ps,af,gd⟩::r) Q (fr n t l) H0 A L:=
 dS hw rfl qd hm fun hD H hH=>by
  refine⟨.string ⟨⟨[]⟩⟩,H,H0,A,L,.inl ?_,hH,hD,h⟩;simp only[show Nat.beq 0 1=false from rfl,QF,aop,aI hx,kK,hs,hd,he]
end
omit [γ:Gam] in
def dN(b:UInt8):Value:=.int .u8 (b.toNat:Int)
theorem zZ(l:BL):jQ (l.map dN)=some l:=by
 induction l with
 |nil=>rfl
 |cons b l ih=>simp[jQ,dN,ih]
theorem aDq(l:BL):aY (l.map dN)=true:=by
 induction l with
 |nil=>rfl
 |cons b l ih=>simp[aY,dN,ih,Value.oneCell']
theorem sV(n:Nat):IntKind.u8.wrap (n:Int)=((n%256:Nat):Int):=by
 have e:IntKind.u8.wrap (n:Int)=(n:Int)%256:=rfl;rw[e];omega
theorem jI:∀n:Int,0<=n->n<2^32->IntKind.u32.wrap n=n:=fun n h0 h1=>by
 have e:IntKind.u32.wrap n=n%4294967296:=rfl;rw[e];omega
theorem aNc:∀n:Int,0<=n->n<2^8->IntKind.u8.wrap n=n:=fun n h0 h1=>by
 have e:IntKind.u8.wrap n=n%256:=rfl;rw[e];omega
theorem oK{x j:Nat}{b:Int}{k:IntKind}(h:min b.toNat k.bits=j):((x:Nat):Int).fdiv (2^(min b.toNat k.bits))=((x / 2^j:Nat):Int):=by
 rw[h,show(2:Int)^j=((2^j:Nat):Int) by simp,Int.ofNat_fdiv]
theorem jD(k:IntKind)(j:Nat)(hj:j<=k.bits)(hk:∀n:Int,0<=n->n<2^j->k.wrap n=n)(a b:Nat)(ha:a<2^j)(hb:b<2^j):bits .xor k a b=((a ^^^ b:Nat):Int):=by
 have hp:2^j<=2^k.bits:=Nat.pow_le_pow_right (by decide) hj;have dy:a%2^k.bits=a:=Nat.mod_eq_of_lt (Nat.lt_of_lt_of_le ha hp);have xx:b%2^k.bits=b:=Nat.mod_eq_of_lt (Nat.lt_of_lt_of_le hb hp);have cast:∀n:Nat,n<2^j->((n:Nat):Int)<2^j:=fun n h=>by exact_mod_cast h
 simp only[bits,BitVec.ofInt_natCast,BitVec.toNat_xor,BitVec.toNat_ofNat,dy,xx];exact hk _ (Int.natCast_nonneg _) (cast _ (Nat.xor_lt_two_pow ha hb))
end Go.AM
