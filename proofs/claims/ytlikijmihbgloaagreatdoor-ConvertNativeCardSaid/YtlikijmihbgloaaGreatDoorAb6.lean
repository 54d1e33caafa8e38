/-
  An abstract machine that runs a program of the given form, and its soundness, part 6.
-/
import Derived.Test.YtlikijmihbgloaaGreatDoorAb5
import GoSem.ClaimJoined
import Derived.Lib.SlicesCompact
set_option linter.unusedVariables false
set_option linter.unusedSimpArgs false
set_option linter.unusedSectionVars false
noncomputable section
namespace Go.AM
open Go.RowKit
variable [σ:Sg]
variable [γ:Gam]
omit [γ:Gam] in
def mkV:Option Nat->Nat->Value
 |none,b=>.pointer (some ⟨b,0,none⟩)
 |some n,b=>.slice (some ⟨b,0,none⟩) n n
omit [γ:Gam] in
def aPg [π:Pins](w:World)(N0:Nat)(φ:PL)(H:AH)(k:Option Nat)(o:AObj)(b:Nat):Prop:=
 N0<=b/\(∃x tot sz,w.heap[b]?=some x/\(∀n,k=some n->n*esz sz<=tot)/\∀ψ,φ <+: ψ->ORel ψ ⟨b,0,tot,sz⟩ o (some x))/\(∀(i:Nat) p,φ[i]?=some p->p.blk≠b)/\∀b' x,π.pin b'=some x->b'≠b
theorem Rel.pushOld [Pins]{φ:PL}{H:AH}{w:World}{k:Option Nat}{o:AObj}{b:Nat}(R:Rel φ H w)(h:aPg w H.w0.heap.size φ H k o b):∃p:Place,p.blk=b/\p.base=0/\(∀n,k=some n->n*esz p.sz<=p.tot)/\Rel (φ++[p]) (dI H o) w:=by
 obtain⟨hN,⟨x,tot,sz,hx,hk,hO⟩,hd,hpn⟩:=h;have qo:φ <+: φ++[⟨b,0,tot,sz⟩]:=⟨_,rfl⟩
 refine⟨⟨b,0,tot,sz⟩,rfl,rfl,hk,R.below,by simp[dI,R.len],fun i o' hi=>?_,fun i j o1 o2 p q hi hj hp hq e=>?_,fun b' y xx=>⟨(R.pin b' y xx).1,qO R b' y xx (fun e=>hpn b' y xx e.symm)⟩,tZ R.lt (Nat.le_refl _) (alt_of_getElem? hx),R.ro' rfl qo fun i hi h=>by
  have:i≠H.nx:=by have:=R.len;omega
  simp only[dI];rw[Tr.get_set_ne _ _ this];exact h⟩
 ·by_cases yc:i=H.nx
  ·subst yc;simp only[dI,Tr.get_set_same] at hi;cases hi;refine⟨⟨b,0,tot,sz⟩,by rw[<-R.len];simp,hN,?_⟩;rw[hx];exact hO _ qo
  ·simp only[dI,Tr.get_set_ne _ _ yc] at hi;obtain⟨p,hp,hN,hO⟩:=R.obj i o' hi;exact⟨p,getElem?_prefix qo hp,hN,hO.mono qo⟩
 ·have zq:∀i o,H.tr.get i=some o->i<H.nx:=by
   intro i o hi;obtain⟨q,hq,_⟩:=R.obj i o hi;rw[<-R.len];exact lt_of_getElem? hq
  have back:∀i o',(H.tr.set H.nx (some o)).get i=some o'->i≠H.nx->H.tr.get i=some o':=fun i o' h qn=>by rwa [Tr.get_set_ne _ _ qn] at h
  have pl:∀i p,i<H.nx->(φ++[(⟨b,0,tot,sz⟩:Place)])[i]?=some p->φ[i]?=some p:=by
   intro i p hl hp
   rwa [List.getElem?_append_left (by rw[R.len];exact hl)] at hp
  have pn:∀p,(φ++[(⟨b,0,tot,sz⟩:Place)])[H.nx]?=some p->p.blk=b:=by
   intro p hp;rw[<-R.len] at hp;simp at hp;subst hp;rfl
  by_cases h1:i=H.nx<;>by_cases h2:j=H.nx
  ·omega
  ·have xk:=back j o2 hj h2;subst h1;exact absurd (e.symm.trans (pn p hp)) (hd j q (pl j q (zq j o2 xk) hq))
  ·have ql:=back i o1 hi h1;subst h2;exact absurd (e.trans (pn q hq)) (hd i p (pl i p (zq i o1 ql) hp))
  ·have ql:=back i o1 hi h1;have xk:=back j o2 hj h2;exact R.inj i j o1 o2 p q ql xk (pl i p (zq i o1 ql) hp) (pl j q (zq j o2 xk) hq) e
theorem aMo{P:PG}(E:Env P){ty:TY}{ii:TI}{z:Value}(hi:E.inf ty=some ii)(hz:ii.zero=some z){o:Oper}(qi:o.op=.alloc ty)(ρ:Operand->Value)(w:World):
 ∃x,(execOp ρ o).run P w=.ok (.value (.pointer (some ⟨w.heap.size,0,none⟩))) (w.alloc x)/\∃tot,∀ψ,ORel ψ ⟨w.heap.size,0,tot,fD E ty⟩ (.cells (ext z).cells.toList (fD E ty) true) (some x):=by
 refine⟨.cells z.cells ty,?_,z.cells.size,fun ψ=>?_⟩
 ·simp[execOp,qi,Instr.alloc,bD E hi hz,newVar,newRow]
 ·have hc:=(VR.ext ψ z).cells;refine⟨z.cells,ty,0,0,rfl,fun k _=>by omega,rfl,⟨rfl,aJv E ty,fun _=>rfl⟩,?_,fun _=>?_,?_⟩
  ·rw[hc.1];simp
  ·rw[hc.1];simp
  ·have e:((z.cells.toList.drop 0).take (ext z).cells.toList.length)=z.cells.toList:=by rw[hc.1,List.drop_zero,List.take_length]
   rw[e];exact hc
theorem aXo{φ:PL}{n:Nat}(hn:φ.length=n)(p:Place)(hp:p.base=0){k:Option Nat}(hk:∀m,k=some m->m*esz p.sz<=p.tot):VR (φ++[p]) (mkV k (2*n+1)) (mkV k p.blk):=by
 cases k with
 |none=>exact .ptr (ARel.new φ n hn p hp)
 |some m=>exact .slc (SRel.new hn p hp (Nat.le_refl _) (Nat.le_refl _) (hk m rfl))
omit [γ:Gam] in
def wN(P:PG)(o:Oper)(ρ:Operand->Value)(k:Option Nat)(ob:AObj):Prop:=
 ∀(ρ':Operand->Value) (w:World) (φ:PL),(∀x∈o.op.operands,VR φ (ρ x) (ρ' x))->∃x tot sz,(execOp ρ' o).run P w=.ok (.value (mkV k w.heap.size)) (w.alloc x)/\(∀n,k=some n->n*esz sz<=tot)/\∀ψ,φ <+: ψ->ORel ψ ⟨w.heap.size,0,tot,sz⟩ ob (some x)
theorem aBc{P:PG}(E:Env P){ty:TY}{ii:TI}{z:Value}(hi:E.inf ty=some ii)(hz:ii.zero=some z){o:Oper}(qi:o.op=.alloc ty)(ρ:Operand->Value):wN P o ρ none (.cells (ext z).cells.toList (fD E ty) true):=fun ρ' w φ _=>by
 obtain⟨x,h1,tot,h2⟩:=aMo E hi hz qi ρ' w;exact⟨x,tot,fD E ty,h1,(fun n h=>by cases h),fun ψ _=>h2 ψ⟩
omit [γ:Gam] in
structure TraceF {P:PG} (E:Env P) (ops:OA) (F:Nat->Fr) (HH:Nat->AH) (V:Nat->Value) (M Fl:Nat->Bool):Prop extends Trace0 ops F V where
 step:∀(i:Nat) o,ops[i]?=some o->Fl i=false->
  (aR ops (bV (F i)) o=false/\V i=undef/\M i=false)\/
  (aR ops (bV (F i)) o=true/\M i=false/\bX E o.op=true/\∀t,t<=ops.size->(∀j,j<ops.size->M j=true->((bef ops).getD i 0).testBit j=true->j<t)->
   (∀j,j<ops.size->M j=true->((bef ops).getD j 0).testBit i=true->t<=j)->aop E (aN (F i)) o.op (HH t)=some (V i,HH t))\/
  (aR ops (bV (F i)) o=true/\M i=true/\aop E (aN (F i)) o.op (HH i)=some (V i,HH (i+1)))\/
  (aR ops (bV (F i)) o=true/\M i=true/\∃g args,bN E (aN (F i)) o.op=some (g,args)/\ACalls P g args (HH i) fun v H'=>v=V i/\H'=HH (i+1))
 flop:∀(i:Nat) o,ops[i]?=some o->Fl i=true->M i=true/\aR ops (bV (F i)) o=true/\∃d k ob,o.dst=some d/\V i=mkV k (2*(HH i).nx+1)/\HH (i+1)=dI (HH i) ob/\wN P o (aN (F i)) k ob
 still:∀i,i<ops.size->M i=false->HH (i+1)=HH i
 mains:∀i j,i<j->j<ops.size->M i=true->M j=true->((bef ops).getD j 0).testBit i=true\/Fl j=true
 all:∀k i j,k<ops.size->i<ops.size->j<i->Fl k=false->Fl i=true->M j=true->((bef ops).getD k 0).testBit i=true->((bef ops).getD k 0).testBit j=true
 nofl:∀i j,i<ops.size->j<ops.size->Fl i=true->Fl j=true->((bef ops).getD i 0).testBit j=false
section
variable {P:PG}{E:Env P}{ops:OA}{F:Nat->Fr}{HH:Nat->AH}{V:Nat->Value}{M Fl:Nat->Bool}
omit [γ:Gam] in
def Pd(Fl:Nat->Bool)(S:Nat->Bool)(t j:Nat):Prop:=Fl j=true/\S j=true/\t<=j
omit [γ:Gam] in
structure InvC [Pins] (ops:OA) (F:Nat->Fr) (HH:Nat->AH) (V:Nat->Value) (M Fl S:Nat->Bool) (φ':PL) (t:Nat) (bl:Nat->Nat) (a:Act) (w:World):Prop where
 le:t<=ops.size
 rel:Rel φ' (HH t) w
 pre:∀j,j<ops.size->M j=true->j<t->S j=true
 post:∀j,j<ops.size->M j=true->t<=j->S j=true->Fl j=true
 slots:∀d,(∀j o,ops[j]?=some o->Pd Fl S t j->o.dst≠some d)->VR φ' (jS (F 0) ops V S ops.size d) (a.tmps.getD d undef)
 pend:∀j o,ops[j]?=some o->Pd Fl S t j->∃ob k,HH (j+1)=dI (HH j) ob/\V j=mkV k (2*(HH j).nx+1)/\aPg w (HH 0).w0.heap.size φ' (HH t) k ob (bl j)/\∃d,o.dst=some d/\a.tmps.getD d undef=mkV k (bl j)
 inj:∀i j,i<ops.size->j<ops.size->Pd Fl S t i->Pd Fl S t j->bl i=bl j->i=j
 dep:∀k j,k<ops.size->j<ops.size->S k=true->Pd Fl S t j->((bef ops).getD k 0).testBit j=false
theorem InvC.normal [Pins](T:TraceF E ops F HH V M Fl)(zo:∀i,i<ops.size->(HH (i+1)).w0=(HH i).w0){S:Nat->Bool}(hS:dU ops S){a:Act}{w:World}:∀(n t:Nat) (φ':PL) (bl:Nat->Nat),ops.size - t=n->InvC ops F HH V M Fl S φ' t bl a w->
 ∃φ2 t2,φ' <+: φ2/\InvC ops F HH V M Fl S φ2 t2 bl a w/\(t2=ops.size\/(t2<ops.size/\M t2=true/\S t2=false)):=by
 intro n
 induction n with
 |zero=>intro t φ' bl hn hI;have:=hI.le;exact⟨φ',t,List.prefix_refl _,hI,.inl (by omega)⟩
 |succ n ih=>
  intro t φ' bl hn hI;have qj:t<ops.size:=by omega
  have ho:ops[t]?=some ops[t]:=Array.getElem?_eq_getElem qj;cases hM:M t with
  |false=>
   have qn:∀j,Fl j=true->j<ops.size->j≠t:=by
    intro j hF hj e;subst e;have:=(T.flop j _ ho hF).1;rw[hM] at this;cases this
   have xq:∀j,j<ops.size->(Pd Fl S (t+1) j↔Pd Fl S t j):=by
    intro j hj;constructor
    ·rintro⟨h1,h2,h3⟩;exact⟨h1,h2,by omega⟩
    ·rintro⟨h1,h2,h3⟩;have:=qn j h1 hj;exact⟨h1,h2,by omega⟩
   have hH:=T.still t qj hM
   refine ih (t+1) φ' bl (by omega) ⟨by omega,by rw[hH];exact hI.rel,fun j hj zf vw=>?_,fun j hj zf vw=>hI.post j hj zf (by omega),fun d hd=>hI.slots d fun j o hj hp=>hd j o hj ((xq j (alt_of_getElem? hj)).2 hp),fun j o hj hp=>?_,
    fun i j hi hj h1 h2=>hI.inj i j hi hj ((xq i hi).1 h1) ((xq j hj).1 h2),fun k j hk hj h1 h2=>hI.dep k j hk hj h1 ((xq j hj).1 h2)⟩
   ·by_cases e:j=t
    ·subst e;rw[hM] at zf;cases zf
    ·exact hI.pre j hj zf (by omega)
   ·rw[hH];exact hI.pend j o hj ((xq j (alt_of_getElem? hj)).1 hp)
  |true=>
   cases mb:S t with
   |false=>exact⟨φ',t,List.prefix_refl _,hI,.inr ⟨qj,hM,mb⟩⟩
   |true=>
    have hF:=hI.post t qj hM (Nat.le_refl _) mb;obtain⟨ob,kk,h1,hV,h2,d,hd,h3⟩:=hI.pend t _ ho ⟨hF,mb,Nat.le_refl _⟩;have cg:(HH t).w0=(HH 0).w0:=lF zo t (by omega);obtain⟨p,tf,xr,kg,hR⟩:=hI.rel.pushOld (by rw[cg];exact h2);have xq:∀j,Pd Fl S (t+1) j->Pd Fl S t j/\j≠t:=fun j ⟨a1,a2,a3⟩=>⟨⟨a1,a2,by omega⟩,by omega⟩;have qo:φ' <+: φ'++[p]:=⟨_,rfl⟩;have hI2:InvC ops F HH V M Fl S (φ'++[p]) (t+1) bl a w:=by
     refine⟨by omega,by rw[h1];exact hR,fun j hj zf vw=>?_,fun j hj zf vw=>hI.post j hj zf (by omega),fun d' fw=>?_,fun j o hj hp=>?_,fun i j hi hj a1 a2=>hI.inj i j hi hj (xq i a1).1 (xq j a2).1,fun k j hk hj a1 a2=>hI.dep k j hk hj a1 (xq j a2).1⟩
     ·by_cases e:j=t
      ·subst e;exact mb
      ·exact hI.pre j hj zf (by omega)
     ·by_cases e:d'=d
      ·subst e;have jv:jS (F 0) ops V S ops.size d'=V t:=by
        rw[kY (i:=t+1) ops.size (by omega) ?_]
        ·simp[jS,ho,hd,mb]
        ·intro k hk pq xo;have yr:ops[k]?=some ops[k]:=Array.getElem?_eq_getElem pq;rw[yr] at xo;simp only[Option.bind_some] at xo;cases jm:S k with
         |false=>rfl
         |true=>
          rcases cG T.order (show t<k by omega) ho yr with wh|hb
          ·exact absurd xo ((Oper.apart_spec wh).2.1 d' hd)
          ·rw[hI.dep k t pq qj jm ⟨hF,mb,Nat.le_refl _⟩] at hb;cases hb
       rw[jv,h3,hV,<-tf];exact aXo hI.rel.len p xr kg
      ·refine(hI.slots d' fun j o hj hp=>?_).mono qo;by_cases ejt:j=t
       ·subst ejt;rw[ho] at hj;cases hj;rw[hd];intro e2;exact e (Option.some.inj e2).symm
       ·exact fw j o hj ⟨hp.1,hp.2.1,by have:=hp.2.2;omega⟩
     ·obtain⟨ob',k',q1,qV,⟨q2,q3,q4,q4'⟩,q5⟩:=hI.pend j o hj (xq j hp).1;refine⟨ob',k',q1,qV,⟨q2,(let ⟨y,c1,c2,c3,c4,c5⟩:=q3;⟨y,c1,c2,c3,c4,fun ψ h=>c5 ψ (qo.trans h)⟩),fun i p' qc=>?_,q4'⟩,q5⟩;rcases Nat.lt_or_ge i φ'.length with rj|rj
      ·rw[List.getElem?_append_left rj] at qc;exact q4 i p' qc
      ·rw[List.getElem?_append_right rj] at qc;have h0:i - φ'.length=0:=by have:=lt_of_getElem? qc;simp at this;omega
       rw[h0] at qc;simp at qc;subst qc;rw[tf];intro e;exact(xq j hp).2 (hI.inj t j qj (alt_of_getElem? hj) ⟨hF,mb,Nat.le_refl _⟩ (xq j hp).1 e).symm
    obtain⟨φ2,t2,r1,r2,r3⟩:=ih (t+1) (φ'++[p]) bl (by omega) hI2;exact⟨φ2,t2,qo.trans r1,r2,r3⟩
theorem TraceF.any [π:Pins](T:TraceF E ops F HH V M Fl)(zo:∀i,i<ops.size->(HH (i+1)).w0=(HH i).w0){Q:AQ}(hQ:Q .normal (F ops.size) (HH ops.size))(φ:PL):
 ∀(fuel:Nat) (listed:Array Bool) (a:Act) (w:World) (φ':PL) (t:Nat) (bl:Nat->Nat),listed.size=ops.size->dU ops (fun i=>listed.getD i false)->a.defers=π.ds->a.tmps.size=(F 0).n->φ <+: φ'->
  InvC ops F HH V M Fl (fun i=>listed.getD i false) φ' t bl a w->(t=ops.size\/(t<ops.size/\M t=true/\listed.getD t false=false))->listed.toList.countP id+fuel=ops.size->wpAny P .any ops (gY φ (HH 0).w0 Q) fuel listed a w:=by
 have fin:∀(listed:Array Bool) (a:Act) (w:World) (φ':PL) (t:Nat) (bl:Nat->Nat),a.defers=π.ds->a.tmps.size=(F 0).n->φ <+: φ'->InvC ops F HH V M Fl (fun i=>listed.getD i false) φ' t bl a w->(t=ops.size\/(t<ops.size/\M t=true/\listed.getD t false=false))->
  (∀i,i<ops.size->listed.getD i false=true)->gY φ (HH 0).w0 Q .normal a w:=by
  intro listed a w φ' t bl kh vx hφ hI hn qv;obtain rfl:t=ops.size:=by
   rcases hn with h|⟨h1,_,h3⟩
   ·exact h
   ·rw[qv t h1] at h3;cases h3
  refine⟨φ',F ops.size,HH ops.size,hφ,⟨kh,by rw[vx,T.size _ (Nat.le_refl _)],fun d=>?_⟩,hI.rel,lF zo _ (Nat.le_refl _),hQ⟩;have:=hI.slots d fun j o hj hp=>by have:=alt_of_getElem? hj;have:=hp.2.2;omega
  rw[rX (S':=fun _=>true) ops.size (fun k hk _=>by simp[qv k hk]),<-T.slots d _ (Nat.le_refl _)] at this;exact this
 intro fuel
 induction fuel with
 |zero=>
  intro listed a w φ' t bl qu hS kh vx hφ hI hn hc;have qv:∀i,i<ops.size->listed.getD i false=true:=by
   have:listed.toList.countP id=listed.toList.length:=by rw[Array.length_toList,qu];omega
   rw[List.countP_eq_length] at this;intro i hi;have hm:listed[i]'(by omega)∈listed.toList:=by simp
   have:=this _ hm;simp only[id] at this;simp[Array.getD_eq_getD_getElem?,qu,hi,this]
  refine⟨?_,fin listed a w φ' t bl kh vx hφ hI hn qv⟩;rw[List.eq_nil_iff_forall_not_mem];intro i hi;unfold Region.ready at hi;rw[List.mem_filter] at hi;obtain⟨h1,h2⟩:=hi;have qj:=List.mem_range.1 h1;simp only[QB] at h2;have h3:=qv i qj;have h4:=h2.1;simp[Array.getD_eq_getD_getElem?,qu,qj] at h3 h4;rw[h3] at h4;cases h4
 |succ fuel ih=>
  intro listed a w φ' t bl qu hS kh vx hφ hI hn hc;refine⟨fun hr=>fin listed a w φ' t bl kh vx hφ hI hn ?_,fun i hi=>?_⟩
  ·intro i
   induction i using Nat.strongRecOn with
   |_ i ihi=>
    intro qj;cases hl:listed.getD i false with
    |true=>rfl
    |false=>
     exfalso;have zu:i∈Region.ready .any ops listed:=by
      unfold Region.ready;rw[List.mem_filter];refine⟨List.mem_range.2 qj,?_⟩;have ho:ops[i]?=some ops[i]:=Array.getElem?_eq_getElem qj;simp only[QB,ho,Option.map_some,Option.getD_some];refine⟨?_,?_⟩
      ·simp[Array.getD_eq_getD_getElem?,qu,qj] at hl ⊢;exact hl
      ·rw[Array.all_eq_true'];intro e he;cases hb:Region.binds .any e with
       |false=>rfl
       |true=>
        have wi:=dZ T.order ho he hb;simp[ihi e.on wi (by omega)]
     rw[hr] at zu;cases zu
  ·have ql:=hi;unfold Region.ready at ql;rw[List.mem_filter] at ql;have qj:=List.mem_range.1 ql.1;have zx:listed.getD i false=false:=by
    have h4:=ql.2;simp only[QB] at h4;have h4:=h4.1;simp[Array.getD_eq_getD_getElem?,qu,qj] at h4 ⊢;exact h4
   have ho:ops[i]?=some ops[i]:=Array.getElem?_eq_getElem qj;generalize ops[i]=o at ho;have vq:=hZ hS hi;have ve:(listed.setIfInBounds i true).toList.countP id+fuel=ops.size:=by
    rw[Array.toList_setIfInBounds,List.countP_set (by simp;omega)]
    have hget:(listed.toList[i]'(by simp;omega))=false:=by
     simp[Array.getD_eq_getD_getElem?,qu,qj] at zx;simpa using zx
    rw[hget];simp only[id,Bool.false_eq_true,if_false,if_true];omega
   have xl:(fun j=>(listed.setIfInBounds i true).getD j false)=fun j=>if j=i then true else listed.getD j false:=funext fun j=>jY (by omega)
   -- what lies before the operation has run
   have mc:∀j,j<ops.size->((bef ops).getD i 0).testBit j=true->j≠i->listed.getD j false=true:=by
    intro j hj hb qn;have:=dK vq hb (by simp)
    rwa [if_neg qn] at this
   have jx:∀j,j<ops.size->Pd Fl (fun i=>listed.getD i false) t j->t<ops.size/\M t=true/\listed.getD t false=false/\t<j:=by
    intro j hj hp;rcases hn with h|⟨h1,h2,h3⟩
    ·have:=hp.2.2;omega
    ·have qn:t≠j:=by intro e;subst e;have h4:=hp.2.1;simp only at h4;rw[h3] at h4;cases h4
     exact⟨h1,h2,h3,by have:=hp.2.2;omega⟩
   have jy:∀j,((bef ops).getD i 0).testBit j=true->j<=i:=by
    intro j hb;have yj:dU ops (fun k=>decide (k<=i)):=fun k o' ua hk e he x9=>by
     have:=dZ T.order ua he x9;simp only[decide_eq_true_eq] at hk ⊢;omega
    have:=dK yj hb (by simp);simpa using this
   have rq:Fl i=false->∀j,j<ops.size->Pd Fl (fun i=>listed.getD i false) t j->((bef ops).getD i 0).testBit j=false:=by
    intro z4 j hj hp;cases hb:((bef ops).getD i 0).testBit j with
    |false=>rfl
    |true=>
     exfalso;obtain⟨q1,q2,q3,q4⟩:=jx j hj hp;have vi:=T.all i j t qj hj q4 z4 hp.1 q2 hb;have:=mc t q1 vi (fun e=>by have:=jy j hb;omega);rw[q3] at this;cases this
   have vy:∀j,j<ops.size->listed.getD j false=true->((bef ops).getD j 0).testBit i=false:=by
    intro j hj hl;cases hb:((bef ops).getD j 0).testBit i with
    |false=>rfl
    |true=>have:=dK hS hb hl;rw[zx] at this;cases this
   have vz:∀j oj,ops[j]?=some oj->Pd Fl (fun i=>listed.getD i false) t j->(∀d,oj.dst=some d->d∉o.looksAt ops)/\(∀d,oj.dst=some d->o.dst≠some d):=by
    intro j oj cj hp;have hj:=alt_of_getElem? cj;have qn:j≠i:=by intro e;subst e;have h4:=hp.2.1;simp only at h4;rw[zx] at h4;cases h4
    have hdp:((bef ops).getD i 0).testBit j=false:=by
     cases z4:Fl i with
     |false=>exact rq z4 j hj hp
     |true=>exact T.nofl i j qj hj z4 hp.1
    rcases Nat.lt_or_gt_of_ne qn with h|h
    ·rcases cG T.order h cj ho with wh|hb
     ·exact⟨(Oper.apart_spec wh).1,(Oper.apart_spec wh).2.1⟩
     ·rw[hdp] at hb;cases hb
    ·rcases cG T.order h ho cj with wh|hb
     ·exact⟨(Oper.apart_spec wh).2.2,fun d hd qg=>(Oper.apart_spec wh).2.1 d qg hd⟩
     ·rw[vy j hj hp.2.1] at hb;cases hb
   have put_get:∀(v':Value) (d:Nat),(a.put o.dst v').tmps.getD d undef=if o.dst=some d then v' else a.tmps.getD d undef:=by
    intro v' d;cases hd:o.dst with
    |none=>simp[Act.put]
    |some d'=>
     have wi:=T.dst_lt ho hd;simp only[Act.put,Option.some.injEq];by_cases e:d'=d
     ·subst e;simp[Array.getD_eq_getD_getElem?,vx,wi]
     ·rw[if_neg e];simp[Array.getD_eq_getD_getElem?,e]
   have put_size:∀v',(a.put o.dst v').tmps.size=(F 0).n:=by
    intro v';cases hd:o.dst<;>simp[Act.put,vx]
   have put_def:∀v',(a.put o.dst v').defers=π.ds:=by
    intro v';cases hd:o.dst<;>simp[Act.put,kh]
   have jv:∀d,jS (F 0) ops V (fun j=>if j=i then true else listed.getD j false) ops.size d=if o.dst=some d then V i else jS (F 0) ops V (fun i=>listed.getD i false) ops.size d:=fun d=>T.sees_dst hS ho zx d
   -- go on
   have go:∀(φ2:PL) (t2:Nat) (bl2:Nat->Nat) (v':Value) (w':World),φ' <+: φ2->InvC ops F HH V M Fl (fun j=>if j=i then true else listed.getD j false) φ2 t2 bl2 (a.put o.dst v') w'->
    wpAny P .any ops (gY φ (HH 0).w0 Q) fuel (listed.setIfInBounds i true) (a.put o.dst v') w':=by
    intro φ2 t2 bl2 v' w' h1 h2;obtain⟨φ3,t3,r1,r2,r3⟩:=h2.normal T zo vq _ t2 φ2 bl2 rfl;refine ih _ _ _ φ3 t3 bl2 (by simp[qu]) (by rw[xl];exact vq) (put_def v') (put_size v') (hφ.trans (h1.trans r1)) (by rw[xl];exact r2) ?_ ve;rcases r3 with r3|⟨q1,q2,q3⟩
    ·exact .inl r3
    ·exact .inr ⟨q1,q2,by rw[show(listed.setIfInBounds i true).getD t3 false=if t3=i then true else listed.getD t3 false from congrFun xl t3];exact q3⟩
   unfold wpOp;rw[ho];simp only;cases z4:Fl i with
   |true=>
    obtain⟨yo,ru,d,kk,ob,jz,hV,hHH,ui⟩:=T.flop i o ho z4;have wj:∀d∈o.looksAt ops,VR φ' (bV (F i) d) (a.tmps.getD d undef):=by
     intro d hd;rw[<-T.sees hS vq ho zx hd];exact hI.slots d fun j oj hj hp e=>(vz j oj hj hp).1 d e hd
    have wl:=fV (φ:=φ') (sv:=bV (F i)) ops o wj;rw[wl,ru,if_pos rfl];left;obtain⟨x,tot,sz0,qp,pq,hO⟩:=ui a.eval w φ' (fun x hx=>by
     cases x with
     |tmp d=>exact wj d (by simp only[Oper.looksAt,List.mem_append,List.mem_filterMap];exact .inl ⟨.tmp d,by simpa using hx,rfl⟩)
     |const v=>exact VR.ext φ' v
     |global g=>exact .ptr (.inl ⟨by simp,by simp,rfl,rfl⟩)
     |func g=>exact .func _ rfl rfl rfl (fun i v v' h=>by simp at h) (fun i v v' h=>by simp at h))
    unfold Oper.wp;rw[qp];have zb:t<=i:=by
     rcases Nat.lt_or_ge i t with h|h
     ·have h5:listed.getD i false=true:=hI.pre i qj yo h;rw[zx] at h5;cases h5
     ·exact h
    have cg:(HH t).w0=(HH 0).w0:=lF zo t hI.le;have me:Below w.heap.size w (w.alloc x):=(Below.refl _ _).alloc (Nat.le_refl _) x;refine go φ' t (fun j=>if j=i then w.heap.size else bl j) _ _ (List.prefix_refl _) ⟨hI.le,hI.rel.later me,fun j hj hM vw=>?_,fun j hj hM vw hs=>?_,fun d' fw=>?_,fun j oj hj hp=>?_,fun j k hj hk pv kg e=>?_,fun k j hk hj hs hp=>?_⟩
    ·by_cases e:j=i
     ·simp[e]
     ·simp only[e,if_false];exact hI.pre j hj hM vw
    ·by_cases e:j=i
     ·rw[e];exact z4
     ·simp only[e,if_false] at hs;exact hI.post j hj hM vw hs
    ·have qn:o.dst≠some d':=fw i o ho ⟨z4,by simp,zb⟩;rw[jv d',if_neg qn,put_get,if_neg qn];refine hI.slots d' fun j oj hj hp=>fw j oj hj ⟨hp.1,?_,hp.2.2⟩;by_cases e:j=i
     ·simp[e]
     ·simp only[e,if_false];exact hp.2.1
    ·by_cases e:j=i
     ·subst e;rw[ho] at hj;cases hj;refine⟨_,kk,hHH,hV,⟨by rw[<-cg];simp only[if_true];exact hI.rel.below.size,⟨x,tot,sz0,?_,pq,by simp only[if_true];exact hO⟩,fun k p qc=>?_,fun b' y xx=>?_⟩,d,jz,?_⟩
      ·simp only[if_true];exact heap_alloc_new w x
      ·simp only[if_true];have:=hI.rel.lt k p qc;omega
      ·simp only[if_true];have:=alt_of_getElem? (hI.rel.pin b' y xx).1;omega
      ·rw[put_get,if_pos jz];simp
     ·have pv:Pd Fl (fun i=>listed.getD i false) t j:=⟨hp.1,by have:=hp.2.1;simpa [e] using this,hp.2.2⟩;obtain⟨ob',k',q1,qV,⟨q2,⟨y,tot',sz',q3,qk,q4⟩,q5,q5'⟩,d2,q6,q7⟩:=hI.pend j oj hj pv;refine⟨ob',k',q1,qV,⟨?_,⟨y,tot',sz',?_,qk,?_⟩,?_,?_⟩,d2,q6,?_⟩
      ·simp only[e,if_false];exact q2
      ·simp only[e,if_false];rw[show(w.alloc x).heap[bl j]?=w.heap[bl j]? from Below.heap_alloc w x _ (alt_of_getElem? q3)];exact q3
      ·simp only[e,if_false];exact q4
      ·simp only[e,if_false];exact q5
      ·simp only[e,if_false];exact q5'
      ·have qn:o.dst≠some d2:=by
        rcases Nat.lt_or_gt_of_ne e with h|h
        ·rcases cG T.order h hj ho with wh|hb
         ·exact(Oper.apart_spec wh).2.1 d2 q6
         ·rw[T.nofl i j qj (alt_of_getElem? hj) z4 hp.1] at hb;cases hb
        ·rcases cG T.order h ho hj with wh|hb
         ·intro h2;exact(Oper.apart_spec wh).2.1 d2 h2 q6
         ·rw[T.nofl j i (alt_of_getElem? hj) qj hp.1 z4] at hb;cases hb
       rw[put_get,if_neg qn,q7];simp only[e,if_false]
    ·have blt:∀j,j<ops.size->j≠i->Pd Fl (fun j=>if j=i then true else listed.getD j false) t j->bl j<w.heap.size:=by
      intro j hj e hp;have pv:Pd Fl (fun i=>listed.getD i false) t j:=⟨hp.1,by have:=hp.2.1;simpa [e] using this,hp.2.2⟩;obtain⟨ob',k',q1,qV,⟨q2,⟨y,tot',sz',q3,qk,q4⟩,q5⟩,_⟩:=hI.pend j _ (Array.getElem?_eq_getElem hj) pv;exact alt_of_getElem? q3
     by_cases e1:j=i<;>by_cases e2:k=i
     ·rw[e1,e2]
     ·have:=blt k hk e2 kg;simp only[e1,e2,if_true,if_false] at e;omega
     ·have:=blt j hj e1 pv;simp only[e1,e2,if_true,if_false] at e;omega
     ·simp only[e1,e2,if_false] at e;exact hI.inj j k hj hk ⟨pv.1,by have:=pv.2.1;simpa [e1] using this,pv.2.2⟩ ⟨kg.1,by have:=kg.2.1;simpa [e2] using this,kg.2.2⟩ e
    ·by_cases e1:k=i
     ·subst e1;exact T.nofl k j hk hj z4 hp.1
     ·have x8:listed.getD k false=true:=by simpa [e1] using hs
      by_cases e2:j=i
      ·subst e2;exact vy k hk x8
      ·exact hI.dep k j hk hj x8 ⟨hp.1,by have:=hp.2.1;simpa [e2] using this,hp.2.2⟩
   |false=>
    have wj:∀d∈o.looksAt ops,VR φ' (bV (F i) d) (a.tmps.getD d undef):=by
     intro d hd;rw[<-T.sees hS vq ho zx hd];exact hI.slots d fun j oj hj hp e=>(vz j oj hj hp).1 d e hd
    have wl:=fV (φ:=φ') (sv:=bV (F i)) ops o wj;rw[wl];have xq:∀j,Pd Fl (fun j=>if j=i then true else listed.getD j false) t j->Pd Fl (fun i=>listed.getD i false) t j:=by
     rintro j ⟨h1,h2,h3⟩;have qn:j≠i:=by intro e;subst e;rw[z4] at h1;cases h1
     exact⟨h1,by simpa [qn] using h2,h3⟩
    have cm:∀j,Pd Fl (fun i=>listed.getD i false) t j->Pd Fl (fun j=>if j=i then true else listed.getD j false) t j:=by
     rintro j ⟨h1,h2,h3⟩;have qn:j≠i:=by intro e;subst e;rw[z4] at h1;cases h1
     exact⟨h1,by simpa [qn] using h2,h3⟩
    -- an operation that turns nothing
    have still:M i=false->∀v',VR φ' (V i) v'->wpAny P .any ops (gY φ (HH 0).w0 Q) fuel (listed.setIfInBounds i true) (a.put o.dst v') w:=by
     intro yo v' hv;refine go φ' t bl v' w (List.prefix_refl _) ⟨hI.le,hI.rel,fun j hj hM vw=>?_,fun j hj hM vw hs=>?_,fun d hd=>?_,fun j oj hj hp=>?_,fun j k hj hk h1 h2=>hI.inj j k hj hk (xq j h1) (xq k h2),fun k j hk hj hs hp=>?_⟩
     ·by_cases e:j=i
      ·simp[e]
      ·simp only[e,if_false];exact hI.pre j hj hM vw
     ·by_cases e:j=i
      ·subst e;rw[yo] at hM;cases hM
      ·simp only[e,if_false] at hs;exact hI.post j hj hM vw hs
     ·rw[jv d,put_get];by_cases e:o.dst=some d
      ·rw[if_pos e,if_pos e];exact hv
      ·rw[if_neg e,if_neg e];exact hI.slots d fun j oj hj hp=>hd j oj hj (cm j hp)
     ·obtain⟨ob,k',q1,qV,q2,d2,q6,q7⟩:=hI.pend j oj hj (xq j hp);refine⟨ob,k',q1,qV,q2,d2,q6,?_⟩;rw[put_get,if_neg ((vz j oj hj (xq j hp)).2 d2 q6)];exact q7
     ·by_cases e:k=i
      ·subst e;exact rq z4 j hj (xq j hp)
      ·simp only[e,if_false] at hs;exact hI.dep k j hk hj hs (xq j hp)
    have hρ:∃ρ2:Operand->Value,(∀x,VR φ' (ρ2 x) (a.eval x))/\∀x∈o.op.operands,ρ2 x=aN (F i) x:=by
     open Classical in
     refine⟨fun x=>if x∈o.op.operands then aN (F i) x else ext (a.eval x),fun x=>?_,fun x hx=>by simp[hx]⟩;by_cases hx:x∈o.op.operands
     ·simp only[hx,if_true];cases x with
      |tmp d=>exact wj d (by simp only[Oper.looksAt,List.mem_append,List.mem_filterMap];exact .inl ⟨.tmp d,by simpa using hx,rfl⟩)
      |const v=>exact VR.ext φ' v
      |global g=>exact .ptr (.inl ⟨by simp,by simp,rfl,rfl⟩)
      |func g=>exact .func _ rfl rfl rfl (fun i v v' h=>by simp at h) (fun i v v' h=>by simp at h)
     ·simp only[hx,if_false];exact VR.ext φ' _
    obtain⟨ρ2,hρ2,hρe⟩:=hρ
    -- a main operation
    have xh:M i=true->t=i/\(∀j,j<ops.size->M j=true->j<i->listed.getD j false=true)/\(∀j,j<ops.size->M j=true->i<j->listed.getD j false=true->Fl j=true):=by
     intro yo;have ub:∀j,j<ops.size->M j=true->j<i->listed.getD j false=true:=by
      intro j hj hM yk;rcases T.mains j i yk qj hM yo with hb|hb
      ·exact mc j hj hb (by omega)
      ·rw[z4] at hb;cases hb
     have zb:t<=i:=by
      rcases Nat.lt_or_ge i t with h|h
      ·have h5:listed.getD i false=true:=hI.pre i qj yo h;rw[zx] at h5;cases h5
      ·exact h
     have nh:t=i:=by
      rcases hn with h|⟨h1,h2,h3⟩
      ·omega
      ·rcases Nat.lt_or_ge t i with h|h
       ·rw[ub t h1 h2 h] at h3;cases h3
       ·omega
     refine⟨nh,ub,fun j hj hM ye hl=>?_⟩;rcases T.mains i j ye hj yo hM with hb|hb
     ·rw[vy j hj hl] at hb;cases hb
     ·exact hb
    -- what waits is pinned
    open Classical in
    let p2:Nat->Option Obj:=fun b=>if ∃j,j<ops.size/\Pd Fl (fun i=>listed.getD i false) t j/\bl j=b then w.heap[b]? else π.pin b
    have pw: @Rel σ ⟨⟨p2,π.ds⟩⟩ φ' (HH t) w:=by
     refine @Rel.mk σ ⟨⟨p2,π.ds⟩⟩ _ _ _ hI.rel.below hI.rel.len hI.rel.obj hI.rel.inj (fun b x hb=>?_) hI.rel.lt (fun i c h=>?_);simp only[Pins.pin,p2] at hb;split at hb
     ·rename_i hx;obtain⟨j,hj,hp,rfl⟩:=hx;obtain⟨ob,k',q1,qV,⟨q2,q3,q4,q5⟩,_⟩:=hI.pend j _ (Array.getElem?_eq_getElem hj) hp;exact⟨hb,fun i p hp _=>q4 i p hp⟩
     ·exact hI.rel.pin b x hb
     ·obtain⟨r1,p,x,r2,r3,r4⟩:=hI.rel.ro i c h;refine⟨r1,p,x,r2,?_,r4⟩;simp only[Pins.pin,p2];rw[if_neg]
      ·exact r3
      ·rintro⟨j,hj,hp,e⟩;obtain⟨ob,k',q1,qV,⟨q2,q3,q4,q5⟩,_⟩:=hI.pend j _ (Array.getElem?_eq_getElem hj) hp;exact q4 i p r2 e.symm
    have back2:∀{φ2:PL} {H2:AH} {w':World},φ' <+: φ2->H2.w0=(HH t).w0->@Rel σ ⟨⟨p2,π.ds⟩⟩ φ2 H2 w'->Rel φ2 H2 w'/\∀j,j<ops.size->Pd Fl (fun i=>listed.getD i false) t j->w'.heap[bl j]?=w.heap[bl j]?/\∀(k:Nat) p,φ2[k]?=some p->p.blk≠bl j:=by
     intro φ2 H2 w' j7 vp x6;have old:∀(i:Nat) c,H2.w0.rd i=some c->∃p,φ'[i]?=some p/\φ2[i]?=some p:=fun i c h=>by
      rw[vp] at h;obtain⟨_,p,x,r2,_⟩:=hI.rel.ro i c h;exact⟨p,r2,getElem?_prefix j7 r2⟩
     refine⟨⟨@Rel.below σ ⟨⟨p2,π.ds⟩⟩ _ _ _ x6,@Rel.len σ ⟨⟨p2,π.ds⟩⟩ _ _ _ x6,@Rel.obj σ ⟨⟨p2,π.ds⟩⟩ _ _ _ x6,@Rel.inj σ ⟨⟨p2,π.ds⟩⟩ _ _ _ x6,fun b x hb=> @Rel.pin σ ⟨⟨p2,π.ds⟩⟩ _ _ _ x6 b x ?_,@Rel.lt σ ⟨⟨p2,π.ds⟩⟩ _ _ _ x6,fun i c h=>?_⟩,fun j hj hp=>?_⟩
     ·simp only[Pins.pin,p2];rw[if_neg]
      ·exact hb
      ·rintro⟨j,hj,hp,rfl⟩;obtain⟨ob,k',q1,qV,⟨q2,q3,q4,q5⟩,_⟩:=hI.pend j _ (Array.getElem?_eq_getElem hj) hp;exact q5 _ x hb rfl
     ·obtain⟨r1,p,x,r2,r3,r4⟩:= @Rel.ro σ ⟨⟨p2,π.ds⟩⟩ _ _ _ x6 i c h;obtain⟨p',s1,s2⟩:=old i c h;rw[r2] at s2;cases s2;refine⟨r1,p,x,r2,?_,r4⟩;simp only[Pins.pin,p2] at r3;rw[if_neg] at r3
      ·exact r3
      ·rintro⟨j,hj,hp,e⟩;obtain⟨ob,k',q1,qV,⟨q2,q3,q4,q5⟩,_⟩:=hI.pend j _ (Array.getElem?_eq_getElem hj) hp;exact q4 i p s1 e.symm
     ·obtain⟨ob,k',q1,qV,⟨q2,⟨x,tot,sz,q3,_⟩,q4,q5⟩,_⟩:=hI.pend j _ (Array.getElem?_eq_getElem hj) hp;have:= @Rel.pin σ ⟨⟨p2,π.ds⟩⟩ _ _ _ x6 (bl j) x (by simp only[Pins.pin,p2];rw[if_pos ⟨j,hj,hp,rfl⟩];exact q3);refine⟨this.1.trans q3.symm,fun k p hp=>?_⟩;cases e:H2.w0.rd k with
      |none=>exact this.2 k p hp e
      |some c=>
       obtain⟨p',s1,s2⟩:=old k c e;rw[hp] at s2;cases s2;exact q4 k p s1
    have mnext:M i=true->∀(φ2:PL) (v':Value) (w':World),φ' <+: φ2->VR φ2 (V i) v'->@Rel σ ⟨⟨p2,π.ds⟩⟩ φ2 (HH (i+1)) w'->wpAny P .any ops (gY φ (HH 0).w0 Q) fuel (listed.setIfInBounds i true) (a.put o.dst v') w':=by
     intro yo φ2 v' w' h1 h2 h3;obtain⟨nh,ub,hup⟩:=xh yo;obtain⟨hR,fy⟩:=back2 h1 ((lF zo _ (by omega)).trans (lF zo _ (by omega)).symm) h3;have tu:∀j,j<ops.size->Pd Fl (fun j=>if j=i then true else listed.getD j false) (i+1) j->Pd Fl (fun i=>listed.getD i false) t j:=by
      rintro j hj ⟨p1,p2,p3⟩;have qn:j≠i:=by omega
      exact⟨p1,by simpa [qn] using p2,by omega⟩
     have cn:∀j,j<ops.size->Pd Fl (fun i=>listed.getD i false) t j->Pd Fl (fun j=>if j=i then true else listed.getD j false) (i+1) j:=by
      rintro j hj hp;have qn:j≠i:=by intro e;subst e;have h4:=hp.1;rw[z4] at h4;cases h4
      exact⟨hp.1,by simpa [qn] using hp.2.1,by have:=hp.2.2;omega⟩
     refine go φ2 (i+1) bl v' w' h1 ⟨by omega,hR,fun j hj hM vw=>?_,fun j hj hM vw hs=>?_,fun d hd=>?_,fun j oj hj hp=>?_,fun j k hj hk p1 p2=>hI.inj j k hj hk (tu j hj p1) (tu k hk p2),fun k j hk hj hs hp=>?_⟩
     ·by_cases e:j=i
      ·simp[e]
      ·simp only[e,if_false];exact ub j hj hM (by omega)
     ·have e:j≠i:=by omega
      simp only[e,if_false] at hs;exact hup j hj hM (by omega) hs
     ·rw[jv d,put_get];by_cases e:o.dst=some d
      ·rw[if_pos e,if_pos e];exact h2
      ·rw[if_neg e,if_neg e];exact(hI.slots d fun j oj hj hp=>hd j oj hj (cn j (alt_of_getElem? hj) hp)).mono h1
     ·have ma:=alt_of_getElem? hj;have xr:=tu j ma hp;obtain⟨ob,k',q1,qV,⟨q2,⟨y,tot',sz',q3,qk,q4⟩,q5,q5'⟩,d2,q6,q7⟩:=hI.pend j oj hj xr;obtain⟨r1,r2⟩:=fy j ma xr;refine⟨ob,k',q1,qV,⟨q2,⟨y,tot',sz',r1.trans q3,qk,fun ψ h=>q4 ψ (h1.trans h)⟩,r2,q5'⟩,d2,q6,?_⟩;rw[put_get,if_neg ((vz j oj hj xr).2 d2 q6)];exact q7
     ·by_cases e:k=i
      ·subst e;exact rq z4 j hj (tu j hj hp)
      ·simp only[e,if_false] at hs;exact hI.dep k j hk hj hs (tu j hj hp)
    rcases T.step i o ho z4 with⟨h1,h2,h3⟩|⟨h1,h2,tp,h3⟩|⟨h1,h2,h3⟩|⟨h1,h2,g,args,h3,h4⟩
    ·rw[h1];simp only[Bool.false_eq_true,if_false];exact still h3 undef (by rw[h2];exact VR.undef φ')
    ·rw[h1,if_pos rfl];left;have qi:=h3 t hI.le (fun j hj hM hb=>?_) (fun j hj hM hb=>?_)
     ·rw[<-tE E o.op _ hρe] at qi;obtain⟨v',q1,q2⟩:=aNg E hI.rel hρ2 tp qi;unfold Oper.wp;rw[q2];exact still h2 v' q1
     ·have qn:j≠i:=by intro e;subst e;rw[h2] at hM;cases hM
      have hl:=mc j hj hb qn;rcases Nat.lt_or_ge j t with h|h
      ·exact h
      ·exfalso;have:=rq z4 j hj ⟨hI.post j hj hM h hl,hl,h⟩;rw[this] at hb;cases hb
     ·rcases Nat.lt_or_ge j t with h|h
      ·have hl:=hI.pre j hj hM h;rw[vy j hj hl] at hb;cases hb
      ·exact h
    ·rw[h1,if_pos rfl];left;obtain⟨m1,_⟩:=xh h2;rw[<-tE E o.op _ hρe] at h3;obtain⟨φ2,v',w',q1,q2,q3,q4⟩:= @aCh σ ⟨⟨p2,π.ds⟩⟩ _ E _ _ _ _ (m1▸pw) _ _ hρ2 _ _ h3;unfold Oper.wp;rcases q4 with q4|⟨q4,rfl⟩
     ·rw[q4];exact mnext h2 φ2 v' w' q1 q3 q2
     ·rw[q4];exact mnext h2 φ2 undef w' q1 q3 q2
    ·rw[h1,if_pos rfl];left;obtain⟨m1,_⟩:=xh h2;rw[<-pN E o.op hρe] at h3;obtain⟨args',q1,q2⟩:=qX E hρ2 h3 w;unfold Oper.wp;rw[q2];refine(h4 ⟨⟨p2,π.ds⟩⟩ φ' args' w q1 (m1▸pw)).mono ?_;rintro e w' ⟨φ2,v,v',H',r1,rfl,r2,r3,r4,rfl,rfl⟩;exact mnext h2 φ2 v' w' r1 r2 r3
theorem TraceF.anyAll(T:TraceF E ops F HH V M Fl)(zo:∀i,i<ops.size->(HH (i+1)).w0=(HH i).w0){Q:AQ}(hQ:Q .normal (F ops.size) (HH ops.size))(π:Pins)(φ:PL)(a:Act)(w:World)(hf:FRel φ (F 0) a)(hR:Rel φ (HH 0) w):
 wpAny P .any ops (gY φ (HH 0).w0 Q) ops.size (Array.replicate ops.size false) a w.drew:=by
 have zy:∀j,(Array.replicate ops.size false).getD j false=false:=by
  intro j;simp only[Array.getD_eq_getD_getElem?,Array.getElem?_replicate];split<;>rfl
 have yj:dU ops (fun i=>(Array.replicate ops.size false).getD i false):=by
  intro i o ho hi;simp only[zy] at hi;cases hi
 have hI0:InvC ops F HH V M Fl (fun i=>(Array.replicate ops.size false).getD i false) φ 0 (fun _=>0) a w.drew:=by
  refine⟨Nat.zero_le _,hR.drew,(fun j _ _ h=>by omega),(fun j _ _ _ h=>by cases(zy j).symm.trans h),fun d _=>?_,(fun j o hj hp=>by cases(zy j).symm.trans hp.2.1),(fun i j _ _ hp=>by cases(zy i).symm.trans hp.2.1),(fun k j _ _ h=>by cases(zy k).symm.trans h)⟩;have hS:jS (F 0) ops V (fun i=>(Array.replicate ops.size false).getD i false) ops.size d=bV (F 0) d:=by
   rw[kY (i:=0) ops.size (Nat.zero_le _)]
   ·rfl
   ·intro k _ hk _;exact zy k
  rw[hS];exact hf.2.2 d
 obtain⟨φ2,t2,r1,r2,r3⟩:=hI0.normal T zo yj _ 0 φ _ rfl;refine T.any zo hQ φ ops.size (Array.replicate ops.size false) a _ φ2 t2 _ (by simp) yj hf.1 hf.2.1 r1 r2 r3 ?_;simp[Array.toList_replicate]
theorem TraceF.region(T:TraceF E ops F HH V M Fl)(hm:P.follows .mixedOrders=true)(zo:∀i,i<ops.size->(HH (i+1)).w0=(HH i).w0){Q:AQ}(hQ:Q .normal (F ops.size) (HH ops.size))(id:Nat):
 ACode P (.region id ops true) Q (F 0) (HH 0):=ACode.of_any hm (kQ T.order) (fun π φ a w hf hR=>T.anyAll zo (Q:=fun e f' H'=>e=.normal/\f'=F ops.size/\H'=HH ops.size) ⟨rfl,rfl,rfl⟩ π φ a w hf hR) hQ
omit [γ:Gam] in
def jU(bs fl:NL):NL->Bool
 |[]=>true
 |i::r=>(r.all fun j=>(bs.getD j 0).testBit i||fl.contains j)&&jU bs fl r
omit [γ:Gam] in
def aYd:Op->Bool
 |.alloc _=>true
 |_=>false
omit [γ:Gam] in
def aPl(ops:OA)(bs ms fl:NL):Bool:=
 (fl.all fun i=>match ops[i]? with
  |some o=>aYd o.op&&(o.guard.isNone&&o.dst.isSome)
  |none=>false)&&
 ((List.range ops.size).all fun k=>fl.contains k||fl.all fun i=>!((bs.getD k 0).testBit i)||ms.all fun j=>Nat.ble i j||(bs.getD k 0).testBit j)&&
 (fl.all fun i=>fl.all fun j=>!((bs.getD i 0).testBit j))
theorem wT{bs fl:NL}:∀{ms:NL},jU bs fl ms=true->ms.Pairwise (·<·)->∀i j,i∈ms->j∈ms->i<j->(bs.getD j 0).testBit i=true\/fl.contains j=true:=by
 intro ms
 induction ms with
 |nil=>intro _ _ i j h;cases h
 |cons m r ih=>
  intro h hs i j hi hj ye;simp only[jU,QB,List.all_eq_true] at h;rw[List.pairwise_cons] at hs;rcases List.mem_cons.1 hi with rfl|wx
  ·rcases List.mem_cons.1 hj with rfl|o7
   ·omega
   ·have:=h.1 j o7;simp only[Bool.or_eq_true] at this;exact this
  ·rcases List.mem_cons.1 hj with rfl|o7
   ·have:=hs.1 i wx;omega
   ·exact ih h.2 hs.2 i j wx o7 ye
theorem aNa{ms fl:NL}(h:aPl ops (bef ops) ms fl=true):(∀i o,ops[i]?=some o->i∈fl->∃ty d,o.op=.alloc ty/\o.guard=none/\o.dst=some d)/\
 (∀k i j,k<ops.size->k∉fl->i∈fl->j∈ms->j<i->((bef ops).getD k 0).testBit i=true->((bef ops).getD k 0).testBit j=true)/\(∀i j,i∈fl->j∈fl->((bef ops).getD i 0).testBit j=false):=by
 simp only[aPl,QB,List.all_eq_true] at h;obtain⟨⟨h1,h2⟩,h3⟩:=h;refine⟨fun i o ho hi=>?_,fun k i j hk co hi hj yk hb=>?_,fun i j hi hj=>?_⟩
 ·have:=h1 i hi;rw[ho] at this;simp only[QB] at this;obtain⟨q1,q2,q3⟩:=this;cases qi:o.op with
  |alloc ty=>
   cases hd:o.dst with
   |none=>rw[hd] at q3;cases q3
   |some d=>exact⟨ty,d,rfl,by simpa using q2,rfl⟩
  |_=>rw[qi] at q1;cases q1
 ·have:=h2 k (List.mem_range.2 hk);simp only[Bool.or_eq_true,List.all_eq_true] at this;rcases this with q|q
  ·exact absurd (by simpa using q) co
  ·rcases q i hi with q|q
   ·rw[hb] at q;cases q
   ·rcases q j hj with q|q
    ·have:=QL q;omega
    ·exact q
 ·have:=h3 i hi j hj;simpa using this
theorem RunD.drawF{ms:NL}{W:AH->Prop}{f g:Fr}{H K:AH}{L:List gF}(h:RunD E true ops ms W 0 ops.toList f H L g K)(hm:P.follows .mixedOrders=true)(zg:bY ops (bef ops)=true)(fl:NL)(zh:jU (bef ops) fl ms=true)(zd:ms.Pairwise (·<·))(yn:aPl ops (bef ops) ms fl=true)(hW:W H)(id:Nat):
 pM P (.region id ops true) .normal g K f H:=by
 refine⟨h.w0,?_⟩;obtain⟨qe,⟨s0,xa,tm,tn⟩,qr⟩:=h.at;have zc:L.length=ops.size:=by rw[qe,Array.length_toList]
 let A:=L++[(g,K,undef,false)]
 let d:gF:=(g,K,undef,false)
 let F:=fun i=>(A.getD i d).1
 let HH:=fun i=>(A.getD i d).2.1
 let V:=fun i=>(A.getD i d).2.2.1
 let M:=fun i=>(A.getD i d).2.2.2
 have hA:∀i,i<ops.size->∃s,L[i]?=some s/\A.getD i d=s:=by
  intro i hi;refine⟨L[i]'(by omega),by simp[zc,hi],?_⟩;simp only[A,List.getD_eq_getElem?_getD];rw[List.getElem?_append_left (by omega)];simp[zc,hi]
 have o9:A.getD ops.size d=d:=by
  simp only[A,List.getD_eq_getElem?_getD];rw[List.getElem?_append_right (by omega)];simp[zc,d]
 have qq:∀i o,ops[i]?=some o->SD E true ops ms W i o (F i) (HH i) (V i) (HH (i+1)) (M i)/\(F i).put o.dst (V i)=some (F (i+1)):=by
  intro i o ho;obtain⟨s,h1,h2⟩:=hA i (alt_of_getElem? ho);obtain⟨s',q1,q2,q3⟩:=qr i o s (by simpa using ho) h1;have e:A.getD (i+1) d=s':=by simp only[A,List.getD_eq_getElem?_getD,q1,Option.getD_some]
  simp only[F,HH,V,M,h2,e];rw[Nat.zero_add] at q2;exact⟨q2,q3⟩
 have vf:F 0=f/\HH 0=H:=by
  have e:A.getD 0 d=s0:=by simp only[A,List.getD_eq_getElem?_getD,xa,Option.getD_some]
  simp only[F,HH,e];exact⟨tm,tn⟩
 have still:∀i,i<ops.size->M i=false->HH (i+1)=HH i:=by
  intro i hi hM;have ho:ops[i]?=some ops[i]:=Array.getElem?_eq_getElem hi;rcases(qq i _ ho).1 with⟨_,_,_,h4⟩|⟨_,_,h4,_⟩|⟨_,h4,_⟩|⟨_,h4,_⟩
  ·exact h4
  ·exact h4
  ·rw[hM] at h4;cases h4
  ·rw[hM] at h4;cases h4
 have w0s:∀i,i<ops.size->(HH (i+1)).w0=(HH i).w0:=by
  intro i hi;have ho:ops[i]?=some ops[i]:=Array.getElem?_eq_getElem hi;rcases(qq i _ ho).1 with⟨_,_,_,h4⟩|⟨_,_,h4,_⟩|⟨_,_,_,h4⟩|⟨_,_,_,h4,_⟩
  ·rw[h4]
  ·rw[h4]
  ·exact lY E h4
  ·exact h4
 have mainW:∀i,i<ops.size->M i=true->i∈ms/\W (HH (i+1)):=by
  intro i hi hM;have ho:ops[i]?=some ops[i]:=Array.getElem?_eq_getElem hi;rcases(qq i _ ho).1 with⟨_,_,h4,_⟩|⟨_,h4,_⟩|⟨_,_,h4,_⟩|⟨_,_,h4,_⟩
  ·rw[hM] at h4;cases h4
  ·rw[hM] at h4;cases h4
  ·exact h4 rfl
  ·exact h4 rfl
 have allW:∀t,t<=ops.size->W (HH t):=by
  intro t
  induction t with
  |zero=>intro _;rw[vf.2];exact hW
  |succ t ih=>
   intro ht;cases uh:M t with
   |true=>exact(mainW t (by omega) uh).2
   |false=>rw[still t (by omega) uh];exact ih (by omega)
 have between:∀n a,a+n<=ops.size->(∀j,a<=j->j<a+n->M j=false)->HH (a+n)=HH a:=by
  intro n
  induction n with
  |zero=>intro a _ _;rfl
  |succ n ih=>
   intro a ha zy;rw[show a+(n+1)=a+n+1 by omega,still (a+n) (by omega) (zy _ (by omega) (by omega))];exact ih a (by omega) (fun j h1 h2=>zy j h1 (by omega))
 have mf:=aNa yn;have T:TraceF E ops F HH V M (fun i=>fl.contains i):=by
  refine⟨⟨zg,fun i o ho=>(qq i o ho).2⟩,fun i o ho z4=>?_,fun i o ho z4=>?_,still,fun i j ye hj yo zf=>?_,fun k i j hk hi hj cq z4 zf hb=>?_,fun i j hi hj z4 cr=>?_⟩
  ·have hi:=alt_of_getElem? ho;rcases(qq i o ho).1 with⟨h1,h2,h3,h4⟩|⟨h1,h2,h3,⟨tp,h4⟩,h5⟩|⟨h1,h2,h3,h4⟩|⟨h1,h2,_,_,⟨c,args,h3,h4⟩|⟨hF,_⟩⟩
   ·exact .inl ⟨h1,h2,h3⟩
   ·refine .inr (.inl ⟨h1,h2,tp,fun t ht hb ha=>?_⟩);rcases h5 rfl with hp|hp|hp
    ·exact sU E hp h4 (HH t)
    ·have wm:∀j,j<ops.size->M j=true->(j<t↔j<i):=by
      intro j hj zf;have jt:=(mainW j hj zf).1;simp only[fK,List.all_eq_true] at hp;have:=hp j jt;simp only[Bool.or_eq_true,QB,Nat.blt,Nat.ble_eq] at this;rcases this with⟨q1,q2⟩|⟨q1,q2⟩
      ·exact⟨fun _=>q1,fun _=>hb j hj zf q2⟩
      ·have:=ha j hj zf q2;constructor<;>intro<;>omega
     have:HH t=HH i:=by
      rcases Nat.le_total t i with qf|qf
      ·have e:=between (i - t) t (by omega) (fun j h1 h2=>by
        cases zf:M j with
        |false=>rfl
        |true=>have:=(wm j (by omega) zf).2 (by omega);omega)
       rw[show t+(i - t)=i by omega] at e;exact e.symm
      ·have e:=between (t - i) i (by omega) (fun j h1 h2=>by
        cases zf:M j with
        |false=>rfl
        |true=>have:=(wm j (by omega) zf).1 (by omega);omega)
       rw[show i+(t - i)=t by omega] at e;exact e
     rw[this];exact h4
    ·exact hp _ (allW t ht)
   ·exact .inr (.inr (.inl ⟨h1,h2,h4⟩))
   ·exact .inr (.inr (.inr ⟨h1,h2,c,args,h3,h4⟩))
   ·cases hF
  ·obtain⟨ty,d2,q1,q2,q3⟩:=mf.1 i o ho (by simpa using z4);have ru:aR ops (bV (F i)) o=true:=by unfold aR;rw[q2]
   rcases(qq i o ho).1 with⟨h1,_⟩|⟨_,_,_,⟨tp,_⟩,_⟩|⟨h1,h2,h3,h4⟩|⟨_,_,_,_,⟨c,args,h3,_⟩|⟨hF,_⟩⟩
   ·rw[ru] at h1;cases h1
   ·rw[q1] at tp;simp only[bX] at tp;cases tp
   ·rw[q1] at h4;simp only[aop,uK] at h4;split at h4
    ·rename_i ii v6;split at h4
     ·rename_i z hz;simp only[aGf,Option.some.injEq,Prod.mk.injEq] at h4;exact⟨h2,ru,d2,none,_,q3,h4.1.symm,h4.2.symm,aBc E v6 hz q1 _⟩
     ·cases h4
    ·cases h4
   ·rw[q1] at h3;simp only[bN] at h3;cases h3
   ·cases hF
  ·have m1:=(mainW i (by omega) yo).1;have m2:=(mainW j hj zf).1;exact wT zh zd i j m1 m2 ye
  ·exact mf.2.1 k i j hk (by simpa using cq) (by simpa using z4) (mainW j (by omega) zf).1 hj hb
  ·exact mf.2.2 i j (by simpa using z4) (by simpa using cr)
 have:=T.region hm w0s (Q:=fun e' g' K'=>e'=.normal/\g'=g/\K'=K) (by simp only[F,HH,o9];exact⟨trivial,rfl,rfl⟩) id;rw[vf.1,vf.2] at this;exact this
end
section
variable {P:PG}{E:Env P}{S H0:AH}{A0 A:NQ}{L:OL}{K:AQ}
theorem aUb{ops:OA}{id:Nat}{f:Fr}(hm:P.follows .mixedOrders=true)(ms fl:NL)(Lw:OL)(pu:Lw.Sublist L)(zg:bY ops (bef ops)=true)(zh:jU (bef ops) fl ms=true)(yn:aPl ops (bef ops) ms fl=true)(zd:ms.Pairwise (·<·))
 (h:SO E ⟨true,ops,ms,S,A0,H0,A,Lw⟩ 0 ops.toList (fun f H=>K .normal f H) f H0 A L):SX P (.region id ops true) K f S A0 H0 A L:=by
 intro H hH;have hW:HS S H0 A0 A Lw H:=hH.subl pu;obtain⟨Ls,g,K',hr,hq⟩:=h (fun _=>⟨fun p hp=>pu.subset hp,hW.dist,fun j hj=>⟨hj,rfl⟩,rfl⟩) H hH;exact⟨.normal,g,K',hq,hr.drawF hm zg fl zh zd yn hW id⟩
end
theorem XCall.b{P:PG}{g:FuncId}{args:VL}{H:AH}{b b':Bool}{K:AH->Prop}(h:XCall P g args H fun v H'=>v=.bool b/\K H')(hb:b=b'):XCall P g args H fun v H'=>v=.bool b'/\K H':=by rw[<-hb];exact h
end Go.AM
namespace Go.AM
open Go.RowKit
variable [σ:Sg]
variable [γ:Gam]
theorem aDf{w:World}{a:Addr}:∀(n i m:Nat) (xs ys:VL),bG w a i n=some xs->bG w a (i+n) m=some ys->bG w a i (n+m)=some (xs++ys):=by
 intro n
 induction n with
 |zero=>intro i m xs ys h k;simp[bG] at h;subst h;simpa using k
 |succ n ih=>
  intro i m xs ys h k;simp only[bG] at h;split at h
  ·rename_i v hv;split at h
   ·rename_i r hr;cases h;have:=ih (i+1) m r ys hr (by rw[show i+1+n=i+(n+1) by omega];exact k);rw[show n+1+m=(n+m)+1 by omega];simp only[bG,hv,this,List.cons_append]
   ·cases h
  ·cases h
theorem aHp{H:AH}{p:Addr}{n m:Nat}{xs ys:VL}(h:aloads H p n=some xs)(k:aloads H (p.add n) m=some ys):aloads H p (n+m)=some (xs++ys):=by
 have hx:=fW h;have hy:=fW k;by_cases hn:n=0
 ·subst hn;have:xs=[]:=List.eq_nil_of_length_eq_zero hx;subst this;rw[show p.add 0=p from by unfold Addr.add;simp] at k;simpa using k
 ·by_cases hm:m=0
  ·subst hm;have:ys=[]:=List.eq_nil_of_length_eq_zero hy;subst this;simpa using h
  ·unfold aloads at h k ⊢;rw[show Nat.beq n 0=false by(cases n with|zero=>exact absurd rfl hn|succ n=>rfl),QF] at h;rw[show Nat.beq m 0=false by(cases m with|zero=>exact absurd rfl hm|succ n=>rfl),QF,bR] at k;rw[show Nat.beq (n+m) 0=false by(cases n with|zero=>exact absurd rfl hn|succ n=>rw[Nat.succ_add];rfl),QF];cases hb:Nat.beq (p.block%2) 0 with
   |true=>
    rw[hb,QT] at h k;rw[QT];have e:=xA p n;rw[bR] at e;rw[e,nD,Nat.add_zero] at k;exact aDf n 0 m xs ys h (by rw[Nat.zero_add];exact k)
   |false=>
    rw[hb,QF] at h k;rw[QF];split at h
    ·rename_i cs sz ex hg;rw[hg] at k;simp only at k;rw[iY] at k;cases qf:Nat.ble (p.off+n+m) cs.length with
     |true=>
      rw[qf,QT] at k;have hl:=QL qf;rw[Nat.ble_eq_true_of_le (show p.off+n<=cs.length by omega),QT] at h;rw[Nat.ble_eq_true_of_le (show p.off+(n+m)<=cs.length by omega),QT];cases h;cases k;rw[<-List.drop_drop,List.take_add]
     |false=>rw[qf] at k;cases k
    ·rename_i hg;rw[hg] at k;simp only at k;split at h
     ·rename_i c hc;rw[hc] at k;simp only at k;rw[iY] at k;cases qf:Nat.ble (p.off+n+m) c.1.length with
      |true=>
       rw[qf,QT] at k;have hl:=QL qf;rw[Nat.ble_eq_true_of_le (show p.off+n<=c.1.length by omega),QT] at h;rw[Nat.ble_eq_true_of_le (show p.off+(n+m)<=c.1.length by omega),QT];cases h;cases k;rw[<-List.drop_drop,List.take_add]
      |false=>rw[qf] at k;cases k
     ·cases h
    ·cases h
section
variable {A:NQ}{H:AH}
theorem RowD.whole{b:Nat}{ks:KL}{l:LX}{p:Addr}{cap:Nat}(h:RowD A H b ks l (some p) cap):∀m,m<=l.length->∃cells,aloads H p (m*ks.length)=some cells/\cells.length=m*ks.length/\∀i c,i<m->l[i]?=some c->CellsA A H ks ((cells.drop (i*ks.length)).take ks.length) c:=by
 intro m
 induction m with
 |zero=>intro _;exact⟨[],by simp[aloads],by simp,fun i c hi=>absurd hi (Nat.not_lt_zero _)⟩
 |succ m ih=>
  intro hm;obtain⟨cells,h1,h2,h3⟩:=ih (by omega);obtain⟨p',xs,c,e1,e2,e3,e4,e5⟩:=h.at' m (by omega);cases e1;have nj:=fW e4;refine⟨cells++xs,?_,?_,fun i c' hi hc=>?_⟩
  ·rw[Nat.add_mul,Nat.one_mul];exact aHp h1 e4
  ·rw[List.length_append,h2,nj,Nat.add_mul,Nat.one_mul]
  ·by_cases nk:i<m
   ·have qf:(i+1)*ks.length<=m*ks.length:=Nat.mul_le_mul_right _ nk;rw[Nat.add_mul,Nat.one_mul] at qf;rw[List.drop_append_of_le_length (by omega),List.take_append_of_le_length (by rw[List.length_drop];omega)];exact h3 i c' nk hc
   ·obtain rfl:i=m:=by omega
    rw[e3] at hc;cases hc;rw[List.drop_append,h2,Nat.sub_self,List.drop_zero,List.drop_eq_nil_of_le (by omega),List.nil_append,List.take_of_length_le (by omega)];exact e5
end
section
variable {P:PG}{E:Env P}{G:RG}{i n d:Nat}{r:OL2}{Q:FQ}{t:Tr Value}{l:LV}{S H0:AH}{A0 A:NQ}{L L':OL}{v u:Value}
 {ty:TY}{ps:String}{af:Array Edge}{gd:OB}{x y z:Operand}
omit [γ:Gam] in
def mH(S H0:AH)(A0 A:NQ)(L:OL)(sz m:Nat)(x:Value)(new:VL):Prop:=iQ x=some m/\new.length=m*sz/\(∀H,HS S H0 A0 A L H->cU sz m x H=some new)/\aUd x=false
theorem aMt{K sz sz' m cap:Nat}{cs:VL}{ex:Bool}(hm:(K,AObj.cells cs sz' ex)∈L)(hl:cs.length=m*sz):mH S H0 A0 A L sz m (.slice (some ⟨2*K+1,0,none⟩) m cap) cs:=
 ⟨rfl,hl,fun H hH=>by
  simp only[cU];rw[iB (hH.own _ hm).1 0 (m*sz) none (by omega)];simp[<-hl],rfl⟩
theorem aHb{sz m cap:Nat}{p:Addr}{cs:VL}(hA:InA A p.block)(hl:aloads H0 p (m*sz)=some cs):mH S H0 A0 A L sz m (.slice (some p) m cap) cs:=
 ⟨rfl,fW hl,fun H hH=>by simp only[cU];rw[hH.gr.aloads hA];exact hl,rfl⟩
theorem aAq{m:Nat}{s:BA}{cs:VL}(hm:s.data.toList.length=m)(hc:(s.data.toList.map fun b=>Value.int .u8 b.toNat)=cs)(H:AH):iQ (.string s)=some m/\cs.length=m*1/\cU 1 m (.string s) H=some cs:=
 ⟨by simp only[iQ,hm],by rw[<-hc,List.length_map,hm,Nat.mul_one],by simp only[cU];rw[<-hc,<-hm,List.take_length]⟩
theorem aZf{c:Call}{e sT xT:TY}{dx:TypeDesc}{ii:TI}{zv:Value}{base:Option Addr}{sl sc:Nat}{w:Value}{new:VL}(hw:gok G.ops l gd=true)(qd:Nat.ble (d+1) n=true)(hm:G.D=true->i∈G.ms)(hc:c.callee=.builtin .append)(ha:c.args.toList=[x,y])(ht:c.argTypes.toList=[sT,xT])
 (hx:opv l x=some (.slice base sl sc))(hy:opv l y=some w)(hu:E.und sT=some (.slice e))(wn:E.und xT=some dx)(yd:fM dx=false)(hi:E.inf e=some ii)(hz:ii.zero=some zv)(hs:ii.size≠0)(hf:mH G.S H0 G.A0 A L ii.size 0 w new)(qf:sl<=sc)
 (h:SO E G (i+1) r Q (fr n t ((d,.slice base sl sc)::l)) H0 A L):SO E G i (⟨some d,.call c,ty,ps,af,gd⟩::r) Q (fr n t l) H0 A L:=
 dS hw rfl qd hm fun hD H hH=>by
  refine⟨_,H,H0,A,L,.inl ?_,hH,hD,h⟩;have e1:(Nat.beq ii.size 0||ii.zero.isNone)=false:=by
   rw[hz];cases hq:ii.size with
   |zero=>exact absurd hq hs
   |succ k=>rfl
  simp only[aop,hc,ha,ht,gJ,aI hx,aI hy,hu,wn,yd,QF,hi,hf.1,e1,hf.2.2.1 H hH,show Nat.beq 0 0=true from rfl,QT,Nat.ble_eq_true_of_le qf]
theorem zW{c:Call}{e sT xT:TY}{dx:TypeDesc}{ii:TI}{zv:Value}{base:Option Addr}{sl m sz bt:Nat}{w:Value}{old new cs':VL}(hw:gok G.ops l gd=true)(qd:Nat.ble (d+1) n=true)(hm:G.D=true->i∈G.ms)(hc:c.callee=.builtin .append)(ha:c.args.toList=[x,y])(ht:c.argTypes.toList=[sT,xT])
 (hx:opv l x=some (.slice base sl sl))(hy:opv l y=some w)(hu:E.und sT=some (.slice e))(wn:E.und xT=some dx)(yd:fM dx=false)(hi:E.inf e=some ii)(hz:ii.zero=some zv)(hs:ii.size=sz)(xa:sz≠0)(vi:ii.bytes=bt)(vu:m≠0)(hf:mH G.S H0 G.A0 A L sz m w new)
 (ho:(base=none/\sl=0/\old=[])\/∃N,base=some ⟨2*N+1,0,none⟩/\(N,AObj.cells old sz true)∈L/\old.length=sl*sz)(yu:iV (sl+m) bt=true)(yy:sl+m<=140737488355328)(yb:old++new=cs'){k:Nat}(hk:sl+m=k)
 (h:∀M,SO E G (i+1) r Q (fr n t ((d,.slice (some ⟨2*M+1,0,none⟩) k k)::l)) H0 A ((M,.cells cs' sz false)::L)):SO E G i (⟨some d,.call c,ty,ps,af,gd⟩::r) Q (fr n t l) H0 A L:=by
 subst hs;subst vi;subst yb;subst hk;refine oO (f:=fun N=>.slice (some ⟨2*N+1,0,none⟩) (sl+m) (sl+m)) hw rfl qd hm (fun H hH=>?_) h;have e1:(Nat.beq ii.size 0||ii.zero.isNone)=false:=by
  rw[hz];cases hq:ii.size with
  |zero=>exact absurd hq xa
  |succ k=>rfl
 have e2:Nat.beq m 0=false:=by cases m with|zero=>exact absurd rfl vu|succ k=>rfl
 have e3:Nat.ble (sl+m) sl=false:=by
  cases hq:Nat.ble (sl+m) sl with
  |false=>rfl
  |true=>have:=QL hq;omega
 have qe:=hf.2.1;rcases ho with⟨rfl,rfl,rfl⟩|⟨N,rfl,zu,ry⟩
 ·simp only[aop,hc,ha,ht,gJ,aI hx,aI hy,hu,wn,yd,QF,hi,hf.1,e1,hf.2.2.1 H hH,e2];have e4:(iV (0+m) ii.bytes&&(Nat.ble (0+m) 140737488355328&&(Nat.beq ([]:VL).length (0*ii.size)&&Nat.beq new.length (m*ii.size))))=true:=by
   simp only[QB];exact⟨yu,Nat.ble_eq_true_of_le yy,by simp,by rw[qe];simp⟩
  simp only[show(Nat.beq 0 0&&Nat.beq 0 0)=true from rfl,QT,dJ,cU,show Nat.beq 0 0=true from rfl,e4,cH,show rA e w ii.size=ii.size by(unfold rA;rw[hf.2.2.2];rfl)];rfl
 ·have hg:H.tr.get N=some (.cells old ii.size true):=(hH.own _ zu).1;have e5:Nat.ble (old.length+1) (0+(sl+m)*ii.size)=true:=by
   refine Nat.ble_eq_true_of_le ?_;have:(sl+m)*ii.size=sl*ii.size+m*ii.size:=Nat.add_mul ..;have h1:1<=m*ii.size:=Nat.mul_pos (Nat.pos_of_ne_zero vu) (Nat.pos_of_ne_zero xa);omega
  have e6:aloads H ⟨2*N+1,0,none⟩ (sl*ii.size)=some old:=by
   rw[iB hg 0 _ none (by omega)];simp[<-ry]
  have e7:cU ii.size sl (.slice (some ⟨2*N+1,0,none⟩) sl sl) H=some old:=by simp only[cU];exact e6
  have e4:(iV (sl+m) ii.bytes&&(Nat.ble (sl+m) 140737488355328&&(Nat.beq old.length (sl*ii.size)&&Nat.beq new.length (m*ii.size))))=true:=by
   simp only[QB];exact⟨yu,Nat.ble_eq_true_of_le yy,by rw[ry];simp,by rw[qe];simp⟩
  simp only[aop,hc,ha,ht,gJ,aI hx,aI hy,hu,wn,yd,QF,hi,hf.1,e1,hf.2.2.1 H hH,e2,eL,eJ,hg,show lX ii.size ii.size e=true by simp[lX],QT,e3,e5,dJ,e7,e4,cH]
theorem aNi{c:Call}{e sT xT:TY}{dx:TypeDesc}{ii:TI}{zv:Value}{N sl m sz bt:Nat}{w:Value}{old new cs':VL}(hw:gok G.ops l gd=true)(qd:Nat.ble (d+1) n=true)(hm:G.D=true->i∈G.ms)(hc:c.callee=.builtin .append)(ha:c.args.toList=[x,y])(ht:c.argTypes.toList=[sT,xT])
 (hx:opv l x=some (.slice (some ⟨2*N+1,0,none⟩) sl sl))(hy:opv l y=some w)(hu:E.und sT=some (.slice e))(wn:E.und xT=some dx)(yd:fM dx=false)(hi:E.inf e=some ii)(hz:ii.zero=some zv)(hs:ii.size=sz)(xa:sz≠0)(vi:ii.bytes=bt)(vu:m≠0)(hf:mH G.S H0 G.A0 A L sz m w new)
 (hr:Rem N (.cells old sz false) L L')(ry:old.length=sl*sz)(h1:aY new=true)(yu:iV (sl+m) bt=true)(yy:sl+m<=140737488355328)(yb:old++new=cs')(qt:G.D=true->G.Lw.Sublist L'){k:Nat}(hk:sl+m=k)
 (h:∀M,SO E G (i+1) r Q (fr n t ((d,.slice (some ⟨2*M+1,0,none⟩) k k)::l)) H0 A ((M,.cells cs' sz false)::L')):SO E G i (⟨some d,.call c,ty,ps,af,gd⟩::r) Q (fr n t l) H0 A L:=by
 subst hs;subst vi;subst yb;subst hk;refine dS hw rfl qd hm fun hD H hH=>?_;have e1:(Nat.beq ii.size 0||ii.zero.isNone)=false:=by
  rw[hz];cases hq:ii.size with
  |zero=>exact absurd hq xa
  |succ k=>rfl
 have e2:Nat.beq m 0=false:=by cases m with|zero=>exact absurd rfl vu|succ k=>rfl
 have e3:Nat.ble (sl+m) sl=false:=by
  cases hq:Nat.ble (sl+m) sl with
  |false=>rfl
  |true=>have:=QL hq;omega
 have hg:H.tr.get N=some (.cells old ii.size false):=(hH.own _ hr.mem).1;have hk:=(hH.kill hr).push (.cells (old++new) ii.size false);refine⟨_,_,H0,A,(H.nx,.cells (old++new) ii.size false)::L',.inl ?_,hk,(hD.list qt).push _,h H.nx⟩;have e4:(Nat.beq (0+sl*ii.size) old.length&&(iV (sl+m) ii.bytes&&(Nat.ble (sl+m) 140737488355328&&(Nat.beq new.length (m*ii.size)&&aY new))))=true:=by
  simp only[QB];exact⟨by rw[ry];simp,yu,Nat.ble_eq_true_of_le yy,by rw[hf.2.1];simp,h1⟩
 simp only[aop,hc,ha,ht,gJ,aI hx,aI hy,hu,wn,yd,QF,hi,hf.1,e1,hf.2.2.1 H hH,e2,eL,eJ,hg,show lX ii.size ii.size e=true by simp[lX],QT,e3,e4,cH,List.drop_zero]
theorem aNt{ta:TY}{ok:Bool}{m:Value}{k:Value}(hw:gok G.ops l gd=true)(qd:Nat.ble (d+1) n=true)(hx:opv l x=some m)(hy:opv l y=some k)(hl:∀H,HS G.S (qH G H0) G.A0 (qA G A) (qL G L) H->fJ E ta m k ok H=some v)
 (h:SO E G (i+1) r Q (fr n t ((d,v)::l)) H0 A L):SO E G i (⟨some d,.lookup ta x y ok,ty,ps,af,gd⟩::r) Q (fr n t l) H0 A L:=
 jO rfl hw rfl qd (fun H hH=>by simp only[aop,aI hx,aI hy,rD,aEj (hl H hH),aQ]) h
theorem aNh{ta kt et:TY}{N:Nat}{es es':List (Value×Value×Nat)}{cl cl':Nat}{k w:Value}{dk:TypeDesc}(hw:gok G.ops l gd=true)(hm:G.D=true->i∈G.ms)(hx:opv l x=some (.map (some (2*N+1))))(hy:opv l y=some k)(hz:opv l z=some w)(hu:E.und ta=some (.map kt et))(hk:E.und kt=some dk)(oe:dV dk k=true)
 (f7:Upd N (.map es cl) (.map es' cl') L L')(hf:(∃j b,jN dk k es 0=some (some (j,b))/\es'=es.modify j (fun e=>(k,w,e.2.2))/\cl'=cl)\/(jN dk k es 0=some none/\es'=es++[(k,w,cl)]/\cl'=cl+1))(hD:G.D=true->G.Lw.Sublist L')
 (h:SO E G (i+1) r Q (fr n t l) H0 A L'):SO E G i (⟨none,.mapUpdate ta x y z,ty,ps,af,gd⟩::r) Q (fr n t l) H0 A L:=
 aKo hw rfl hm fun vg H hH=>by
  refine⟨undef,_,H0,A,L',.inl ?_,hH.set f7,vg.list hD,h⟩;have hg:H.tr.get N=some (.map es cl):=(hH.own _ f7.mem).1;rcases hf with⟨j,b,h1,rfl,rfl⟩|⟨h1,rfl,rfl⟩
  ·simp only[aop,aI hx,aI hy,aI hz,fY,orE,fR,hu,eL,QF,hk,eJ,hg,oe,QT,h1]
  ·simp only[aop,aI hx,aI hy,aI hz,fY,orE,fR,hu,eL,QF,hk,eJ,hg,oe,QT,h1]
end
theorem qK{a b:VL}(ha:aY a=true)(hb:aY b=true):aY (a++b)=true:=by
 induction a with
 |nil=>exact hb
 |cons v r ih=>simp only[aY,QB] at ha;simp only[List.cons_append,aY,QB];exact⟨ha.1,ih ha.2⟩
theorem tW{l:VL}(h:∀v∈l,v.oneCell'=true):aY l=true:=by
 induction l with
 |nil=>rfl
 |cons v r ih=>simp only[aY,QB];exact⟨h v (List.mem_cons_self ..),ih fun u hu=>h u (List.mem_cons_of_mem _ hu)⟩
theorem pX{l:VL}(h:aY l=true):∀v∈l,v.oneCell'=true:=by
 induction l with
 |nil=>intro v hv;cases hv
 |cons u r ih=>
  simp only[aY,QB] at h;intro v hv;rcases List.mem_cons.1 hv with rfl|hv
  ·exact h.1
  ·exact ih h.2 v hv
theorem aSk{cells:VL}{m sz:Nat}(hl:cells.length=m*sz)(hs:sz≠0)(h:∀i,i<m->aY ((cells.drop (i*sz)).take sz)=true):aY cells=true:=by
 refine tW fun v hv=>?_;obtain⟨j,hj,rfl⟩:=List.getElem_of_mem hv;have rz:0<sz:=Nat.pos_of_ne_zero hs;have hi:j / sz<m:=by
  rw[Nat.div_lt_iff_lt_mul rz,<-hl];exact hj
 have:=pX (h (j / sz) hi) cells[j];refine this (List.mem_of_getElem? (i:=j%sz) ?_);rw[List.getElem?_take,if_pos (Nat.mod_lt _ rz),List.getElem?_drop,Nat.mul_comm,Nat.div_add_mod];exact List.getElem?_eq_getElem hj
section
variable {A A':NQ}{H H':AH}{ks:KL}{ex:Nat->Bool}{x y:Nat->Value}{c:Nat->CT}
theorem uR{n:Nat}{x:Nat->Value}:((cellsOf n x).drop 0).take n=cellsOf n x:=by
 rw[List.drop_zero,List.take_of_length_le (by rw[aO];exact Nat.le_refl _)]
end
end Go.AM
namespace Go.AM
open Go.RowKit
variable [σ:Sg]
def aAt(P:PG)(f:TY->Option KL):List Field->Nat->Option KL
 |[],_=>some []
 |fd::fs,off=>
  match f fd.type,aAt P f fs (off+P.cellsOf fd.type) with
  |some ks,some r=>bif Nat.beq fd.offset off&&Nat.beq ks.length (P.cellsOf fd.type) then some (ks++r) else none
  |_,_=>none
def uC(P:PG):Nat->TypeId->Option KL
 |0,_=>none
 |n+1,t=>
  match P.underlying t with
  |some (.int k)=>some [.int k]
  |some .bool=>some [.bool]
  |some .string=>some [.str]
  |some (.slice e)=>(match uC P n e with
   |some ks=>bif Nat.beq ks.length (P.cellsOf e)&&Nat.ble 1 (P.bytesOf e) then some [.row (P.bytesOf e) ks] else none
   |none=>none)
  |some (.struct fs)=>(match aAt P (uC P n) fs.toList 0 with
   |some ks=>bif Nat.beq ks.length (P.cellsOf t) then some ks else none
   |none=>none)
  |some (.array m e)=>(match uC P n e with
   |some ks=>bif Nat.beq ks.length (P.cellsOf e)&&Nat.beq (m*ks.length) (P.cellsOf t) then some (List.replicate m ks).flatten else none
   |none=>none)
  |_=>none
theorem yC{α:Type}{Q:Nat->α->Prop}:∀n,(∀i,i<n->∃c,Q i c)->∃l:List α,l.length=n/\∀(i:Nat) c,l[i]?=some c->Q i c:=by
 intro n
 induction n with
 |zero=>intro _;exact⟨[],rfl,fun i c h=>by simp at h⟩
 |succ n ih=>
  intro h;obtain⟨l,h1,h2⟩:=ih fun i hi=>h i (by omega);obtain⟨c,hc⟩:=h n (by omega);refine⟨l++[c],by simp[h1],fun i d hd=>?_⟩;by_cases hi:i<n
  ·rw[List.getElem?_append_left (by omega)] at hd;exact h2 i d hd
  ·rw[List.getElem?_append_right (by omega)] at hd;have h0:i - l.length=0:=by have:=lt_of_getElem? hd;simp at this;omega
   rw[h0] at hd;simp at hd;subst hd;rw[show i=n by omega];exact hc
theorem aNn{α β:Type}{f:α->Option β}:∀{l:List α} {r:List β},l.mapM f=some r->r.length=l.length/\∀(i:Nat) x,l[i]?=some x->∃y,r[i]?=some y/\f x=some y:=by
 intro l
 induction l with
 |nil=>intro r h;simp at h;subst h;exact⟨rfl,fun i x h=>by simp at h⟩
 |cons a l ih=>
  intro r h;simp only[List.mapM_cons,Option.bind_eq_bind,Option.pure_def] at h;cases ha:f a with
  |none=>rw[ha] at h;simp at h
  |some y=>
   cases hl:l.mapM f with
   |none=>rw[ha,hl] at h;simp at h
   |some r'=>
    rw[ha,hl] at h;simp at h;subst h;obtain⟨h1,h2⟩:=ih hl;refine⟨by simp[h1],fun i x hx=>?_⟩;cases i with
    |zero=>simp at hx;subst hx;exact⟨y,rfl,ha⟩
    |succ i=>exact h2 i x (by simpa using hx)
theorem zE(a b:VL):extL (a++b)=extL a++extL b:=by
 induction a with
 |nil=>simp[extL]
 |cons x a ih=>simp[extL,ih]
section
variable {T:Type}{enc:TypeId×Value->T}{P:PG}{W:World}
theorem dO{e:TY}:∀{l:List (DataW T)} {d:DataW T},d∈l->∀w∈d.weights P e,w∈DataW.weightsAll P e l:=by
 intro l
 induction l with
 |nil=>intro d h;cases h
 |cons a l ih=>
  intro d h w hw;simp only[DataW.weightsAll,List.mem_append];rcases List.mem_cons.1 h with rfl|h
  ·exact .inl hw
  ·exact .inr (ih h w hw)
def aSg(enc:TypeId×Value->T)(P:PG)(W:World)(f:TY->Option KL):Prop:=∀(t:TY) (ks:KL) (fuel:Nat) (cs:VL) (x:DataW T×List MemPlace),f t=some ks->DataW.trod enc P W 0 (fun _=>true) true fuel t cs=some x->(∀w∈x.1.weights P t,w<=reachBytes)->∃c,CellsA (fun _=>False) (start W) ks (extL cs) c
theorem uQ{f:TY->Option KL}(IH:aSg enc P W f){fuel:Nat}{cs:VL}:∀(fs:List Field) (off:Nat) (ks:KL) (r:List (DataW T×List MemPlace)),aAt P f fs off=some ks->
 (fs.mapM fun f=>DataW.trod enc P W 0 (fun _=>true) true fuel f.type ((cs.drop f.offset).take (P.cellsOf f.type)))=some r->(∀w∈DataW.weightsEach P (fs.map (·.type)) (r.map (·.1)),w<=reachBytes)->
 ∃c,CellsA (fun _=>False) (start W) ks (extL ((cs.drop off).take ks.length)) c:=by
 intro fs
 induction fs with
 |nil=>intro off ks r hk _ _;simp only[aAt] at hk;cases hk;exact⟨[],by simp[extL,CellsA]⟩
 |cons fd fs ih=>
  intro off ks r hk hm hw;simp only[aAt] at hk;split at hk
  ·rename_i k1 k2 e1 e2;cases hb:(Nat.beq fd.offset off&&Nat.beq k1.length (P.cellsOf fd.type)) with
   |false=>rw[hb] at hk;cases hk
   |true=>
    rw[hb,QT] at hk;cases hk;obtain⟨b1,b2⟩:=Bool.and_eq_true_iff.1 hb;have b1:=QN b1;have b2:=QN b2;simp only[List.mapM_cons,Option.bind_eq_bind,Option.pure_def] at hm;cases h1:DataW.trod enc P W 0 (fun _=>true) true fuel fd.type ((cs.drop fd.offset).take (P.cellsOf fd.type)) with
    |none=>rw[h1] at hm;simp at hm
    |some y=>
     cases h2:(fs.mapM fun f=>DataW.trod enc P W 0 (fun _=>true) true fuel f.type ((cs.drop f.offset).take (P.cellsOf f.type))) with
     |none=>rw[h1,h2] at hm;simp at hm
     |some r'=>
      rw[h1,h2] at hm;simp at hm;subst hm;simp only[List.map_cons,DataW.weightsEach,List.mem_append] at hw;obtain⟨c1,pg⟩:=IH _ _ _ _ _ e1 h1 fun w h=>hw w (.inl h);obtain⟨c2,x7⟩:=ih _ _ _ e2 h2 fun w h=>hw w (.inr h);refine⟨c1++c2,?_⟩;rw[b1,<-b2] at pg;rw[<-b2,<-List.drop_drop] at x7;rw[List.length_append,List.take_add,zE];exact pg.append x7
  ·cases hk
theorem aCw{f:TY->Option KL}(IH:aSg enc P W f){fuel e:Nat}{cs:VL}{ks:KL}(he:f e=some ks)(hl:ks.length=P.cellsOf e){m:Nat}{r:List (DataW T×List MemPlace)}
 (hm:((List.range m).mapM fun i=>DataW.trod enc P W 0 (fun _=>true) true fuel e ((cs.drop (i*P.cellsOf e)).take (P.cellsOf e)))=some r)(hw:∀w∈DataW.weightsAll P e (r.map (·.1)),w<=reachBytes):
 ∀j,j<=m->∃c,CellsA (fun _=>False) (start W) (List.replicate j ks).flatten (extL (cs.take (j*ks.length))) c:=by
 obtain⟨q1,q2⟩:=aNn hm;intro j
 induction j with
 |zero=>intro _;exact⟨[],by simp[extL,CellsA]⟩
 |succ j ih=>
  intro hj;obtain⟨c1,h1⟩:=ih (by omega);obtain⟨y,y1,y2⟩:=q2 j j (List.getElem?_range (by omega));obtain⟨c2,h2⟩:=IH _ _ _ _ _ he y2 fun w x5=>hw w (dO (List.mem_map.2 ⟨y,List.mem_of_getElem? y1,rfl⟩) w x5);refine⟨c1++c2,?_⟩;rw[<-hl] at h2;rw[List.replicate_succ',List.flatten_append,List.flatten_singleton,Nat.add_mul,Nat.one_mul,List.take_add,zE];exact h1.append h2
theorem iW:∀(n:Nat),aSg enc P W (uC P n):=by
 intro n
 induction n with
 |zero=>intro t ks fuel cs x hk;simp[uC] at hk
 |succ n ih=>
  intro t ks fuel cs x hk h hw;cases fuel with
  |zero=>simp[DataW.trod] at h
  |succ fuel=>
   simp only[uC] at hk;split at hk
   ·rename_i k hu;cases hk;obtain⟨m,rfl,hm⟩:=Reads.int hu ⟨_,_,h⟩;exact⟨[.v (.int k m)],by simp only[extL,ext,CellsA,CellA];exact⟨⟨trivial,m,rfl,hm⟩,trivial⟩⟩
   ·rename_i hu;cases hk;obtain⟨m,rfl⟩:=Reads.bool hu ⟨_,_,h⟩;exact⟨[.v (.bool m)],by simp only[extL,ext,CellsA,CellA];exact⟨⟨trivial,m,rfl⟩,trivial⟩⟩
   ·rename_i hu;cases hk;obtain⟨m,rfl,hm⟩:=Reads.string hu ⟨_,_,h⟩;exact⟨[.v (.string m)],by simp only[extL,ext,CellsA,CellA];exact⟨⟨trivial,m,rfl,hm⟩,trivial⟩⟩
   ·rename_i e hu;split at hk
    ·rename_i k1 e1;cases hb:(Nat.beq k1.length (P.cellsOf e)&&Nat.ble 1 (P.bytesOf e)) with
     |false=>rw[hb] at hk;cases hk
     |true=>
      rw[hb,QT] at hk;cases hk;obtain⟨b1,b2⟩:=Bool.and_eq_true_iff.1 hb;have b1:=QN b1;have b2:=QL b2;unfold DataW.trod at h;rw[hu] at h;split at h<;>(try (rename_i h1 _;cases h1;done))<;>(try (rename_i h1;cases h1;done))
      ·exact⟨[.row []],by simp only[extL,ext,CellsA,CellA];exact⟨⟨Nat.zero_le _,by simp,.inl ⟨.inl trivial,trivial⟩⟩,trivial⟩⟩
      ·rename_i e' a len cap h1;cases h1;split at h
       ·rename_i hc;simp only at h;cases hm:(List.range len).mapM (fun i=>(W.cells? 0 (a.add (i*P.cellsOf e)) (P.cellsOf e)).bind (DataW.trod enc P W 0 (fun _=>true) true fuel e)) with
        |none=>rw[hm] at h;cases h
        |some r=>
         rw[hm,Option.bind_some] at h;simp only[if_true] at h;cases hr:(List.range (cap - len)).mapM (fun j=>(W.cells? 0 (a.add ((len+j)*P.cellsOf e)) (P.cellsOf e)).bind (DataW.trod enc P W 0 (fun _=>true) true fuel e)) with
         |none=>rw[hr] at h;cases h
         |some r'=>
          rw[hr,Option.map_some] at h;cases h;simp only[DataW.weights,hu,List.mem_cons,List.mem_append] at hw;obtain⟨q1,q2⟩:=aNn hm;rw[List.length_range] at q1;have qe:(r.length+r'.length)*P.bytesOf e<=140737488351232:=by have:=hw _ (.inl rfl);simpa [reachBytes] using this
          have px:len*P.bytesOf e<=140737488351232:=Nat.le_trans (Nat.mul_le_mul_right _ (by omega)) qe;have ym:len<=140737488351232:=Nat.le_trans (Nat.le_mul_of_pos_right _ b2) px;obtain⟨l,l1,l2⟩:∃l:LX,l.length=len/\∀(i:Nat) c,l[i]?=some c->∃xs,aloads (start W) ((pG a).add (i*k1.length)) k1.length=some xs/\CellsA (fun _=>False) (start W) k1 xs c:=by
           refine yC len fun i hi=>?_;obtain⟨y,y1,y2⟩:=q2 i i (List.getElem?_range hi);cases yj:W.cells? 0 (a.add (i*P.cellsOf e)) (P.cellsOf e) with
           |none=>rw[yj] at y2;cases y2
           |some lc=>
            rw[yj,Option.bind_some] at y2;obtain⟨p1,p2⟩:=cells?_read yj;obtain⟨c,zj⟩:=ih _ _ _ _ _ e1 y2 fun w x5=>hw w (.inr (.inl (dO (List.mem_map.2 ⟨y,List.mem_of_getElem? y1,rfl⟩) w x5)));refine⟨c,extL lc,?_,zj⟩;have h9:=aHi (H:=start W) p2;rw[p1] at h9;rw[b1,zR];exact h9
          refine⟨[.row l],?_⟩;simp only[extL,ext,CellsA,CellA];refine⟨⟨by omega,by rw[l1];exact px,.inr ⟨pG a,cap,by rw[l1],by omega,⟨.inl (by simp[pG]),fun h9=>by simp[pG] at h9⟩,l2⟩⟩,trivial⟩
       ·cases h
      ·cases h
    ·cases hk
   ·rename_i fs hu;split at hk
    ·rename_i k1 e1;cases hb:Nat.beq k1.length (P.cellsOf t) with
     |false=>rw[hb] at hk;cases hk
     |true=>
      rw[hb,QT] at hk;cases hk;have b1:=QN hb;simp only[DataW.trod,hu] at h;split at h
      ·rename_i hc;cases hm:fs.toList.mapM (fun f=>DataW.trod enc P W 0 (fun _=>true) true fuel f.type ((cs.drop f.offset).take (P.cellsOf f.type))) with
       |none=>rw[hm] at h;cases h
       |some r=>
        rw[hm,Option.map_some] at h;cases h;simp only[DataW.weights,hu] at hw;obtain⟨c,zj⟩:=uQ ih _ _ _ _ e1 hm hw;rw[List.drop_zero,b1,<-hc,List.take_length] at zj;exact⟨c,zj⟩
      ·cases h
    ·cases hk
   ·rename_i m e hu;split at hk
    ·rename_i k1 e1;cases hb:(Nat.beq k1.length (P.cellsOf e)&&Nat.beq (m*k1.length) (P.cellsOf t)) with
     |false=>rw[hb] at hk;cases hk
     |true=>
      rw[hb,QT] at hk;cases hk;obtain⟨b1,b2⟩:=Bool.and_eq_true_iff.1 hb;have b1:=QN b1;have b2:=QN b2;simp only[DataW.trod,hu] at h;split at h
      ·rename_i hc;cases hm:(List.range m).mapM (fun i=>DataW.trod enc P W 0 (fun _=>true) true fuel e ((cs.drop (i*P.cellsOf e)).take (P.cellsOf e))) with
       |none=>rw[hm] at h;cases h
       |some r=>
        rw[hm,Option.map_some] at h;cases h;simp only[DataW.weights,hu] at hw;obtain⟨c,zj⟩:=aCw ih e1 b1 hm hw m (Nat.le_refl _);rw[b2,<-hc,List.take_length] at zj;exact⟨c,zj⟩
      ·cases h
    ·cases hk
   ·cases hk
end
end Go.AM
namespace Go.AM
open Go.RowKit
variable [σ:Sg]
variable [γ:Gam]
section
variable {P:PG}{E:Env P}{G:RG}{i n d:Nat}{r:OL2}{Q:FQ}{t:Tr Value}{l:LV}{H0:AH}{A:NQ}{L L':OL}{v:Value}
 {ty:TY}{ps:String}{af:Array Edge}{gd:OB}
theorem HS.less{S H0 H:AH}{A0 A:NQ}{L L1:OL}(h:HS S H0 A0 A L H)(hs:L1.Sublist L):HS S H0 A0 A L1 H:=⟨h.kept,h.base,h.w0,h.sub,h.lt,fun p hp=>h.own p (hs.subset hp),h.dist.sublist hs⟩
theorem bAw{f:Fr}{ops:OL2}{L1:OL}(hs:L1.Sublist L)(hD:G.D=true->G.Lw.Sublist L1)(h:SO E G i ops Q f H0 A L1):SO E G i ops Q f H0 A L:=fun vg H hH=>h (vg.list hD) H (hH.less hs)
theorem aOt{x y:Operand}{c:Call}{e sT xT:TY}{dx:TypeDesc}{ii:TI}{zv:Value}{N sl m sz bt:Nat}{w:Value}{old new cs':VL}{ex:Bool}(hw:gok G.ops l gd=true)(qd:Nat.ble (d+1) n=true)(hm:G.D=true->i∈G.ms)(hc:c.callee=.builtin .append)(ha:c.args.toList=[x,y])(ht:c.argTypes.toList=[sT,xT])
 (hx:opv l x=some (.slice (some ⟨2*N+1,0,none⟩) sl sl))(hy:opv l y=some w)(hu:E.und sT=some (.slice e))(wn:E.und xT=some dx)(yd:fM dx=false)(hi:E.inf e=some ii)(hz:ii.zero=some zv)(hs:ii.size=sz)(xa:sz≠0)(vi:ii.bytes=bt)(vu:m≠0)(hf:mH G.S H0 G.A0 A L sz m w new)
 (hr:Rem N (.cells old sz ex) L L')(ry:old.length=sl*sz)(h1:aY new=true)(yu:iV (sl+m) bt=true)(yy:sl+m<=140737488355328)(yb:old++new=cs')(qt:G.D=true->G.Lw.Sublist L'){k:Nat}(hk:sl+m=k)
 (h:∀M,SO E G (i+1) r Q (fr n t ((d,.slice (some ⟨2*M+1,0,none⟩) k k)::l)) H0 A ((M,.cells cs' sz false)::L')):SO E G i (⟨some d,.call c,ty,ps,af,gd⟩::r) Q (fr n t l) H0 A L:=by
 cases ex with
 |false=>exact aNi hw qd hm hc ha ht hx hy hu wn yd hi hz hs xa vi vu hf hr ry h1 yu yy yb qt hk h
 |true=>
  refine zW hw qd hm hc ha ht hx hy hu wn yd hi hz hs xa vi vu hf (.inr ⟨N,rfl,hr.mem,ry⟩) yu yy yb hk fun M=>?_;exact bAw (List.Sublist.cons_cons _ hr.sub) (fun h=>List.Sublist.cons _ (qt h)) (h M)
end
end Go.AM
namespace Go.AM
open Go.RowKit
variable [σ:Sg]
variable [γ:Gam]
section
variable {P:PG}{E:Env P}{G:RG}{i n d:Nat}{r:OL2}{Q:FQ}{t:Tr Value}{l:LV}{H0:AH}{A:NQ}{L L':OL}{v:Value}{x y:Operand}{gd:OB}{af:Array Edge}{ps:String}{ty:TY}
end
section
variable {A:NQ}{H:AH}
theorem vV{b:Nat}{ks:KL}:CellA A H (.row b ks) (.slice none 0 0) (.row []):=by
 simp only[CellA];exact⟨by simp,by simp,.inl ⟨.inl trivial,trivial⟩⟩
end
end Go.AM
