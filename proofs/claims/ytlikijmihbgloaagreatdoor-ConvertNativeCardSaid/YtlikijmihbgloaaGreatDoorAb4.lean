/-
  An abstract machine that runs a program of the given form, and its soundness, part 4.
-/
import Derived.Test.YtlikijmihbgloaaGreatDoorAb3
import Derived.LoopNIn
import Derived.Carry
import GoSem.ClaimChange
set_option linter.unusedVariables false
set_option linter.unusedSimpArgs false
set_option linter.unusedSectionVars false
noncomputable section
namespace Go.AM
open Go.RowKit
variable [σ:Sg]
def uA(acc:NL):List Edge->Nat
 |[]=>0
 |e::r=>bif Region.binds .any e then(2^e.on ||| acc.getD e.on 0) ||| uA acc r else uA acc r
def aLa:OL2->List Nat->List Nat
 |[],acc=>acc
 |o::r,acc=>aLa r (acc++[uA acc o.after.toList])
def bef(ops:OA):NL:=aLa ops.toList []
def dU(ops:OA)(S:Nat->Bool):Prop:=∀(i:Nat) (o:Oper),ops[i]?=some o->S i=true->∀e∈o.after,Region.binds .any e=true->S e.on=true
theorem aIc{acc:NL}{j:Nat}:∀(es:List Edge),(uA acc es).testBit j=true->∃e∈es,Region.binds .any e=true/\(e.on=j\/(acc.getD e.on 0).testBit j=true):=by
 intro es
 induction es with
 |nil=>intro h;simp[uA] at h
 |cons e es ih=>
  intro h;simp only[uA] at h;cases hb:Region.binds .any e with
  |false=>
   rw[hb,QF] at h;obtain⟨e',h1,h2⟩:=ih h;exact⟨e',List.mem_cons_of_mem _ h1,h2⟩
  |true=>
   rw[hb,QT,Nat.testBit_or,Nat.testBit_or,Bool.or_eq_true,Bool.or_eq_true] at h;rcases h with(h|h)|h
   ·refine⟨e,List.mem_cons_self ..,hb,.inl ?_⟩;rw[Nat.testBit_two_pow] at h;simpa using h
   ·exact⟨e,List.mem_cons_self ..,hb,.inr h⟩
   ·obtain⟨e',h1,h2⟩:=ih h;exact⟨e',List.mem_cons_of_mem _ h1,h2⟩
theorem aFy{ops:OA}{S:Nat->Bool}(hS:dU ops S):∀(l:OL2) (acc:NL),(∀k,l[k]?=ops[acc.length+k]?)->
 (∀i j,((acc.getD i 0).testBit j=true)->S i=true->S j=true)->∀i j,(((aLa l acc).getD i 0).testBit j=true)->S i=true->S j=true:=by
 intro l
 induction l with
 |nil=>intro acc _ h;exact h
 |cons o r ih=>
  intro acc hl h;simp only[aLa];refine ih _ (fun k=>?_) (fun i j hb hi=>?_)
  ·have:=hl (k+1);simp only[List.getElem?_cons_succ] at this;rw[this];simp only[List.length_append,List.length_singleton];congr 1;omega
  ·by_cases qj:i<acc.length
   ·rw[List.getD_eq_getElem?_getD,List.getElem?_append_left qj,<-List.getD_eq_getElem?_getD] at hb;exact h i j hb hi
   ·by_cases he:i=acc.length
    ·subst he;rw[List.getD_eq_getElem?_getD,List.getElem?_append_right (Nat.le_refl _)] at hb;simp at hb;have ho:ops[acc.length]?=some o:=by have:=hl 0;simpa using this.symm
     obtain⟨e,h1,h2,h3⟩:=aIc _ hb;have az:=hS _ o ho hi e (by simpa using h1) h2;rcases h3 with h3|h3
     ·rw[<-h3];exact az
     ·exact h _ _ h3 az
    ·rw[List.getD_eq_getElem?_getD,List.getElem?_eq_none (by simp;omega)] at hb;simp at hb
theorem dK{ops:OA}{S:Nat->Bool}(hS:dU ops S){i j:Nat}(hb:((bef ops).getD i 0).testBit j=true)(hi:S i=true):S j=true:=
 aFy hS ops.toList [] (fun k=>by simp) (fun i j h=>by simp at h) i j hb hi
def bY(ops:OA)(bs:NL):Bool:=
 (List.range ops.size).all fun j=>match ops[j]? with
  |some oj=>(oj.after.toList.all fun e=>!(Region.binds .any e)||Nat.blt e.on j)&&(match oj.op with|.select ..=>false|.defer _=>false|_=>true)&&
   (List.range j).all fun i=>match ops[i]? with
    |some oi=>oi.apart ops oj||(bs.getD j 0).testBit i
    |none=>true
  |none=>true
theorem cG{ops:OA}{bs:NL}(h:bY ops bs=true){i j:Nat}{oi oj:Oper}(ye:i<j)(hi:ops[i]?=some oi)(hj:ops[j]?=some oj):oi.apart ops oj=true\/(bs.getD j 0).testBit i=true:=by
 unfold bY at h;rw[List.all_eq_true] at h;have h1:=h j (List.mem_range.2 (alt_of_getElem? hj));simp only[hj,QB] at h1;have h2:=h1.2;rw[List.all_eq_true] at h2;have h3:=h2 i (List.mem_range.2 ye);simp only[hi,Bool.or_eq_true] at h3;exact h3
theorem dZ{ops:OA}{bs:NL}(h:bY ops bs=true){j:Nat}{oj:Oper}(hj:ops[j]?=some oj){e:Edge}(he:e∈oj.after)(hb:Region.binds .any e=true):e.on<j:=by
 unfold bY at h;rw[List.all_eq_true] at h;have h1:=h j (List.mem_range.2 (alt_of_getElem? hj));simp only[hj,QB] at h1;have h2:=h1.1.1;rw[List.all_eq_true] at h2;have h3:=h2 e (by simpa using he);simp only[hb,Bool.not_true,Bool.false_or] at h3;exact QL h3
theorem kQ{ops:OA}{bs:NL}(h:bY ops bs=true):∀(j:Nat) (oj:Oper) (c:Call),ops[j]?=some oj->oj.op≠.defer c:=by
 intro j oj c hj;unfold bY at h;rw[List.all_eq_true] at h;have h1:=h j (List.mem_range.2 (alt_of_getElem? hj));simp only[hj,QB] at h1;intro e;have:=h1.1.2;rw[e] at this;cases this
def jS(f0:Fr)(ops:OA)(V:Nat->Value)(S:Nat->Bool):Nat->Tmp->Value
 |0,d=>bV f0 d
 |k+1,d=>if S k=true/\(ops[k]?).bind (·.dst)=some d then V k else jS f0 ops V S k d
theorem rX{f0:Fr}{ops:OA}{V:Nat->Value}{S S':Nat->Bool}{d:Tmp}:∀n,(∀k,k<n->(ops[k]?).bind (·.dst)=some d->S k=S' k)->jS f0 ops V S n d=jS f0 ops V S' n d:=by
 intro n
 induction n with
 |zero=>intro _;rfl
 |succ n ih=>
  intro h;simp only[jS];rw[ih fun k hk=>h k (by omega)];by_cases hd:(ops[n]?).bind (·.dst)=some d
  ·rw[h n (by omega) hd]
  ·simp[hd]
theorem kY{f0:Fr}{ops:OA}{V:Nat->Value}{S:Nat->Bool}{d:Tmp}{i:Nat}:∀n,i<=n->(∀k,i<=k->k<n->(ops[k]?).bind (·.dst)=some d->S k=false)->jS f0 ops V S n d=jS f0 ops V S i d:=by
 intro n
 induction n with
 |zero=>intro hi _;rw[show i=0 by omega]
 |succ n ih=>
  intro hi h;by_cases he:i=n+1
  ·rw[he]
  ·simp only[jS];rw[if_neg (fun⟨h1,h2⟩=>by rw[h n (by omega) (by omega) h2] at h1;cases h1)];exact ih (by omega) fun k hk uo=>h k hk (by omega)
structure Trace0 (ops:OA) (F:Nat->Fr) (V:Nat->Value):Prop where
 order:bY ops (bef ops)=true
 put:∀(i:Nat) o,ops[i]?=some o->(F i).put o.dst (V i)=some (F (i+1))
structure Trace {P:PG} (E:Env P) (ops:OA) (F:Nat->Fr) (HH:Nat->AH) (V:Nat->Value) (M:Nat->Bool):Prop extends Trace0 ops F V where
 step:∀(i:Nat) o,ops[i]?=some o->
  (aR ops (bV (F i)) o=false/\V i=undef/\M i=false)\/
  (aR ops (bV (F i)) o=true/\M i=false/\∀t,t<=ops.size->(∀j,j<ops.size->M j=true->((bef ops).getD i 0).testBit j=true->j<t)->
   (∀j,j<ops.size->M j=true->((bef ops).getD j 0).testBit i=true->t<=j)->aop E (aN (F i)) o.op (HH t)=some (V i,HH t))\/
  (aR ops (bV (F i)) o=true/\M i=true/\aop E (aN (F i)) o.op (HH i)=some (V i,HH (i+1)))\/
  (aR ops (bV (F i)) o=true/\M i=true/\∃g args,bN E (aN (F i)) o.op=some (g,args)/\ACalls P g args (HH i) fun v H'=>v=V i/\H'=HH (i+1))
 still:∀i,i<ops.size->M i=false->HH (i+1)=HH i
 mains:∀i j,i<j->j<ops.size->M i=true->M j=true->((bef ops).getD j 0).testBit i=true
section
variable {P:PG}{E:Env P}{ops:OA}{F:Nat->Fr}{HH:Nat->AH}{V:Nat->Value}{M:Nat->Bool}
theorem Trace0.slots(T:Trace0 ops F V)(d:Tmp):∀k,k<=ops.size->bV (F k) d=jS (F 0) ops V (fun _=>true) k d:=by
 intro k
 induction k with
 |zero=>intro _;rfl
 |succ k ih=>
  intro hk;have qj:k<ops.size:=by omega
  have ho:ops[k]?=some ops[k]:=Array.getElem?_eq_getElem qj;have hp:=T.put k _ ho;simp only[jS,ho,Option.bind_some];unfold Fr.put at hp;cases hd:ops[k].dst with
  |none=>
   rw[hd] at hp;simp only[Option.some.injEq] at hp;rw[<-hp];simpa using ih (by omega)
  |some d'=>
   rw[hd] at hp;simp only at hp;rcases aK hp with hp|hp
   ·simp only[Option.some.injEq] at hp;rw[<-hp];simp only[bV,aN,Tr.get_set];by_cases e:d=d'
    ·subst e;simp
    ·rw[if_neg e,if_neg (fun h=>e (by simpa using h.2.symm))];exact ih (by omega)
   ·cases hp
theorem Trace0.size(T:Trace0 ops F V):∀k,k<=ops.size->(F k).n=(F 0).n:=by
 intro k
 induction k with
 |zero=>intro _;rfl
 |succ k ih=>
  intro hk;have ho:ops[k]?=some ops[k]:=Array.getElem?_eq_getElem (by omega);have hp:=T.put k _ ho;unfold Fr.put at hp;split at hp
  ·simp only[Option.some.injEq] at hp;rw[<-hp];exact ih (by omega)
  ·rcases aK hp with hp|hp
   ·simp only[Option.some.injEq] at hp;rw[<-hp];exact ih (by omega)
   ·cases hp
theorem Trace0.dst_lt(T:Trace0 ops F V){i:Nat}{o:Oper}(ho:ops[i]?=some o){d:Tmp}(hd:o.dst=some d):d<(F 0).n:=by
 have hp:=T.put i o ho;rw[hd] at hp;unfold Fr.put at hp;simp only at hp;have hi:=alt_of_getElem? ho;cases qf:Nat.ble (d+1) (F i).n with
 |false=>rw[qf] at hp;cases hp
 |true=>have:=QL qf;rw[T.size i (by omega)] at this;exact this
def Inv [Pins](ops:OA)(F:Nat->Fr)(HH:Nat->AH)(V:Nat->Value)(M:Nat->Bool)(φ:PL)(listed:Array Bool)(a:Act)(w:World):Prop:=
 listed.size=ops.size/\dU ops (fun i=>listed.getD i false)/\∃φ',φ <+: φ'/\VRel φ' (F 0).n (jS (F 0) ops V (fun i=>listed.getD i false) ops.size) a/\
  ∃t,t<=ops.size/\(∀j,j<ops.size->M j=true->(listed.getD j false=true↔j<t))/\Rel φ' (HH t) w
theorem lF(hw:∀i,i<ops.size->(HH (i+1)).w0=(HH i).w0):∀t,t<=ops.size->(HH t).w0=(HH 0).w0:=by
 intro t
 induction t with
 |zero=>intro _;rfl
 |succ t ih=>intro h;rw[hw t (by omega),ih (by omega)]
theorem jY{listed:Array Bool}{i j:Nat}(hi:i<listed.size):(listed.setIfInBounds i true).getD j false=if j=i then true else listed.getD j false:=by
 simp only[Array.getD_eq_getD_getElem?,Array.getElem?_setIfInBounds];by_cases e:i=j
 ·subst e;simp[hi]
 ·rw[if_neg e,if_neg (fun h=>e h.symm)]
theorem VRel.put [Pins]{φ:PL}{n:Nat}{sv:Tmp->Value}{a:Act}(h:VRel φ n sv a){dst:Option Tmp}{v v':Value}(hv:VR φ v v')(qj:∀d,dst=some d->d<n):
 VRel φ n (fun t=>if dst=some t then v else sv t) (a.put dst v'):=by
 obtain⟨h1,h2,h3⟩:=h;cases dst with
 |none=>exact⟨h1,h2,fun t=>by simpa [Act.put] using h3 t⟩
 |some d=>
  refine⟨h1,by simp[Act.put,h2],fun t=>?_⟩;have hd:=qj d rfl;simp only[Act.put];by_cases e:d=t
  ·subst e;simp only[if_true];have:(a.tmps.setIfInBounds d v').getD d undef=v':=by simp[Array.getD_eq_getD_getElem?,h2,hd]
   rw[this];exact hv
  ·have:(a.tmps.setIfInBounds d v').getD t undef=a.tmps.getD t undef:=by simp[Array.getD_eq_getD_getElem?,e]
   rw[this];simp only[Option.some.injEq,e,if_false];exact h3 t
theorem VRel.mono [Pins]{φ φ':PL}(h:φ <+: φ'){n:Nat}{sv:Tmp->Value}{a:Act}(r:VRel φ n sv a):VRel φ' n sv a:=⟨r.1,r.2.1,fun t=>(r.2.2 t).mono h⟩
theorem Trace0.sees(T:Trace0 ops F V){S:Nat->Bool}(hS:dU ops S){i:Nat}(vq:dU ops (fun j=>if j=i then true else S j)){o:Oper}(ho:ops[i]?=some o)(hi:S i=false){d:Tmp}(hd:d∈o.looksAt ops):jS (F 0) ops V S ops.size d=bV (F i) d:=by
 have qj:=alt_of_getElem? ho;rw[kY (i:=i) ops.size (by omega) ?_,T.slots d i (by omega)]
 ·refine rX i fun k hk xo=>?_;have yr:ops[k]?=some ops[k]:=Array.getElem?_eq_getElem (by omega);rw[yr] at xo;simp only[Option.bind_some] at xo;rcases cG T.order hk yr ho with wh|hb
  ·exact absurd hd ((Oper.apart_spec wh).1 d xo)
  ·have:=dK vq hb (by simp);rw[if_neg (by omega)] at this;rw[this]
 ·intro k hk pq xo;have yr:ops[k]?=some ops[k]:=Array.getElem?_eq_getElem pq;rw[yr] at xo;simp only[Option.bind_some] at xo;by_cases e:k=i
  ·subst e;exact hi
  ·cases jm:S k with
   |false=>rfl
   |true=>
    rcases cG T.order (show i<k by omega) ho yr with wh|hb
    ·exact absurd hd ((Oper.apart_spec wh).2.2 d xo)
    ·rw[dK hS hb jm] at hi;cases hi
theorem Trace0.sees_dst(T:Trace0 ops F V){S:Nat->Bool}(hS:dU ops S){i:Nat}{o:Oper}(ho:ops[i]?=some o)(hi:S i=false)(d:Tmp):
 jS (F 0) ops V (fun j=>if j=i then true else S j) ops.size d=if o.dst=some d then V i else jS (F 0) ops V S ops.size d:=by
 have qj:=alt_of_getElem? ho;by_cases hd:o.dst=some d
 ·rw[if_pos hd,kY (i:=i+1) ops.size (by omega) ?_]
  ·simp[jS,ho,hd]
  ·intro k hk pq xo;have yr:ops[k]?=some ops[k]:=Array.getElem?_eq_getElem pq;rw[yr] at xo;simp only[Option.bind_some] at xo;rw[if_neg (by omega)];cases jm:S k with
   |false=>rfl
   |true=>
    rcases cG T.order (show i<k by omega) ho yr with wh|hb
    ·exact absurd xo ((Oper.apart_spec wh).2.1 d hd)
    ·rw[dK hS hb jm] at hi;cases hi
 ·rw[if_neg hd];refine rX ops.size fun k hk xo=>?_;by_cases e:k=i
  ·subst e;rw[ho] at xo;simp at xo;exact absurd xo hd
  ·rw[if_neg e]
theorem hZ{listed:Array Bool}(hS:dU ops (fun i=>listed.getD i false)){i:Nat}(hr:i∈Region.ready .any ops listed):dU ops (fun j=>if j=i then true else listed.getD j false):=by
 intro k o ho hk e he hb;show(if e.on=i then true else listed.getD e.on false)=true;by_cases a9:e.on=i
 ·rw[if_pos a9]
 ·rw[if_neg a9];simp only at hk;by_cases oe:k=i
  ·subst oe;have ke:=hr;unfold Region.ready at ke;rw[List.mem_filter] at ke;obtain⟨_,h2⟩:=ke;simp only[QB,ho,Option.map_some,Option.getD_some] at h2;have h3:=h2.2;rw[Array.all_eq_true'] at h3;have h4:=h3 e he;simpa [hb] using h4
  ·rw[if_neg oe] at hk;exact hS k o ho hk e he hb
theorem Trace.any [Pins](T:Trace E ops F HH V M)(zo:∀i,i<ops.size->(HH (i+1)).w0=(HH i).w0){Q:AQ}(hQ:Q .normal (F ops.size) (HH ops.size))(φ:PL):
 ∀(fuel:Nat) (listed:Array Bool) (a:Act) (w:World),Inv ops F HH V M φ listed a w->listed.toList.countP id+fuel=ops.size->wpAny P .any ops (gY φ (HH 0).w0 Q) fuel listed a w:=by
 have fin:∀(listed:Array Bool) (a:Act) (w:World),Inv ops F HH V M φ listed a w->(∀i,i<ops.size->listed.getD i false=true)->gY φ (HH 0).w0 Q .normal a w:=by
  intro listed a w ⟨qu,hS,φ',hφ,hV,t,ht,rl,hR⟩ qv;have jn:∀k,t<=k->k<=ops.size->HH k=HH t:=by
   intro k
   induction k with
   |zero=>intro h _;rw[show t=0 by omega]
   |succ k ih=>
    intro h1 h2;by_cases e:t=k+1
    ·rw[e]
    ·have hM:M k=false:=by
      cases hk:M k with
      |false=>rfl
      |true=>have:=(rl k (by omega) hk).1 (qv k (by omega));omega
     rw[T.still k (by omega) hM];exact ih (by omega) (by omega)
  refine⟨φ',F ops.size,HH ops.size,hφ,⟨hV.1,by rw[hV.2.1,T.size _ (Nat.le_refl _)],fun d=>?_⟩,by rw[jn _ ht (Nat.le_refl _)];exact hR,lF zo _ (Nat.le_refl _),hQ⟩;have:=hV.2.2 d;rw[rX (S':=fun _=>true) ops.size (fun k hk _=>by simp[qv k hk]),<-T.slots d _ (Nat.le_refl _)] at this;exact this
 intro fuel
 induction fuel with
 |zero=>
  intro listed a w hI hc;have qv:∀i,i<ops.size->listed.getD i false=true:=by
   have qu:=hI.1;have:listed.toList.countP id=listed.toList.length:=by rw[Array.length_toList,qu];omega
   rw[List.countP_eq_length] at this;intro i hi;have hm:listed[i]'(by omega)∈listed.toList:=by simp
   have:=this _ hm;simp only[id] at this;simp[Array.getD_eq_getD_getElem?,qu,hi,this]
  refine⟨?_,fin listed a w hI qv⟩;rw[List.eq_nil_iff_forall_not_mem];intro i hi;unfold Region.ready at hi;rw[List.mem_filter] at hi;obtain⟨h1,h2⟩:=hi;have qj:=List.mem_range.1 h1;simp only[QB] at h2;have h3:=qv i qj;have h4:=h2.1;have qu:=hI.1;simp[Array.getD_eq_getD_getElem?,qu,qj] at h3 h4;rw[h3] at h4;cases h4
 |succ fuel ih=>
  intro listed a w hI hc;refine⟨fun hr=>fin listed a w hI ?_,fun i hi=>?_⟩
  ·-- nothing is ready:all has run
   intro i
   induction i using Nat.strongRecOn with
   |_ i ihi=>
    intro qj;cases hl:listed.getD i false with
    |true=>rfl
    |false=>
     exfalso;have zu:i∈Region.ready .any ops listed:=by
      unfold Region.ready;rw[List.mem_filter];refine⟨List.mem_range.2 qj,?_⟩;have ho:ops[i]?=some ops[i]:=Array.getElem?_eq_getElem qj;simp only[QB,ho,Option.map_some,Option.getD_some];refine⟨?_,?_⟩
      ·have qu:=hI.1;simp[Array.getD_eq_getD_getElem?,qu,qj] at hl ⊢;exact hl
      ·rw[Array.all_eq_true'];intro e he;cases hb:Region.binds .any e with
       |false=>rfl
       |true=>
        have wi:=dZ T.order ho he hb;simp[ihi e.on wi (by omega)]
     rw[hr] at zu;cases zu
  ·-- one operation
   obtain⟨qu,hS,φ',hφ,hV,t,ht,rl,hR⟩:=hI;have ql:=hi;unfold Region.ready at ql;rw[List.mem_filter] at ql;have qj:=List.mem_range.1 ql.1;have zx:listed.getD i false=false:=by
    have h4:=ql.2;simp only[QB] at h4;have h4:=h4.1;simp[Array.getD_eq_getD_getElem?,qu,qj] at h4 ⊢;exact h4
   have ho:ops[i]?=some ops[i]:=Array.getElem?_eq_getElem qj;generalize ops[i]=o at ho;have vq:=hZ hS hi;have ve:(listed.setIfInBounds i true).toList.countP id+fuel=ops.size:=by
    rw[Array.toList_setIfInBounds,List.countP_set (by simp;omega)]
    have hget:(listed.toList[i]'(by simp;omega))=false:=by
     simp[Array.getD_eq_getD_getElem?,qu,qj] at zx;simpa using zx
    rw[hget];simp only[id,Bool.false_eq_true,if_false,if_true];omega
   have wj:∀d∈o.looksAt ops,VR φ' (bV (F i) d) (a.tmps.getD d undef):=by
    intro d hd;rw[<-T.sees hS vq ho zx hd];exact hV.2.2 d
   have wl:=fV (φ:=φ') (sv:=bV (F i)) ops o wj
   -- the invariant,behind the operation
   have next:∀(φ2:PL) (v':Value) (w':World) (t2:Nat),φ' <+: φ2->VR φ2 (V i) v'->t2<=ops.size->(∀j,j<ops.size->M j=true->((if j=i then true else listed.getD j false)=true↔j<t2))->Rel φ2 (HH t2) w'->
    wpAny P .any ops (gY φ (HH 0).w0 Q) fuel (listed.setIfInBounds i true) (a.put o.dst v') w':=by
    intro φ2 v' w' t2 h1 h2 h3 h4 h5;have xl:(fun j=>(listed.setIfInBounds i true).getD j false)=fun j=>if j=i then true else listed.getD j false:=funext fun j=>jY (by omega)
    refine ih _ _ _ ⟨by simp[qu],by rw[xl];exact vq,φ2,hφ.trans h1,?_,t2,h3,fun j hj hM=>?_,h5⟩ ve
    ·rw[xl];have:=(hV.mono h1).put (dst:=o.dst) h2 (fun d hd=>T.dst_lt ho hd);have heq:jS (F 0) ops V (fun j=>if j=i then true else listed.getD j false) ops.size=fun d=>if o.dst=some d then V i else jS (F 0) ops V (fun i=>listed.getD i false) ops.size d:=funext fun d=>T.sees_dst hS ho zx d
     rw[heq];exact this
    ·rw[show(listed.setIfInBounds i true).getD j false=if j=i then true else listed.getD j false from congrFun xl j];exact h4 j hj hM
   unfold wpOp;rw[ho];simp only;rw[wl];have hρ:∃ρ2:Operand->Value,(∀x,VR φ' (ρ2 x) (a.eval x))/\∀x∈o.op.operands,ρ2 x=aN (F i) x:=by
    open Classical in
    refine⟨fun x=>if x∈o.op.operands then aN (F i) x else ext (a.eval x),fun x=>?_,fun x hx=>by simp[hx]⟩;by_cases hx:x∈o.op.operands
    ·simp only[hx,if_true];cases x with
     |tmp d=>exact wj d (by simp only[Oper.looksAt,List.mem_append,List.mem_filterMap];exact .inl ⟨.tmp d,by simpa using hx,rfl⟩)
     |const v=>exact VR.ext φ' v
     |global g=>exact .ptr (.inl ⟨by simp,by simp,rfl,rfl⟩)
     |func g=>exact .func _ rfl rfl rfl (fun i v v' h=>by simp at h) (fun i v v' h=>by simp at h)
    ·simp only[hx,if_false];exact VR.ext φ' _
   obtain⟨ρ2,hρ2,hρe⟩:=hρ
   have na:∀(v:Value) (H2:AH) (t2:Nat) (Hx:AH),Rel φ' Hx w->aop E (aN (F i)) o.op Hx=some (v,H2)->v=V i->H2=HH t2->t2<=ops.size->
    (∀j,j<ops.size->M j=true->((if j=i then true else listed.getD j false)=true↔j<t2))->o.wp P a w (wpAny P .any ops (gY φ (HH 0).w0 Q) fuel (listed.setIfInBounds i true)) (gY φ (HH 0).w0 Q):=by
    intro v H2 t2 Hx ip qi hv iq h3 h4;rw[<-tE E o.op Hx hρe] at qi;obtain⟨φ2,v',w',q1,q2,q3,q4⟩:=aCh E ip hρ2 qi;subst hv;subst iq;unfold Oper.wp;rcases q4 with q4|⟨q4,rfl⟩
    ·rw[q4];exact next φ2 v' w' t2 q1 q3 h3 h4 q2
    ·rw[q4];exact next φ2 undef w' t2 q1 q3 h3 h4 q2
   have heq:∀t',t'<=ops.size->(∀j,j<ops.size->M j=true->(j<t↔j<t'))->HH t'=HH t:=by
    have up:∀x y,x<=y->y<=ops.size->(∀j,j<ops.size->M j=true->¬(x<=j/\j<y))->HH y=HH x:=by
     intro x y
     induction y with
     |zero=>intro h _ _;rw[show x=0 by omega]
     |succ y ihy=>
      intro h1 h2 h3;by_cases e:x=y+1
      ·rw[e]
      ·have hM:M y=false:=by
        cases hk:M y with
        |false=>rfl
        |true=>exact absurd ⟨by omega,by omega⟩ (h3 y (by omega) hk)
       rw[T.still y (by omega) hM];exact ihy (by omega) (by omega) fun j hj hM hh=>h3 j hj hM ⟨hh.1,by omega⟩
    intro t' rm h;rcases Nat.le_total t t' with qf|qf
    ·exact up t t' qf rm fun j hj hM hh=>by have:=(h j hj hM).2 hh.2;omega
    ·exact(up t' t qf ht fun j hj hM hh=>by have:=(h j hj hM).1 hh.2;omega).symm
   have vt:∀j,j<ops.size->M j=true->j≠i->((bef ops).getD i 0).testBit j=true->j<t:=by
    intro j hj hM qn hb;have:=dK vq hb (by simp);rw[if_neg qn] at this;exact(rl j hj hM).1 this
   have tj:∀j,j<ops.size->M j=true->((bef ops).getD j 0).testBit i=true->t<=j:=by
    intro j hj hM hb;rcases Nat.lt_or_ge j t with h|h
    ·have:=dK hS hb ((rl j hj hM).2 h);rw[this] at zx;cases zx
    ·exact h
   have xh:M i=true->HH i=HH t/\(∀j,j<ops.size->M j=true->((if j=i then true else listed.getD j false)=true↔j<i+1)):=by
    intro yo;have jo:∀j,j<ops.size->M j=true->j≠i->(j<t↔j<i):=by
     intro j hj hM qn;constructor
     ·intro h;rcases Nat.lt_or_ge j i with h'|h'
      ·exact h'
      ·have:=tj j hj hM (T.mains i j (by omega) hj yo hM);omega
     ·intro h;exact vt j hj hM qn (T.mains j i h qj hM yo)
    have zb:¬i<t:=fun h=>by rw[(rl i qj yo).2 h] at zx;cases zx
    refine⟨heq i (by omega) fun j hj hM=>?_,fun j hj hM=>?_⟩
    ·by_cases e:j=i
     ·subst e;omega
     ·exact jo j hj hM e
    ·by_cases e:j=i
     ·subst e;simp
     ·rw[if_neg e];have h1:=rl j hj hM;have h2:=jo j hj hM e;constructor
      ·intro h;have:=h2.1 (h1.1 h);omega
      ·intro h;exact h1.2 (h2.2 (by omega))
   have tl:M i=false->∀j,j<ops.size->M j=true->((if j=i then true else listed.getD j false)=true↔j<t):=by
    intro yo j hj hM;by_cases e:j=i
    ·subst e;rw[yo] at hM;cases hM
    ·rw[if_neg e];exact rl j hj hM
   rcases T.step i o ho with⟨h1,h2,h3⟩|⟨h1,h2,h3⟩|⟨h1,h2,h3⟩|⟨h1,h2,g,args,h3,h4⟩
   ·rw[h1];simp only[Bool.false_eq_true,if_false];exact next φ' undef w t (List.prefix_refl _) (by rw[h2];exact VR.undef φ') ht (tl h3) hR
   ·rw[h1,if_pos rfl];left;refine na _ _ t (HH t) hR (h3 t ht (fun j hj hM hb=>vt j hj hM (fun e=>by subst e;rw[h2] at hM;cases hM) hb) tj) rfl rfl ht (tl h2)
   ·rw[h1,if_pos rfl];left;obtain⟨m1,m2⟩:=xh h2;exact na _ _ (i+1) (HH i) (by rw[m1];exact hR) h3 rfl rfl (by omega) m2
   ·rw[h1,if_pos rfl];left;obtain⟨m1,m2⟩:=xh h2;rw[<-pN E o.op hρe] at h3;obtain⟨args',q1,q2⟩:=qX E hρ2 h3 w;unfold Oper.wp;rw[q2];refine(h4 _ φ' args' w q1 (by rw[m1];exact hR)).mono ?_;rintro e w' ⟨φ2,v,v',H',r1,rfl,r2,r3,r4,rfl,rfl⟩;exact next φ2 v' w' (i+1) r1 r2 (by omega) m2 r3
theorem Trace.region [γ:Gam](T:Trace E ops F HH V M)(hm:P.follows .mixedOrders=true)(zo:∀i,i<ops.size->(HH (i+1)).w0=(HH i).w0){Q:AQ}(hQ:Q .normal (F ops.size) (HH ops.size))(id:Nat):
 ACode P (.region id ops true) Q (F 0) (HH 0):=by
 refine ACode.of_any hm (kQ T.order) (fun π φ a w hf hR=>?_) hQ;refine T.any zo (Q:=fun e f' H'=>e=.normal/\f'=F ops.size/\H'=HH ops.size) ⟨rfl,rfl,rfl⟩ φ ops.size (Array.replicate ops.size false) a _ ⟨by simp,?_,φ,List.prefix_refl _,?_,0,Nat.zero_le _,fun j hj hM=>?_,hR.drew⟩ ?_
 ·intro i o ho hi;simp[Array.getD_eq_getD_getElem?,Array.getElem?_replicate] at hi;split at hi<;>simp at hi
 ·refine⟨hf.1,hf.2.1,fun d=>?_⟩;have hS:jS (F 0) ops V (fun i=>(Array.replicate ops.size false).getD i false) ops.size d=bV (F 0) d:=by
   rw[kY (i:=0) ops.size (Nat.zero_le _)]
   ·rfl
   ·intro k _ hk _;simp[Array.getD_eq_getD_getElem?,hk]
  rw[hS];exact hf.2.2 d
 ·simp[Array.getD_eq_getD_getElem?,hj]
 ·simp[Array.toList_replicate]
end
end Go.AM
namespace Go.AM
open Go.RowKit
variable [σ:Sg]
def aZx:Value->Value->Bool
 |.bool a,.bool b=>a==b
 |.int k a,.int k' b=>decide (k=k')&&a==b
 |.string a,.string b=>a.data.toList==b.data.toList
 |.pointer a,.pointer b=>decide (a=b)
 |.slice a l c,.slice b l' c'=>decide (a=b)&&(Nat.beq l l'&&Nat.beq c c')
 |.map a,.map b=>decide (a=b)
 |.chan a,.chan b=>decide (a=b)
 |.nilIface,.nilIface=>true
 |.nilFunc,.nilFunc=>true
 |_,_=>false
def zI:VL->List Value->Bool
 |[],[]=>true
 |a::r,b::s=>aZx a b&&zI r s
 |_,_=>false
def bAt:Value->Value->Bool
 |.agg ⟨xs⟩,.agg ⟨ys⟩=>zI xs ys
 |a,b=>aZx a b
def aNo:VL->List Value->Bool
 |[],[]=>true
 |a::r,b::s=>bAt a b&&aNo r s
 |_,_=>false
def veq:Value->Value->Bool
 |.tuple ⟨xs⟩,.tuple ⟨ys⟩=>aNo xs ys
 |a,b=>bAt a b
theorem aLl{a b:Value}(h:aZx a b=true):a=b:=by
 unfold aZx at h;split at h
 ·rw[beq_iff_eq] at h;rw[h]
 ·simp only[QB,decide_eq_true_eq,beq_iff_eq] at h;rw[h.1,h.2]
 ·rw[beq_iff_eq] at h;congr 1;apply ByteArray.ext;rw[<-Array.toList_inj];exact h
 ·simp only[decide_eq_true_eq] at h;rw[h]
 ·simp only[QB,decide_eq_true_eq] at h;rw[h.1,QN h.2.1,QN h.2.2]
 ·simp only[decide_eq_true_eq] at h;rw[h]
 ·simp only[decide_eq_true_eq] at h;rw[h]
 ·rfl
 ·rfl
 ·cases h
theorem rV:∀{a b:VL},zI a b=true->a=b
 |[],[],_=>rfl
 |[],_::_,h=>by simp[zI] at h
 |_::_,[],h=>by simp[zI] at h
 |a::r,b::s,h=>by
  simp only[zI,QB] at h;rw[aLl h.1,rV h.2]
theorem aKq{a b:Value}(h:bAt a b=true):a=b:=by
 unfold bAt at h;split at h
 ·rw[rV h]
 ·exact aLl h
theorem aKb:∀{a b:VL},aNo a b=true->a=b
 |[],[],_=>rfl
 |[],_::_,h=>by simp[aNo] at h
 |_::_,[],h=>by simp[aNo] at h
 |a::r,b::s,h=>by
  simp only[aNo,QB] at h;rw[aKq h.1,aKb h.2]
theorem aRj{a b:Value}(h:veq a b=true):a=b:=by
 unfold veq at h;split at h
 ·rw[aKb h]
 ·exact aKq h
section
variable {P:PG}(E:Env P)
def bX(op:Op):Bool:=
 match op with
 |.move _|.assign _|.pick ..|.build ..|.load ..|.nilCheck _|.binOp ..|.unOp ..|.makeFunc ..|.slice ..|.fieldAddr ..|.field ..|.indexAddr ..|.index ..|.lookup ..|.extract ..=>true
 |.convert _ d _=>(match E.und d with|some (.int _)=>true|some .string=>true|_=>false)
 |.call c=>(match c.callee with|.builtin .len|.builtin .cap|.builtin .min|.builtin .max=>true|_=>false)
 |_=>false
def eO(op:Op):Bool:=
 match op with
 |.move _|.assign _|.pick ..|.build ..|.nilCheck _|.binOp ..|.unOp ..|.makeFunc ..|.fieldAddr ..|.field ..|.indexAddr ..|.index ..|.extract ..=>true
 |.convert _ d _=>(match E.und d with|some (.int _)=>true|_=>false)
 |.call c=>(match c.callee with
  |.builtin .min|.builtin .max=>true
  |.builtin .len=>(match c.argTypes.toList with
   |[t]=>(match E.und t with|some (.map _ _)=>false|_=>true)
   |_=>false)
  |_=>false)
 |_=>false
theorem mC{ρ:Operand->Value}{op:Op}{H H':AH}{v:Value}(hq:bX E op=true)(h:aop E ρ op H=some (v,H')):H'=H:=by
 cases op<;>simp only[bX] at hq<;>(try (cases hq;done))<;>simp only[aop] at h
 case move=>cases h;rfl
 case assign=>cases h;rfl
 case pick=>split at h<;>cases h<;>rfl
 case load=>split at h
            ·exact(aE h).2
            ·cases h
 case nilCheck=>split at h<;>cases h<;>rfl
 case makeFunc fn a b=>
  cases e:fnY fn with
  |true=>rw[e] at h;cases h
  |false=>rw[e,QF] at h;cases h;rfl
 case convert s d x=>
  unfold kK at h;split at hq
  ·rename_i k hd;split at h
   ·cases h;rfl
   ·rename_i qg _;rw[hd] at qg;cases qg
   ·rename_i qg _;rw[hd] at qg;cases qg
   ·rename_i qg _;rw[hd] at qg;cases qg
   ·rename_i qg _;rw[hd] at qg;cases qg
   ·first|(rename_i qg _;rw[hd] at qg;cases qg;done)|(rename_i qg;rw[hd] at qg;cases qg;done)
   ·first|(rename_i qg _;rw[hd] at qg;cases qg;done)|(rename_i qg;rw[hd] at qg;cases qg;done)
   ·cases h
  ·rename_i hd;split at h
   ·cases h;rfl
   ·cases h;rfl
   ·rename_i qg _;rw[hd] at qg;cases qg
   ·split at h
    ·split at h
     ·rcases aK h with h|h
      ·cases h
      ·cases h;rfl
     ·split at h
      ·split at h
       ·cases h;rfl
       ·cases h
      ·cases h
    ·cases h
   ·rename_i qg _;rw[hd] at qg;cases qg
   ·first|(rename_i qg _;rw[hd] at qg;cases qg;done)|(rename_i qg;rw[hd] at qg;cases qg;done)
   ·first|(rename_i qg _;rw[hd] at qg;cases qg;done)|(rename_i qg;rw[hd] at qg;cases qg;done)
   ·cases h
  ·cases hq
 case call c=>
  split at hq
  ·rename_i hc;simp only[hc] at h;split at h
   ·exact(aE h).2
   ·cases h
  ·rename_i hc;simp only[hc] at h;split at h
   ·exact(aE h).2
   ·cases h
  ·rename_i hc;simp only[hc] at h;split at h
   ·exact(aE h).2
   ·cases h
  ·rename_i hc;simp only[hc] at h;split at h
   ·exact(aE h).2
   ·cases h
  ·cases hq
 all_goals exact(aE h).2
theorem kO{x:Option Value}{H H2:AH}{v:Value}(h:aQ x H=some (v,H)):aQ x H2=some (v,H2):=by
 obtain⟨rfl,_⟩:=aE h;rfl
theorem sU{ρ:Operand->Value}{op:Op}{H:AH}{v:Value}(hq:eO E op=true)(h:aop E ρ op H=some (v,H))(H2:AH):aop E ρ op H2=some (v,H2):=by
 cases op<;>simp only[eO] at hq<;>(try (cases hq;done))<;>simp only[aop] at h ⊢
 case move=>cases h;rfl
 case assign=>cases h;rfl
 case pick=>split at h<;>cases h<;>rfl
 case nilCheck=>split at h<;>cases h<;>rfl
 case makeFunc fn a b=>
  cases e:fnY fn with
  |true=>rw[e] at h;cases h
  |false=>rw[e,QF] at h;rw[QF];cases h;rfl
 case convert s d x=>
  unfold kK at h ⊢;split at hq
  ·rename_i k hd;split at h
   ·cases h;rfl
   ·rename_i qg _;rw[hd] at qg;cases qg
   ·rename_i qg _;rw[hd] at qg;cases qg
   ·rename_i qg _;rw[hd] at qg;cases qg
   ·rename_i qg _;rw[hd] at qg;cases qg
   ·first|(rename_i qg _;rw[hd] at qg;cases qg;done)|(rename_i qg;rw[hd] at qg;cases qg;done)
   ·first|(rename_i qg _;rw[hd] at qg;cases qg;done)|(rename_i qg;rw[hd] at qg;cases qg;done)
   ·cases h
  ·cases hq
 case call c=>
  split at hq
  ·rename_i hc;simp only[hc] at h ⊢;split at h
   ·exact kO h
   ·cases h
  ·rename_i hc;simp only[hc] at h ⊢;split at h
   ·exact kO h
   ·cases h
  ·rename_i hc;simp only[hc] at h ⊢;split at hq
   ·rename_i t ht;split at h
    ·rename_i x t' ha rm;rw[ht] at rm;cases rm;split at hq
     ·cases hq
     ·rename_i fu;obtain⟨h1,_⟩:=aE h;have:aFz E t (ρ x) H2=aFz E t (ρ x) H:=by
       unfold aFz;split
       ·rename_i hu;rfl
       ·rfl
       ·rfl
       ·rename_i hu _;exact absurd hu (fu _ _)
       ·rename_i hu _;exact absurd hu (fu _ _)
       ·rfl
      rw[this];exact kO h
    ·cases h
   ·cases hq
  ·cases hq
 all_goals exact kO h
abbrev hB:=FuncId->List Value->AH->Option (Value×AH)
def mM(P:PG)(call:hB):Prop:=∀g args H v H',call g args H=some (v,H')->H'.w0=H.w0/\ACalls P g args H fun u K=>u=v/\K=H'
def tQ(call:hB)(ops:OA)(o:Oper)(f:Fr)(H:AH):Option (Value×AH×Bool):=
 bif aR ops (bV f) o then
  bif bX E o.op then(match aop E (aN f) o.op H with
   |some (v,_)=>some (v,H,false)
   |none=>none)
  else(match bN E (aN f) o.op with
   |some (g,args)=>(match call g args H with
    |some (v,H')=>some (v,H',true)
    |none=>none)
   |none=>(match aop E (aN f) o.op H with
    |some (v,H')=>some (v,H',true)
    |none=>none))
 else some (undef,H,false)
def jW(call:hB)(ops:OA):OL2->Fr->AH->Option (Fr×AH)
 |[],f,H=>some (f,H)
 |o::r,f,H=>(match tQ E call ops o f H with
  |some (v,H',_)=>(match f.put o.dst v with
   |some g=>jW call ops r g H'
   |none=>none)
  |none=>none)
abbrev gF:=Fr×AH×Value×Bool
def iP(call:hB)(ops:OA):OL2->Fr->AH->Option (List gF×Fr×AH)
 |[],f,H=>some ([],f,H)
 |o::r,f,H=>(match tQ E call ops o f H with
  |some (v,H',m)=>(match f.put o.dst v with
   |some g=>(match iP call ops r g H' with
    |some (l,x)=>some ((f,H,v,m)::l,x)
    |none=>none)
   |none=>none)
  |none=>none)
def fH:Nat->List gF->List Nat
 |_,[]=>[]
 |i,(_,_,_,m)::r=>bif m then i::fH (i+1) r else fH (i+1) r
def dB(bs:NL):NL->Bool
 |[]=>true
 |i::r=>(r.all fun j=>(bs.getD j 0).testBit i)&&dB bs r
def mJ(l:List gF)(last:AH):NL->List (Nat×AH)
 |[]=>[]
 |m::r=>(m+1,match l[m+1]? with
  |some s=>s.2.1
  |none=>last)::mJ l last r
def aBx(bs ms:NL)(i:Nat)(o:Oper)(f:Fr)(v:Value)(t:Nat)(H:AH):Bool:=
 (ms.any fun j=>(bs.getD i 0).testBit j&&!(Nat.blt j t))||((ms.any fun j=>(bs.getD j 0).testBit i&&Nat.blt j t)||
  match aop E (aN f) o.op H with
  |some (u,_)=>veq u v
  |none=>false)
def oN(ops:OA)(bs ms:NL)(hs:List (Nat×AH)):Nat->List gF->Bool
 |_,[]=>true
 |i,(f,_,v,m)::r=>
  (match ops[i]? with
  |some o=>m||(eO E o.op||(!(aR ops (bV f) o)||hs.all fun th=>aBx E bs ms i o f v th.1 th.2))
  |none=>true)&&oN ops bs ms hs (i+1) r
theorem dE{call:hB}{ops:OA}{o:Oper}{f:Fr}{H H':AH}{v:Value}{m:Bool}(h:tQ E call ops o f H=some (v,H',m)):
 (aR ops (bV f) o=false/\v=undef/\m=false/\H'=H)\/
 (aR ops (bV f) o=true/\m=false/\H'=H/\bX E o.op=true/\aop E (aN f) o.op H=some (v,H))\/
 (aR ops (bV f) o=true/\m=true/\aop E (aN f) o.op H=some (v,H'))\/
 (aR ops (bV f) o=true/\m=true/\∃g args,bN E (aN f) o.op=some (g,args)/\call g args H=some (v,H')):=by
 unfold tQ at h;cases hw:aR ops (bV f) o with
 |false=>rw[hw,QF] at h;cases h;exact .inl ⟨rfl,rfl,rfl,rfl⟩
 |true=>
  rw[hw,QT] at h;cases hq:bX E o.op with
  |true=>
   rw[hq,QT] at h;split at h
   ·rename_i u K qi;have hK:=mC E hq qi;cases h;rw[hK] at qi;exact .inr (.inl ⟨rfl,rfl,rfl,rfl,qi⟩)
   ·cases h
  |false=>
   rw[hq,QF] at h;split at h
   ·rename_i g args hc;split at h
    ·rename_i u K qm;cases h;exact .inr (.inr (.inr ⟨rfl,rfl,g,args,hc,qm⟩))
    ·cases h
   ·split at h
    ·rename_i u K qi;cases h;exact .inr (.inr (.inl ⟨rfl,rfl,qi⟩))
    ·cases h
theorem aHg{call:hB}(qm:mM P call){ops:OA}{Q:AQ}{g:Fr}{K:AH}(hQ:Q .normal g K):∀(l:OL2) (k:Nat) (f:Fr) (H:AH),(∀j,l[j]?=ops[k+j]?)->jW E call ops l f H=some (g,K)->
 AOps P ops (List.range' k l.length) Q f H:=by
 intro l
 induction l with
 |nil=>intro k f H _ h;simp[jW] at h;obtain⟨rfl,rfl⟩:=h;exact AOps.nil hQ
 |cons o r ih=>
  intro k f H hl h;simp only[jW] at h;split at h
  ·rename_i v H' m hs;split at h
   ·rename_i f' hp;have ho:ops[k]?=some o:=by have:=hl 0;simpa using this.symm
    have hr:=ih (k+1) f' H' (fun j=>by have:=hl (j+1);simp only[List.getElem?_cons_succ] at this;rw[this];congr 1;omega) h;rw[List.length_cons,List.range'_succ];rcases dE E hs with⟨h1,rfl,_,rfl⟩|⟨h1,_,rfl,_,h2⟩|⟨h1,_,h2⟩|⟨h1,_,c,args,h2,h3⟩
    ·exact AOps.skip ho h1 hp hr
    ·exact AOps.op E ho h1 h2 hp hr
    ·exact AOps.op E ho h1 h2 hp hr
    ·refine AOps.call E ho h1 h2 ((qm _ _ _ _ _ h3).2.mono ?_);rintro u K' ⟨rfl,rfl⟩;exact⟨f',hp,hr⟩
   ·cases h
  ·cases h
theorem aOs{call:hB}{ops:OA}:∀(l:OL2) (f:Fr) (H:AH) (L:List gF) (g:Fr) (K:AH),iP E call ops l f H=some (L,g,K)->
 L.length=l.length/\∀(i:Nat) (o:Oper) (s:gF),l[i]?=some o->L[i]?=some s->∃s',(L++[(g,K,undef,false)])[i+1]?=some s'/\tQ E call ops o s.1 s.2.1=some (s.2.2.1,s'.2.1,s.2.2.2)/\s.1.put o.dst s.2.2.1=some s'.1:=by
 intro l
 induction l with
 |nil=>intro f H L g K h;simp[iP] at h;obtain⟨rfl,rfl,rfl⟩:=h;exact⟨rfl,fun i o s h=>by simp at h⟩
 |cons o r ih=>
  intro f H L g K h;simp only[iP] at h;split at h
  ·rename_i v H' m hs;split at h
   ·rename_i f' hp;split at h
    ·rename_i L' x hr;obtain⟨g',K'⟩:=x;cases h;obtain⟨h1,h2⟩:=ih f' H' L' _ _ hr;have jp:∃s',(L'++[(g,K,undef,false)])[0]?=some s'/\s'.1=f'/\s'.2.1=H':=by
      cases r with
      |nil=>simp[iP] at hr;obtain⟨rfl,rfl,rfl⟩:=hr;exact⟨_,rfl,rfl,rfl⟩
      |cons o2 r2=>
       simp only[iP] at hr;split at hr
       ·split at hr
        ·split at hr
         ·cases hr;exact⟨_,rfl,rfl,rfl⟩
         ·cases hr
        ·cases hr
       ·cases hr
     refine⟨by simp[h1],fun i o' s hi x8=>?_⟩;cases i with
     |zero=>
      simp at hi x8;subst hi;subst x8;obtain⟨s',q1,q2,q3⟩:=jp;exact⟨s',by simpa using q1,by rw[q3];exact hs,by rw[q2];exact hp⟩
     |succ i=>
      simp at hi x8;obtain⟨s2,q1,q2⟩:=h2 i o' s hi x8;exact⟨s2,by simpa using q1,q2⟩
    ·cases h
   ·cases h
  ·cases h
theorem kG:∀(L:List gF) (k j:Nat),j∈fH k L↔∃i s,L[i]?=some s/\s.2.2.2=true/\j=k+i:=by
 intro L
 induction L with
 |nil=>intro k j;simp[fH]
 |cons s L ih=>
  intro k j;obtain⟨a,b,c,m⟩:=s;simp only[fH];cases m with
  |true=>
   rw[QT,List.mem_cons,ih];constructor
   ·rintro(rfl|⟨i,s,h1,h2,rfl⟩)
    ·exact⟨0,_,rfl,rfl,rfl⟩
    ·exact⟨i+1,s,by simpa using h1,h2,by omega⟩
   ·rintro⟨i,s,h1,h2,rfl⟩;cases i with
    |zero=>exact .inl rfl
    |succ i=>exact .inr ⟨i,s,by simpa using h1,h2,by omega⟩
  |false=>
   rw[QF,ih];constructor
   ·rintro⟨i,s,h1,h2,rfl⟩;exact⟨i+1,s,by simpa using h1,h2,by omega⟩
   ·rintro⟨i,s,h1,h2,rfl⟩;cases i with
    |zero=>simp at h1;subst h1;cases h2
    |succ i=>exact⟨i,s,by simpa using h1,h2,by omega⟩
theorem yP:∀(L:List gF) (k:Nat),(fH k L).Pairwise (·<·):=by
 intro L
 induction L with
 |nil=>intro k;exact List.Pairwise.nil
 |cons s L ih=>
  intro k;obtain⟨a,b,c,m⟩:=s;simp only[fH];cases m with
  |true=>
   rw[QT];refine List.Pairwise.cons (fun j hj=>?_) (ih (k+1));obtain⟨i,_,_,_,rfl⟩:=(kG L (k+1) j).1 hj;omega
  |false=>rw[QF];exact ih (k+1)
theorem uU{bs:NL}:∀{ms:NL},dB bs ms=true->ms.Pairwise (·<·)->∀i j,i∈ms->j∈ms->i<j->(bs.getD j 0).testBit i=true:=by
 intro ms
 induction ms with
 |nil=>intro _ _ i j h;cases h
 |cons m r ih=>
  intro h hs i j hi hj ye;simp only[dB,QB,List.all_eq_true] at h;rw[List.pairwise_cons] at hs;rcases List.mem_cons.1 hi with rfl|wx
  ·rcases List.mem_cons.1 hj with rfl|o7
   ·omega
   ·exact h.1 j o7
  ·rcases List.mem_cons.1 hj with rfl|o7
   ·have:=hs.1 i wx;omega
   ·exact ih h.2 hs.2 i j wx o7 ye
theorem aHu{ops:OA}{bs ms:NL}{hs:List (Nat×AH)}:∀(L:List gF) (k:Nat),oN E ops bs ms hs k L=true->∀(i:Nat) (s:gF) (o:Oper),L[i]?=some s->ops[k+i]?=some o->s.2.2.2=false->eO E o.op=false->
 aR ops (bV s.1) o=true->∀th∈hs,aBx E bs ms (k+i) o s.1 s.2.2.1 th.1 th.2=true:=by
 intro L
 induction L with
 |nil=>intro k _ i s o h;simp at h
 |cons x L ih=>
  intro k h i s o hi ho hm hp hw th nc;obtain⟨f,K,v,m⟩:=x;simp only[oN,QB] at h;cases i with
  |zero=>
   simp at hi;subst hi;simp only at hm hw;subst hm;rw[Nat.add_zero] at ho ⊢;have h1:=h.1;simp only[ho,hp,hw,Bool.false_or,Bool.not_true,List.all_eq_true] at h1;exact h1 th nc
  |succ i=>
   have:=ih (k+1) h.2 i s o (by simpa using hi) (by rw[<-ho];congr 1;omega) hm hp hw th nc
   rwa [show k+(i+1)=k+1+i by omega]
theorem aGj{L:List gF}{last:AH}:∀{ms:NL} {m:Nat},m∈ms->(m+1,match L[m+1]? with|some s=>s.2.1|none=>last)∈mJ L last ms:=by
 intro ms
 induction ms with
 |nil=>intro m h;cases h
 |cons x r ih=>
  intro m h;simp only[mJ];rcases List.mem_cons.1 h with rfl|h
  ·exact List.mem_cons_self ..
  ·exact List.mem_cons_of_mem _ (ih h)
end
end Go.AM
namespace Go.AM
open Go.RowKit
variable [σ:Sg]
section
variable [γ:Gam]{P:PG}{Q:AQ}{f:Fr}{H:AH}
theorem aOn [Pins]{φ:PL}{w0:Base}{y:Code}{Q:AQ}{e:Exit}{a:Act}{w:World}{R:AQ}
 (hn:∀f H,R .normal f H->ACode P y Q f H)(ho:∀e f H,e≠.normal->R e f H->Q e f H){ro:Option Nat}(hg:γ.ok ‹Pins› ro φ)(h:gY φ w0 R e a w):Exit.then (y.wpIn (cM ro) 0 P (gY φ w0 Q)) (gY φ w0 Q) e a w:=by
 obtain⟨φ',f,H,h1,h2,h3,h4,h5⟩:=h;cases e with
 |normal=>
  refine wpIn_mono (hn f H h5 _ ro φ' a w (γ.mono h1 hg) h2 h3) fun e a w k=>?_;rw[h4] at k;exact lB h1 k
 |_=>exact⟨φ',f,H,h1,h2,h3,h4,ho _ f H (by simp) h5⟩
theorem ACode.mono{c:Code}{Q':AQ}(h:ACode P c Q f H)(hq:∀e f H,Q e f H->Q' e f H):ACode P c Q' f H:=
 fun π ro φ a w hg hf hR=>wpIn_mono (h _ ro φ a w hg hf hR) fun _ _ _ ⟨φ',f,H,h1,h2,h3,h4,h5⟩=>⟨φ',f,H,h1,h2,h3,h4,hq _ _ _ h5⟩
theorem ACode.here{c:Code}{e:Exit}(hw:∀{ro:Option Nat} {R:Exit->Act->World->Prop} {a:Act} {w:World},R e a w->c.wpIn (cM ro) 0 P R a w)(h:Q e f H):ACode P c Q f H:=
 fun π ro φ _ _ hg hf hR=>hw ⟨φ,f,H,List.prefix_refl _,hf,hR,rfl,h⟩
theorem ACode.skip(h:Q .normal f H):ACode P .skip Q f H:=ACode.here (fun k=>wpIn_skip k) h
theorem ACode.label{l:Nat}(h:Q .normal f H):ACode P (.label l) Q f H:=ACode.here (fun k=>wpIn_label k) h
theorem ACode.exit{i:Nat}(h:Q (.exit i) f H):ACode P (.exit i) Q f H:=ACode.here (fun k=>wpIn_exit k) h
theorem ACode.ret(h:Q .ret f H):ACode P .ret Q f H:=ACode.here (fun k=>wpIn_ret k) h
theorem ACode.seq{x y:Code}{R:AQ}(h:ACode P x R f H)(hn:∀f H,R .normal f H->ACode P y Q f H)(ho:∀e f H,e≠.normal->R e f H->Q e f H):ACode P (.seq x y) Q f H:=
 fun π ro φ a w hg hf hR=>wpIn_seq (wpIn_mono (h _ ro φ a w hg hf hR) fun _ _ _ k=>aOn hn ho hg k)
theorem ACode.cond{c:Operand}{x y:Code}{b:Bool}(hc:aN f c=.bool b)(h:ACode P (if b then x else y) Q f H):ACode P (.cond c x y) Q f H:=by
 intro π ro φ a w hg hf hR;have hv:=hf.eval c;rw[hc] at hv;generalize zj:a.eval c=cc at hv;cases hv;exact wpIn_cond zj (h _ ro φ a w hg hf hR)
theorem ACode.block{i:Nat}{c:Code}(h:ACode P c (fun e f H=>match e with|.exit j=>if j=i then Q .normal f H else Q (.exit j) f H|e=>Q e f H) f H):ACode P (.block i c) Q f H:=by
 intro π ro φ a w hg hf hR;refine wpIn_block (wpIn_mono (h _ ro φ a w hg hf hR) ?_);rintro e a w ⟨φ',f,H,h1,h2,h3,h4,h5⟩;cases e with
 |exit j=>
  simp only[Exit.inBlock];simp only at h5;split
  ·rename_i e;rw[if_pos e] at h5;exact⟨φ',f,H,h1,h2,h3,h4,h5⟩
  ·rename_i e;rw[if_neg e] at h5;exact⟨φ',f,H,h1,h2,h3,h4,h5⟩
 |_=>exact⟨φ',f,H,h1,h2,h3,h4,h5⟩
theorem ACode.region{i:Nat}{ops:OA}(h:AOps P ops (List.range ops.size) Q f H):ACode P (.region i ops false) Q f H:=fun π ro φ a w hg hf hR=>wpIn_region (h _ ro φ a w hg hf hR)
end
def aIu:VL->Nat->Tr Value->Tr Value
 |[],_,t=>t
 |v::r,i,t=>aIu r (i+1) (t.set i (some v))
def sI(args:VL)(ntmps:Nat):Fr:=⟨args.length+(ntmps - args.length),aIu args 0 .nil⟩
theorem aQc:∀(l:VL) (i:Nat) (t:Tr Value) (j:Nat),(aIu l i t).get j=if j<i then t.get j else if j<i+l.length then l[j - i]? else t.get j:=by
 intro l
 induction l with
 |nil=>
  intro i t j;simp only[aIu,List.length_nil,Nat.add_zero];by_cases h:j<i
  ·rw[if_pos h]
  ·rw[if_neg h,if_neg h]
 |cons v r ih=>
  intro i t j;simp only[aIu,ih,Tr.get_set,List.length_cons];by_cases h1:j<i
  ·rw[if_pos (by omega),if_neg (by omega),if_pos h1]
  ·rw[if_neg h1];by_cases h2:j=i
   ·subst h2;simp
   ·rw[if_neg (by omega),if_neg h2];by_cases h3:j<i+1+r.length
    ·rw[if_pos h3,if_pos (by omega),show j - i=(j - (i+1))+1 by omega];simp
    ·rw[if_neg h3,if_neg (by omega)]
theorem aCy [π:Pins]{φ:PL}{args args':VL}(h:VRs φ args args')(n:Nat): @FRel σ ⟨⟨π.pin,[]⟩⟩ φ (sI args n) {tmps:=⟨args'⟩++Array.replicate (n - (⟨args'⟩:Array Value).size) undef,defers:=[]}:=by
 refine⟨rfl,by simp[sI,h.1],fun t=>?_⟩;simp only[aN,sI,aQc,Nat.not_lt_zero,if_false,Nat.zero_add,Nat.sub_zero];by_cases ht:t<args.length
 ·rw[if_pos ht];have rm:t<args'.length:=h.1▸ht;simp only[ht,List.getElem?_eq_getElem];have:(⟨args'⟩++Array.replicate (n - (⟨args'⟩:Array Value).size) undef).getD t undef=args'[t]:=by
   simp[Array.getD_eq_getD_getElem?,Array.getElem?_append,rm]
  rw[this];exact h.2 t _ _ (by simp[ht]) (by simp[rm])
 ·rw[if_neg ht];have rm:¬t<args'.length:=h.1▸ht;have:(⟨args'⟩++Array.replicate (n - (⟨args'⟩:Array Value).size) undef).getD t undef=undef:=by
   simp only[Array.getD_eq_getD_getElem?,Array.getElem?_append,List.size_toArray,rm,if_false,Array.getElem?_replicate];split<;>rfl
  rw[this];exact VR.undef φ
section
variable {P:PG}(E:Env P)
def sO(f:Fr)(H:AH):ResultVar->Option Value
 |.tmp t=>some (aN f (.tmp t))
 |.cell a t=>(match aN f (.tmp a) with
  |.pointer (some p)=>fA E t p H
  |_=>none)
def bP(f:Fr)(H:AH):List ResultVar->Option VL
 |[]=>some []
 |r::l=>(match sO E f H r,bP f H l with
  |some v,some vs=>some (v::vs)
  |_,_=>none)
def bK:VL->Value
 |[v]=>v
 |vs=>.tuple ⟨vs⟩
theorem aEe [Pins]{φ:PL}{f:Fr}{H:AH}{a:Act}{w:World}(hf:FRel φ f a)(R:Rel φ H w):∀(rs:List ResultVar) (vs:VL),bP E f H rs=some vs->
 ∃vs',VRs φ vs vs'/\(rs.mapM (fun|.tmp t=>pure (a.tmps.getD t undef)|.cell p t=>do loadVar t (<-asAddr (a.tmps.getD p undef))):Sem VL).run P w=.ok vs' w:=by
 intro rs
 induction rs with
 |nil=>intro vs h;simp[bP] at h;subst h;exact⟨[],VRs.nil φ,by simp⟩
 |cons r rs ih=>
  intro vs h;simp only[bP] at h;split at h
  ·rename_i v vs2 hv o8;cases h;obtain⟨vs',h1,h2⟩:=ih vs2 o8;cases r with
   |tmp t=>
    simp only[sO] at hv;cases hv;exact⟨_::vs',VRs.cons (hf.2.2 t) h1,by simp only[List.mapM_cons,Sem.run_bind,Sem.run_pure,Result.andThen_ok,h2]⟩
   |cell p t=>
    simp only[sO] at hv;split at hv
    ·rename_i q hq;have hr:=hf.2.2 p;rw[hq] at hr;generalize zj:a.tmps.getD p undef=cc at hr;cases hr with
     |ptr hA=>
      obtain⟨v',q1,q2⟩:=oC E R hA hv;have d7:∀w,(asAddr (a.tmps.getD p undef)).run P w=.ok _ w:=fun w=>by rw[zj];rfl
      exact⟨v'::vs',VRs.cons q2 h1,by simp only[List.mapM_cons,Sem.run_bind,d7,Sem.run_pure,Result.andThen_ok,q1,h2]⟩
    ·cases hv
  ·cases h
theorem nT [Pins]{φ:PL}{f:Fr}{H:AH}{a:Act}{w:World}(hf:FRel φ f a)(R:Rel φ H w){F:Func}{rs:List ResultVar}(hF:F.results.toList=rs){vs:VL}(h:bP E f H rs=some vs):
 ∃v',VR φ (bK vs) v'/\(results F a.tmps).run P w=.ok v' w:=by
 obtain⟨vs',h1,h2⟩:=aEe E hf R rs vs h;refine⟨if h:(⟨vs'⟩:Array Value).size=1 then(⟨vs'⟩:Array Value)[0] else .tuple ⟨vs'⟩,?_,?_⟩
 ·cases vs with
  |nil=>
   have:vs'=[]:=List.eq_nil_of_length_eq_zero h1.1.symm;subst this;exact VR.tuple' (VRs.nil φ)
  |cons v r=>
   cases vs' with
   |nil=>have:=h1.1;simp at this
   |cons v' r'=>
    cases r with
    |nil=>
     have:r'=[]:=List.eq_nil_of_length_eq_zero (by have:=h1.1;simpa using this.symm);subst this;simpa [bK] using h1.head
    |cons u s=>
     have qn:¬(⟨v'::r'⟩:Array Value).size=1:=by have:=h1.1;simp at this ⊢;intro e;rw[e] at this;simp at this
     rw[dif_neg qn];exact VR.tuple' h1
 ·unfold results;rw[Array.mapM_eq_mapM_toList,hF];simp only[Sem.run_bind,Sem.run_map]
  erw [h2]
  rfl
theorem ACalls.body{g:FuncId}{x:AFn}(hg:E.fn g=some x){args:VL}{H:AH}{Q:Value->AH->Prop}
 (h:ACode P x.body (fun e f H'=>(e=.normal\/e=.ret)/\∃vs,bP E f H' x.results=some vs/\Q (bK vs) H') (sI args x.ntmps) H):ACalls P g args H Q:=by
 intro π φ args' w hv hR;obtain⟨F,hF,hb,hn,hr,_⟩:=E.fn_ok _ _ hg;refine calls_of_wp hF hb ?_;have hf:=aCy hv x.ntmps;rw[hn];have there:∀{φ:PL} {H:AH} {w:World},Rel φ H w->@Rel σ ⟨⟨π.pin,[]⟩⟩ φ H w:=fun R=> @Rel.mk σ ⟨⟨π.pin,[]⟩⟩ _ _ _ R.below R.len R.obj R.inj R.pin R.lt R.ro;refine wp_mono (wpIn_wide.1 (h ⟨⟨π.pin,[]⟩⟩ none φ _ w trivial hf (there hR))) ?_;rintro e a w' ⟨φ',f,H',h1,h2,h3,h4,h5,vs,h6,h7⟩;obtain⟨v',q1,q2⟩:= @nT σ _ E ⟨⟨π.pin,[]⟩⟩ _ _ _ _ _ h2 h3 _ _ hr _ h6;have h3:= @Rel.mk σ π _ _ _ (@Rel.below σ ⟨⟨π.pin,[]⟩⟩ _ _ _ h3) (@Rel.len σ ⟨⟨π.pin,[]⟩⟩ _ _ _ h3) (@Rel.obj σ ⟨⟨π.pin,[]⟩⟩ _ _ _ h3) (@Rel.inj σ ⟨⟨π.pin,[]⟩⟩ _ _ _ h3) (@Rel.pin σ ⟨⟨π.pin,[]⟩⟩ _ _ _ h3) (@Rel.lt σ ⟨⟨π.pin,[]⟩⟩ _ _ _ h3) (@Rel.ro σ ⟨⟨π.pin,[]⟩⟩ _ _ _ h3);rcases h5 with rfl|rfl
 ·exact⟨h2.1,v',q2,φ',_,v',H',h1,rfl,q1,h3,h4,h7⟩
 ·exact⟨h2.1,v',q2,φ',_,v',H',h1,rfl,q1,h3,h4,h7⟩
def uP(body:Fr->AH->Option (Exit×Fr×AH)):Nat->Fr->AH->Option (Exit×Fr×AH)
 |0,_,_=>none
 |n+1,f,H=>(match body f H with
  |some (.normal,f',H')=>uP body n f' H'
  |r=>r)
def pM [γ:Gam](P:PG)(c:Code)(e:Exit)(g:Fr)(K:AH)(f:Fr)(H:AH):Prop:=K.w0=H.w0/\ACode P c (fun e' g' K'=>e'=e/\g'=g/\K'=K) f H
theorem aJu{call:hB}(qm:mM P call){ops:OA}{g:Fr}{K:AH}:∀(l:OL2) (f:Fr) (H:AH),jW E call ops l f H=some (g,K)->K.w0=H.w0:=by
 intro l
 induction l with
 |nil=>intro f H h;simp[jW] at h;rw[h.2]
 |cons o r ih=>
  intro f H h;simp only[jW] at h;split at h
  ·rename_i v H' m hs;split at h
   ·rw[ih _ _ h];rcases dE E hs with⟨_,_,_,rfl⟩|⟨_,_,rfl,_⟩|⟨_,_,h2⟩|⟨_,_,c,args,_,h3⟩
    ·rfl
    ·rfl
    ·exact lY E h2
    ·exact(qm _ _ _ _ _ h3).1
   ·cases h
  ·cases h
theorem zX{call:hB}(qm:mM P call){ops:OA}:∀(l:OL2) (f:Fr) (H:AH) (L:List gF) (g:Fr) (K:AH),iP E call ops l f H=some (L,g,K)->K.w0=H.w0:=by
 intro l
 induction l with
 |nil=>intro f H L g K h;simp[iP] at h;rw[h.2.2]
 |cons o r ih=>
  intro f H L g K h;simp only[iP] at h;split at h
  ·rename_i v H' m hs;split at h
   ·split at h
    ·rename_i L' x hr;obtain⟨g',K'⟩:=x;cases h;rw[ih _ _ _ _ _ hr];rcases dE E hs with⟨_,_,_,rfl⟩|⟨_,_,rfl,_⟩|⟨_,_,h2⟩|⟨_,_,c,args,_,h3⟩
     ·rfl
     ·rfl
     ·exact lY E h2
     ·exact(qm _ _ _ _ _ h3).1
    ·cases h
   ·cases h
  ·cases h
theorem aWg{c:Code}{body:Fr->AH->Option (Exit×Fr×AH)}(hb:∀f H e g K,body f H=some (e,g,K)->pM P c e g K f H)(n:Nat)(f:Fr)(H:AH)(e:Exit)(g:Fr)(K:AH)(h:uP body n f H=some (e,g,K)):pM P (.loop c) e g K f H:=by
 have zo:∀(n:Nat) (f:Fr) (H:AH),uP body n f H=some (e,g,K)->K.w0=H.w0:=by
  intro n
  induction n with
  |zero=>intro f H h;cases h
  |succ n ih=>
   intro f H h;simp only[uP] at h;split at h
   ·rename_i f' H' x9;rw[ih f' H' h,(hb _ _ _ _ _ x9).1]
   ·exact(hb _ _ _ _ _ h).1
 refine⟨zo n f H h,?_⟩;intro π ro;have key:∀(n:Nat) (f:Fr) (H:AH),uP body n f H=some (e,g,K)->∀φ a w,FRel φ f a->Rel φ H w->Code.roundsIn (cM ro) 0 P c (gY φ H.w0 fun e' g' K'=>e'=e/\g'=g/\K'=K) n a w:=by
  intro n
  induction n with
  |zero=>intro f H h;cases h
  |succ n ih=>
   intro f H h φ a w hf hR;rw[roundsIn_succ];simp only[uP] at h
   have fin:∀{e2 g2 K2},body f H=some (e2,g2,K2)->(e2=.normal->uP body n g2 K2=some (e,g,K))->(e2≠.normal->e2=e/\g2=g/\K2=K)->
    c.wpIn (cM ro) 0 P (Exit.then (Code.roundsIn (cM ro) 0 P c (gY φ H.w0 fun e' g' K'=>e'=e/\g'=g/\K'=K) n) (gY φ H.w0 fun e' g' K'=>e'=e/\g'=g/\K'=K)) a w:=by
    intro e2 g2 K2 x9 h1 h2;refine wpIn_mono ((hb _ _ _ _ _ x9).2 _ ro φ a w trivial hf hR) ?_;rintro e3 a3 w3 ⟨φ',f',H',q1,q2,q3,q4,rfl,rfl,rfl⟩;cases e3 with
    |normal=>
     have:=ih _ _ (h1 rfl) φ' a3 w3 q2 q3;rw[q4] at this;have mono:∀(n:Nat) (a:Act) (w:World),Code.roundsIn (cM ro) 0 P c (gY φ' H.w0 fun e' g' K'=>e'=e/\g'=g/\K'=K) n a w->Code.roundsIn (cM ro) 0 P c (gY φ H.w0 fun e' g' K'=>e'=e/\g'=g/\K'=K) n a w:=by
      intro n
      induction n with
      |zero=>intro a w k;exact k
      |succ n ihn=>
       intro a w k;rw[roundsIn_succ] at k ⊢;refine wpIn_mono k fun e4 a4 w4 k4=>?_;cases e4 with
       |normal=>exact ihn _ _ k4
       |_=>
        simp only[Exit.then] at k4 ⊢;exact lB q1 k4
     exact mono n a3 w3 this
    |_=>exact⟨φ',f',H',q1,q2,q3,q4,h2 (by simp)⟩
   cases x9:body f H with
   |none=>rw[x9] at h;cases h
   |some r=>
    obtain⟨e2,g2,K2⟩:=r;rw[x9] at h;refine fin x9 (fun he=>?_) (fun he=>?_)
    ·subst he;exact h
    ·cases e2 with
     |normal=>exact absurd rfl he
     |_=>simp only[Option.some.injEq,Prod.mk.injEq] at h;exact h
 intro φ a w _ hf hR;exact wpIn_loop_rounds n (key n f H h φ a w hf hR)
end
end Go.AM
namespace Go.AM
open Go.RowKit
variable [σ:Sg]
def look(k:Nat):LV->Option Value
 |[]=>none
 |(d,v)::r=>bif Nat.beq d k then some v else look k r
def tv(t:Tr Value)(k:Nat):Value:=
 match t.get k with
 |some v=>v
 |none=>undef
def fr(n:Nat)(t:Tr Value):LV->Fr
 |[]=>⟨n,t⟩
 |(d,v)::r=>⟨n,(fr n t r).tr.set d (some v)⟩
theorem aDi(n:Nat)(t:Tr Value)(l:LV):(fr n t l).n=n:=by cases l<;>rfl
theorem aLu(n:Nat)(t:Tr Value)(k:Nat):∀l:LV,tv (fr n t l).tr k=match look k l with|some v=>v|none=>tv t k
 |[]=>rfl
 |(d,v)::r=>by
  simp only[fr,tv,look,Tr.get_set];by_cases e:k=d
  ·subst e;rw[if_pos rfl,show Nat.beq k k=true by simp];rfl
  ·rw[if_neg e,show Nat.beq d k=false by(cases h:Nat.beq d k with|false=>rfl|true=>exact absurd (QN h).symm e),QF];exact aLu n t k r
theorem xE(n:Nat)(t:Tr Value)(l:LV)(k:Nat):aN (fr n t l) (.tmp k)=match look k l with|some v=>v|none=>tv t k:=aLu n t k l
theorem mL(n:Nat)(t:Tr Value)(l:LV)(k:Nat):bV (fr n t l) k=match look k l with|some v=>v|none=>tv t k:=aLu n t k l
theorem aAw(f:Fr)(g:FuncId):aN f (.func g)=.func (.func g) ⟨[]⟩ ⟨[]⟩:=rfl
theorem nV{n d:Nat}(h:d<n)(t:Tr Value)(l:LV)(v:Value):(fr n t l).put (some d) v=some (fr n t ((d,v)::l)):=by
 simp only[Fr.put,aDi,fr];rw[Nat.ble_eq_true_of_le (by omega)];rfl
theorem ACode.congr [γ:Gam]{P:PG}{c:Code}{Q:AQ}{f g:Fr}{H:AH}(hn:f.n=g.n)(hs:∀k,bV f k=bV g k)(h:ACode P c Q g H):ACode P c Q f H:=
 fun π ro φ a w hg hf hR=>h _ ro φ a w hg ⟨hf.1,by rw[hf.2.1,hn],fun t=>by have:=hf.2.2 t;rw[show aN f (.tmp t)=aN g (.tmp t) from hs t] at this;exact this⟩ hR
structure Kept (N:Nat) (H H':AH):Prop where
 w0:H'.w0=H.w0
 nx:H.nx<=H'.nx
 get:∀i,i<N->H'.tr.get i=H.tr.get i
theorem Kept.refl(N:Nat)(H:AH):Kept N H H:=⟨rfl,Nat.le_refl _,fun _ _=>rfl⟩
theorem Kept.trans{N:Nat}{A B C:AH}(h:Kept N A B)(k:Kept N B C):Kept N A C:=⟨k.w0.trans h.w0,Nat.le_trans h.nx k.nx,fun i hi=>(k.get i hi).trans (h.get i hi)⟩
theorem Kept.mono{N N':Nat}{A B:AH}(h:Kept N A B)(hN:N'<=N):Kept N' A B:=⟨h.w0,h.nx,fun i hi=>h.get i (by omega)⟩
theorem Kept.new{N:Nat}(H:AH)(o:AObj)(hN:N<=H.nx):Kept N H (dI H o):=⟨rfl,Nat.le_succ _,fun i hi=>by simp only[dI];rw[Tr.get_set_ne _ _ (by omega)]⟩
theorem Kept.set{N i:Nat}(H:AH)(o:Option AObj)(hN:N<=i):Kept N H {H with tr:=H.tr.set i o}:=⟨rfl,Nat.le_refl _,fun j hj=>by simp only;rw[Tr.get_set_ne _ _ (by omega)]⟩
theorem aZw(H:AH)(o:AObj):(dI H o).tr.get H.nx=some o:=by simp only[dI];rw[Tr.get_set_same]
section
variable {H:AH}{N:Nat}{cs:VL}{sz:Nat}{ex:Bool}
theorem eL(N:Nat):Nat.beq ((2*N+1)%2) 0=false:=by
 have:(2*N+1)%2=1:=by omega
 rw[this];rfl
theorem eJ(N:Nat):(2*N+1) / 2=N:=by omega
theorem zV(hg:H.tr.get N=some (.cells cs sz ex))(off:Nat)(s:Option Nat):aload H ⟨2*N+1,off,s⟩=cs[off]?:=by
 unfold aload;simp only[eL,QF,eJ,hg]
theorem iB(hg:H.tr.get N=some (.cells cs sz ex))(off n:Nat)(s:Option Nat)(h:off+n<=cs.length):aloads H ⟨2*N+1,off,s⟩ n=some ((cs.drop off).take n):=by
 unfold aloads;by_cases hn:n=0
 ·subst hn;simp
 ·rw[show Nat.beq n 0=false by(cases n with|zero=>exact absurd rfl hn|succ n=>rfl),QF];simp only[eL,QF,eJ,hg];rw[Nat.ble_eq_true_of_le h];rfl
theorem aEh(hg:H.tr.get N=some (.cells cs sz ex))(off:Nat)(s:Option Nat){vs:VL}(h:off+vs.length<=cs.length)(h1:aY vs=true):
 gP H ⟨2*N+1,off,s⟩ vs=some {H with tr:=H.tr.set N (some (.cells (cs.take off++(vs++cs.drop (off+vs.length))) sz ex))}:=by
 unfold gP;simp only[eL,QF,eJ,hg];rw[Nat.ble_eq_true_of_le h,h1];rfl
end
def aXa(w:World)(a:Addr)(l:VL):Prop:=∀(i:Nat) v,l[i]?=some v->w.cell? (a.add i)=some v
theorem rQ(a:Addr)(n m:Nat):(a.add n).add m=a.add (n+m):=by
 unfold Addr.add;by_cases hn:n=0
 ·subst hn;simp
 ·by_cases hm:m=0
  ·subst hm;simp
  ·rw[if_neg hn,if_neg hm,if_neg (by omega)];simp only;congr 1;omega
theorem zR(a:Addr)(n:Nat):(pG a).add n=pG (a.add n):=by
 unfold Addr.add pG;split<;>rfl
theorem uM(a:Addr):Nat.beq ((pG a).block%2) 0=true:=by
 have:(pG a).block%2=0:=by simp[pG]
 rw[this];rfl
theorem tY(a:Addr):(⟨(pG a).block / 2,(pG a).off,(pG a).spot⟩:Addr)=a:=by
 cases a;simp[pG]
theorem sP{w:World}{a:Addr}:∀(n i:Nat) (l:VL),(∀j v,l[j]?=some v->w.cell? (a.add (i+j))=some v)->l.length=n->bG w a i n=some (extL l):=by
 intro n
 induction n with
 |zero=>
  intro i l _ hl;have:l=[]:=List.eq_nil_of_length_eq_zero hl;subst this;simp[bG,extL]
 |succ n ih=>
  intro i l h hl;cases l with
  |nil=>simp at hl
  |cons v r=>
   have h0:=h 0 v rfl;rw[Nat.add_zero] at h0;have hr:=ih (i+1) r (fun j u hu=>by have:=h (j+1) u (by simpa using hu);rwa [show i+(j+1)=i+1+j by omega] at this) (by simpa using hl);simp only[bG,h0,hr,extL]
theorem aHi{H:AH}{a:Addr}{l:VL}(h:aXa H.w0.toWorld a l):aloads H (pG a) l.length=some (extL l):=by
 unfold aloads;by_cases hn:l.length=0
 ·have:l=[]:=List.eq_nil_of_length_eq_zero hn;subst this;simp[extL]
 ·rw[show Nat.beq l.length 0=false by(cases hq:l.length with|zero=>exact absurd hq hn|succ m=>rfl),QF,uM,QT,tY];exact sP _ 0 l (fun j v hj=>by rw[Nat.zero_add];exact h j v hj) rfl
section
variable [γ:Gam]{P:PG}{ops:OA}{Q:AQ}{H:AH}{n:Nat}{t:Tr Value}{l:LV}{rest:NL}{i:Nat}{o:Oper}
theorem op1(E:Env P)(ho:ops[i]?=some o)(hg:o.guard=none){d:Nat}(hd:o.dst=some d)(qd:d<n){v:Value}{H':AH}(qi:aop E (aN (fr n t l)) o.op H=some (v,H'))(h:AOps P ops rest Q (fr n t ((d,v)::l)) H'):
 AOps P ops (i::rest) Q (fr n t l) H:=AOps.op E ho (by simp[aR,hg]) qi (by rw[hd];exact nV qd t l v) h
end
section
variable [γ:Gam]{P:PG}{Q:AQ}{f:Fr}{H:AH}
theorem loopn{c:Code}(I:Nat->Fr->AH->Prop)(k:Nat)(h0:I k f H)(round:∀k f H,I k f H->∀K:AQ,(∀k' f' H',k'<k->I k' f' H'->K .normal f' H')->(∀e f' H',e≠.normal->Q e f' H'->K e f' H')->ACode P c K f H):ACode P (.loop c) Q f H:=by
 intro π ro φ a w hg hf hR;refine wpIn_loop_rounds (k+1) ?_;have key:∀m n f H φ' a w,n<m->I n f H->φ <+: φ'->FRel φ' f a->Rel φ' H w->∀w0,H.w0=w0->Code.roundsIn (cM ro) 0 P c (gY φ w0 Q) m a w:=by
  intro m
  induction m with
  |zero=>intro n f H φ' a w h;omega
  |succ m ih=>
   intro n f H φ' a w qj hI hφ hf hR w0 zo;have hr:=round n f H hI (fun e f' H'=>(e=.normal->∃k'<n,I k' f' H')/\(e≠.normal->Q e f' H')) (fun k' f' H' hk jq=>⟨fun _=>⟨k',hk,jq⟩,fun hn=>absurd rfl hn⟩) (fun e f' H' hn hq=>⟨fun h=>absurd h hn,fun _=>hq⟩);rw[roundsIn_succ];refine wpIn_mono (hr _ ro φ' a w (γ.mono hφ hg) hf hR) ?_;rintro e a₁ w₁ ⟨φ2,f2,H2,q1,q2,q3,q4,q5⟩;have vp:H2.w0=w0:=q4.trans zo;cases e with
   |normal=>
    obtain⟨k',wi,jq⟩:=q5.1 rfl;exact ih k' f2 H2 φ2 a₁ w₁ (by omega) jq (hφ.trans q1) q2 q3 w0 vp
   |_=>exact⟨φ2,f2,H2,hφ.trans q1,q2,q3,vp,q5.2 (by simp)⟩
 exact key (k+1) k f H φ a w (Nat.lt_succ_self _) h0 (List.prefix_refl _) hf hR H.w0 rfl
end
def bEf(w:World):Base:={w with rd:=fun _=>none}
def start(w:World):AH:=⟨bEf w,0,.nil⟩
abbrev aDg:Pins:=⟨⟨fun _=>none,[]⟩⟩
theorem Rel.start(w:World): @Rel σ aDg [] (start w) w:= @Rel.mk σ aDg _ _ _ (Below.refl _ _) rfl (fun i o h=>by simp[AM.start,Tr.get_nil] at h) (fun i j o o' p q h=>by simp[AM.start,Tr.get] at h) (fun b x h=>by cases h) (fun i p h=>by simp at h) (fun i c h=>by cases h)
def Flat(P:PG)(g:FuncId)(args:VL)(w:World)(r:Value):Prop:=ACalls P g (extL args) (start w) fun v _=>v=r
def aEf:Value->Bool
 |.tuple ⟨vs⟩=>vs.all flat
 |v=>flat v
theorem aRk{φ ψ:PL}{v v':Value}(h:VR φ v v')(hf:aEf v=true):VR ψ v v':=by
 have one:∀{u u':Value},VR φ u u'->flat u=true->VR ψ u u':=by
  intro u u' hu nd;cases hu with
  |agg ha hv=>
   refine .agg ha fun i x x' hx zi=>?_;have sw:=hv i x x' hx zi;have ir:rZ x=true:=by
    have qv:∀(l:VL),kW l=true->∀y∈l,rZ y=true:=by
     intro l
     induction l with
     |nil=>intro _ y hy;cases hy
     |cons z l ih=>
      intro hl y hy;simp only[kW,QB] at hl;rcases List.mem_cons.1 hy with rfl|hy
      ·exact hl.1
      ·exact ih hl.2 y hy
    exact qv _ nd x (List.mem_of_getElem? hx)
   cases sw<;>first|(simp[rZ] at ir;done)|constructor
  |bool b=>exact .bool b
  |int k n=>exact .int k n
  |string s=>exact .string s
  |_=>simp[flat,rZ] at nd
 cases h with
 |tuple ha hv=>
  refine .tuple ha fun i x x' hx zi=>one (hv i x x' hx zi) ?_;simp only[aEf,List.all_eq_true] at hf;exact hf x (List.mem_of_getElem? hx)
 |_=>exact one (by constructor<;>assumption) hf
theorem Rel.later [Pins]{φ:PL}{H:AH}{w w':World}(R:Rel φ H w)(hb:Below w.heap.size w w'):Rel φ H w':=by
 refine⟨⟨hb.os.trans R.below.os,hb.tape.trans R.below.tape,hb.output.trans R.below.output,Nat.le_trans R.below.size hb.size,fun k hk=>?_⟩,R.len,fun i o hi=>?_,R.inj,fun b x h=>⟨(hb.block b (alt_of_getElem? (R.pin b x h).1)).trans (R.pin b x h).1,(R.pin b x h).2⟩,fun i p h=>Nat.lt_of_lt_of_le (R.lt i p h) hb.size,R.ro⟩
 ·rw[hb.block k (by have:=R.below.size;omega),R.below.block k hk]
 ·obtain⟨p,hp,hN,hO⟩:=R.obj i o hi;refine⟨p,hp,hN,?_⟩;have qj:p.blk<w.heap.size:=by
   cases o with
   |cells cs s e=>obtain⟨C,e,lo,hi,hx,_⟩:=hO;exact alt_of_getElem? hx
   |map es c=>obtain⟨es',hx,_⟩:=hO;exact alt_of_getElem? hx
   |iter s q=>exact alt_of_getElem? hO
  rw[hb.block _ qj];exact hO
theorem ACalls.flat{P:PG}{g:FuncId}{args:VL}{H:AH}{r:Value}(hr:aEf r=true)(h:∀(π:Pins) φ args' w,VRs φ args args'->Rel φ H w->Flat P g args' w r):ACalls P g args H fun v H'=>v=r/\H'=H:=by
 intro π φ args' w hv hR;refine(h _ φ args' w hv hR aDg [] args' w (VRs.ext [] args') (Rel.start w)).mono ?_;rintro e w' ⟨φ',v,v',H',h1,rfl,h3,h4,h5,rfl⟩;have hb:Below w.heap.size w w':=by have:= @Rel.below σ aDg _ _ _ h4;rw[h5] at this;exact this
 exact⟨φ,v,v',H,List.prefix_refl _,rfl,aRk h3 hr,hR.later hb,rfl,rfl,rfl⟩
theorem Flat.calls{P:PG}{g:FuncId}{args:VL}{w:World}{r:Value}(h:Flat P g args w r)(hr:aEf r=true):Calls P g ⟨args⟩ w fun e w'=>e=.returned r/\Below w.heap.size w w':=by
 refine(h aDg [] args w (VRs.ext [] args) (Rel.start w)).mono ?_;rintro e w' ⟨φ',v,v',H',h1,rfl,h3,h4,h5,rfl⟩;have hb:Below w.heap.size w w':=by have:= @Rel.below σ aDg _ _ _ h4;rw[h5] at this;exact this
 refine⟨?_,hb⟩;congr 1;have one:∀{u u':Value},VR φ' u u'->AM.flat u=true->u'=u:=fun hu hf=>aMe hu hf;cases h3 with
 |tuple ha hv=>
  congr 2;simp only[aEf,List.all_eq_true] at hr;apply List.ext_getElem?;intro i;rename_i a a';by_cases hi:i<a.length
  ·have ql:i<a'.length:=ha▸hi;rw[List.getElem?_eq_getElem hi,List.getElem?_eq_getElem ql];congr 1;exact one (hv i _ _ (List.getElem?_eq_getElem hi) (List.getElem?_eq_getElem ql)) (hr _ (List.getElem_mem hi))
  ·rw[List.getElem?_eq_none (by omega),List.getElem?_eq_none (by omega)]
 |_=>exact one (by constructor<;>assumption) hr
end Go.AM
namespace Go.AM
open Go.RowKit
variable [σ:Sg]
section
variable {T:Type}{enc:TypeId×Value->T}{P:PG}{W:World}{t:TY}{cs:VL}{fuel:Nat}
def Reads(enc:TypeId×Value->T)(P:PG)(W:World)(t:TY)(cs:VL):Prop:=∃fuel x,DataW.trod enc P W 0 (fun _=>true) true fuel t cs=some x
theorem Reads.int{k:IntKind}(hu:P.underlying t=some (.int k))(h:Reads enc P W t cs):∃n,cs=[.int k n]/\(Lit.int k n).wf=true:=by
 obtain⟨fuel,x,h⟩:=h;cases fuel with
 |zero=>simp[DataW.trod] at h
 |succ fuel=>
  unfold DataW.trod at h;rw[hu] at h;split at h<;>(try (rename_i h1 _;cases h1;done))<;>(try (rename_i h1;cases h1;done))
  ·rename_i k1 k2 n h1;cases h1;split at h
   ·rename_i hc;exact⟨n,by rw[hc.1],hc.2⟩
   ·cases h
  ·cases h
theorem Reads.bool(hu:P.underlying t=some .bool)(h:Reads enc P W t cs):∃b,cs=[.bool b]:=by
 obtain⟨fuel,x,h⟩:=h;cases fuel with
 |zero=>simp[DataW.trod] at h
 |succ fuel=>
  unfold DataW.trod at h;rw[hu] at h;split at h<;>(try (rename_i h1 _;cases h1;done))<;>(try (rename_i h1;cases h1;done))
  ·rename_i b h1;exact⟨b,rfl⟩
  ·cases h
theorem Reads.string(hu:P.underlying t=some .string)(h:Reads enc P W t cs):∃s,cs=[.string s]/\s.size<=maxLen:=by
 obtain⟨fuel,x,h⟩:=h;cases fuel with
 |zero=>simp[DataW.trod] at h
 |succ fuel=>
  unfold DataW.trod at h;rw[hu] at h;split at h<;>(try (rename_i h1 _;cases h1;done))<;>(try (rename_i h1;cases h1;done))
  ·rename_i s h1;split at h
   ·rename_i hc;exact⟨s,rfl,hc⟩
   ·cases h
  ·cases h
theorem cells?_read{a:Addr}{n:Nat}{l:VL}(h:W.cells? 0 a n=some l):l.length=n/\aXa W a l:=by
 unfold World.cells? at h;rw[if_pos (Nat.zero_le _)] at h;have key:∀(is:NL) (l:VL),(is.mapM fun i=>W.cell? (a.add i))=some l->l.length=is.length/\∀(j:Nat) i v,is[j]?=some i->l[j]?=some v->W.cell? (a.add i)=some v:=by
  intro is
  induction is with
  |nil=>intro l h;simp at h;subst h;exact⟨rfl,fun j i v h=>by simp at h⟩
  |cons i is ih=>
   intro l h;simp only[List.mapM_cons,Option.bind_eq_bind,Option.pure_def] at h;cases hc:W.cell? (a.add i) with
   |none=>rw[hc] at h;simp at h
   |some v=>
    cases hr:(is.mapM fun i=>W.cell? (a.add i)) with
    |none=>rw[hc,hr] at h;simp at h
    |some r=>
     rw[hc,hr] at h;simp at h;subst h;obtain⟨h1,h2⟩:=ih r hr;refine⟨by simp[h1],fun j i' v' hj hv=>?_⟩;cases j with
     |zero=>simp at hj hv;subst hj;subst hv;exact hc
     |succ j=>simp at hj hv;exact h2 j i' v' hj hv
 obtain⟨h1,h2⟩:=key _ _ h;refine⟨by simpa using h1,fun i v hv=>h2 i i v ?_ hv⟩;have hi:=lt_of_getElem? hv;rw[List.length_range] at h1;rw[List.getElem?_range (by omega)]
end
theorem aTh{T:Type}{enc:TypeId×Value->T}{P:PG}{f:Func}{s:ChangeSpec}{tb:TY}(laidOut:laidOutB P=true)(d8:f.resultTypes= #[tb])(hb:P.underlying tb=some .bool)(pr:s.vars=[])
 (jr:∀t∈f.params.toList,P.readableRec t=true/\t<P.types.size)(hs:∀(ds:List (DataW T)),ds.length=f.params.size->(s.fn T (ds++[])).results=[.lit (.bool true)]/\(s.fn T (ds++[])).args=ds/\(s.fn T (ds++[])).vars=[])
 {W W':World}{args:Array Value}{ds gs:List (DataW T)}{before:List MemPlace}(hW:DataW.Whole enc P f.params.toList s.vars false W args.toList ds gs before)(bel:Below W.heap.size W W'):
 s.post enc P f false true false false W args (.bool true) W':=by
 have fv:=hW;obtain⟨p,q,hA,hV,rfl,dg,pp⟩:=hW;have qj:∀x∈p++q,x.block<W.heap.size:=fun x hx=>fv.lt x hx;rw[pr] at hV;have iu:gs=[]/\q=[]:=by
  cases gs with
  |nil=>exact⟨rfl,hV⟩
  |cons g gs=>exact hV.elim
 obtain⟨rfl,rfl⟩:=iu;have qe:ds.length=f.params.size:=by
  have key:∀(ts:List TypeId) (vs:VL) (ds:List (DataW T)) (ps:List MemPlace),DataW.TrodAll enc P W 0 (fun _=>true) true ts vs ds ps->ds.length=ts.length:=by
   intro ts
   induction ts with
   |nil=>
    intro vs ds ps h;cases vs with
    |nil=>cases ds with
     |nil=>rfl
     |cons _ _=>exact h.elim
    |cons _ _=>cases ds<;>exact h.elim
   |cons t ts ih=>
    intro vs ds ps h;cases vs with
    |nil=>cases ds<;>exact h.elim
    |cons v vs=>
     cases ds with
     |nil=>exact h.elim
     |cons d ds=>
      obtain⟨p1,q1,_,h2,_⟩:=h;simp[ih vs ds q1 h2]
  rw[key _ _ _ _ hA,Array.length_toList]
 obtain⟨r1,r2,r3⟩:=hs ds qe;have qh:DataW.TrodAll enc P W' 0 (fun b=>decide (b<W.heap.size)) true f.params.toList args.toList ds p:=by
  have key:∀(ts:List TypeId) (vs:VL) (ds:List (DataW T)) (ps:List MemPlace),(∀t∈ts,P.readableRec t=true/\t<P.types.size)->(∀x∈ps,x.block<W.heap.size)->DataW.TrodAll enc P W 0 (fun _=>true) true ts vs ds ps->
   DataW.TrodAll enc P W' 0 (fun b=>decide (b<W.heap.size)) true ts vs ds ps:=by
   intro ts
   induction ts with
   |nil=>
    intro vs ds ps _ _ h;cases vs with
    |nil=>cases ds with
     |nil=>exact h
     |cons _ _=>exact h.elim
    |cons _ _=>cases ds<;>exact h.elim
   |cons t ts ih=>
    intro vs ds ps hr hl h;cases vs with
    |nil=>cases ds<;>exact h.elim
    |cons v vs=>
     cases ds with
     |nil=>exact h.elim
     |cons d ds=>
      obtain⟨p1,q1,h1,h2,rfl⟩:=h;exact⟨p1,q1,Below.trod laidOut (hr t (List.mem_cons_self ..)).1 (hr t (List.mem_cons_self ..)).2 h1 bel (fun x hx=>hl x (List.mem_append_left _ hx)),ih vs ds q1 (fun t ht=>hr t (List.mem_cons_of_mem _ ht)) (fun x hx=>hl x (List.mem_append_right _ hx)) h2,rfl⟩
  exact key _ _ _ _ jr (fun x hx=>qj x (by simpa using hx)) hA
 refine⟨ds,[],p++[],[],p,[],fv,?_,?_,?_,bel.frame _,fun h=>by cases h⟩
 ·rw[r1,d8];refine⟨[],[],⟨1,?_⟩,rfl,rfl⟩;simp[DataW.trod,hb,Value.resultList,Value.cells]
 ·rw[r2];exact qh
 ·rw[pr,r3];rfl
end Go.AM
namespace Go.AM
open Go.RowKit
variable [σ:Sg]
section
variable [γ:Gam]{P:PG}{Q:AQ}{f:Fr}{H:AH}
def XC(P:PG)(c:Code)(Q:AQ)(f:Fr)(H:AH):Prop:=∃e g K,Q e g K/\pM P c e g K f H
def vA(P:PG)(y:Code)(Q:AQ):AQ:=fun e f H=>(e=.normal/\XC P y Q f H)\/(e≠.normal/\Q e f H)
def mB(i:Nat)(Q:AQ):AQ:=fun e f H=>match e with
 |.exit j=>if j=i then Q .normal f H else Q (.exit j) f H
 |e=>Q e f H
theorem XC.skip(h:Q .normal f H):XC P .skip Q f H:=⟨_,_,_,h,rfl,ACode.skip ⟨rfl,rfl,rfl⟩⟩
theorem XC.label{l:Nat}(h:Q .normal f H):XC P (.label l) Q f H:=⟨_,_,_,h,rfl,ACode.label ⟨rfl,rfl,rfl⟩⟩
theorem XC.exit{i:Nat}(h:Q (.exit i) f H):XC P (.exit i) Q f H:=⟨_,_,_,h,rfl,ACode.exit ⟨rfl,rfl,rfl⟩⟩
theorem XC.ret(h:Q .ret f H):XC P .ret Q f H:=⟨_,_,_,h,rfl,ACode.ret ⟨rfl,rfl,rfl⟩⟩
theorem XC.seq{x y:Code}(h:XC P x (vA P y Q) f H):XC P (.seq x y) Q f H:=by
 obtain⟨e,g,K,hk,w1,c1⟩:=h;rcases hk with⟨rfl,e2,g2,K2,q2,w2,c2⟩|⟨qn,hq⟩
 ·refine⟨e2,g2,K2,q2,w2.trans w1,ACode.seq c1 ?_ ?_⟩
  ·rintro f' H' ⟨_,rfl,rfl⟩;exact c2
  ·rintro e' f' H' qn ⟨rfl,_⟩;exact absurd rfl qn
 ·refine⟨e,g,K,hq,w1,ACode.seq c1 ?_ ?_⟩
  ·rintro f' H' ⟨e0,_⟩;exact absurd e0.symm qn
  ·rintro e' f' H' _ k;exact k
theorem XC.cond{c:Operand}{x y:Code}{b:Bool}(hc:aN f c=.bool b)(h:XC P (if b then x else y) Q f H):XC P (.cond c x y) Q f H:=by
 obtain⟨e,g,K,hk,w1,c1⟩:=h;exact⟨e,g,K,hk,w1,ACode.cond hc c1⟩
theorem XC.block{i:Nat}{c:Code}(h:XC P c (mB i Q) f H):XC P (.block i c) Q f H:=by
 obtain⟨e,g,K,hk,w1,c1⟩:=h;cases e with
 |exit j=>
  simp only[mB] at hk;by_cases hj:j=i
  ·rw[if_pos hj] at hk;refine⟨.normal,g,K,hk,w1,ACode.block (c1.mono ?_)⟩;rintro e' f' H' ⟨rfl,rfl,rfl⟩;simp only[hj,if_true];exact⟨trivial,trivial,trivial⟩
  ·rw[if_neg hj] at hk;refine⟨.exit j,g,K,hk,w1,ACode.block (c1.mono ?_)⟩;rintro e' f' H' ⟨rfl,rfl,rfl⟩;simp only[hj,if_false];exact⟨trivial,trivial,trivial⟩
 |_=>
  refine⟨_,g,K,hk,w1,ACode.block (c1.mono ?_)⟩;rintro e' f' H' ⟨rfl,rfl,rfl⟩;exact⟨rfl,rfl,rfl⟩
inductive Chain (P:PG) (c:Code) (e:Exit) (g:Fr) (K:AH):Nat->Fr->AH->Prop
 |last {f:Fr} {H:AH} (hn:e≠.normal) (h:pM P c e g K f H):Chain P c e g K 0 f H
 |next {f f1:Fr} {H H1:AH} {n:Nat} (h:pM P c .normal f1 H1 f H) (r:Chain P c e g K n f1 H1):Chain P c e g K (n+1) f H
theorem Chain.says{c:Code}{e:Exit}{g:Fr}{K:AH}{n:Nat}(h:Chain P c e g K n f H):pM P (.loop c) e g K f H:=by
 have hw:K.w0=H.w0:=by
  induction h with
  |last hn h=>exact h.1
  |next h r ih=>exact ih.trans h.1
 refine⟨hw,loopn (Chain P c e g K) n h ?_⟩;intro k f H hI K' hn ho;cases hI with
 |last qn h=>
  refine h.2.mono ?_;rintro e' g' H' ⟨rfl,rfl,rfl⟩;exact ho _ _ _ qn ⟨rfl,rfl,rfl⟩
 |next h r=>
  refine h.2.mono ?_;rintro e' g' H' ⟨rfl,rfl,rfl⟩;exact hn _ _ _ (Nat.lt_succ_self _) r
theorem XC.loop{c:Code}{σ:Type}(μ:σ->Nat)(I:σ->Fr->AH->Prop)
 (round:∀s f H,I s f H->XC P c (fun e f' H'=>(e=.normal/\∃s',μ s'<μ s/\I s' f' H')\/(e≠.normal/\Q e f' H')) f H)(s:σ)(h0:I s f H):XC P (.loop c) Q f H:=by
 have key:∀m s f H,μ s=m->I s f H->∃e g K n,Q e g K/\Chain P c e g K n f H:=by
  intro m
  induction m using Nat.strongRecOn with
  |_ m ih=>
   intro s f H hm hI;obtain⟨e,g,K,hk,hs⟩:=round s f H hI;rcases hk with⟨rfl,s',qj,jq⟩|⟨qn,hq⟩
   ·obtain⟨e2,g2,K2,n,q,ch⟩:=ih _ (hm▸qj) s' g K rfl jq;exact⟨e2,g2,K2,n+1,q,.next hs ch⟩
   ·exact⟨e,g,K,0,hq,.last qn hs⟩
 obtain⟨e,g,K,n,hq,ch⟩:=key _ s f H rfl h0;exact⟨e,g,K,hq,ch.says⟩
end
def fK(bs ms:NL)(i:Nat):Bool:=ms.all fun j=>(Nat.blt j i&&(bs.getD i 0).testBit j)||(Nat.blt i j&&(bs.getD j 0).testBit i)
section
variable [γ:Gam]{P:PG}(E:Env P)(D:Bool)(ops:OA)(ms:NL)(W:AH->Prop)
def SD(i:Nat)(o:Oper)(f:Fr)(H:AH)(v:Value)(H':AH)(m:Bool):Prop:=
 (aR ops (bV f) o=false/\v=undef/\m=false/\H'=H)\/
 (aR ops (bV f) o=true/\m=false/\H'=H/\(bX E o.op=true/\aop E (aN f) o.op H=some (v,H))/\(D=true->(eO E o.op=true\/fK (bef ops) ms i=true\/∀H',W H'->aop E (aN f) o.op H'=some (v,H'))))\/
 (aR ops (bV f) o=true/\m=true/\(D=true->i∈ms/\W H')/\aop E (aN f) o.op H=some (v,H'))\/
 (aR ops (bV f) o=true/\m=true/\(D=true->i∈ms/\W H')/\H'.w0=H.w0/\((∃g args,bN E (aN f) o.op=some (g,args)/\ACalls P g args H fun u K=>u=v/\K=H')\/(D=false/\AYield P o f H v H')))
inductive RunD:Nat->List Oper->Fr->AH->List gF->Fr->AH->Prop
 |nil {i:Nat} {f:Fr} {H:AH}:RunD i [] f H [] f H
 |cons {i:Nat} {o:Oper} {l:OL2} {f f' g:Fr} {H H' K:AH} {v:Value} {m:Bool} {L:List gF} (hs:SD E D ops ms W i o f H v H' m) (hp:f.put o.dst v=some f') (r:RunD (i+1) l f' H' L g K):RunD i (o::l) f H ((f,H,v,m)::L) g K
variable {E D ops ms W}
theorem RunD.w0{i:Nat}{l:OL2}{f g:Fr}{H K:AH}{L:List gF}(h:RunD E D ops ms W i l f H L g K):K.w0=H.w0:=by
 induction h with
 |nil=>rfl
 |cons hs hp r ih=>
  rw[ih];rcases hs with⟨_,_,_,rfl⟩|⟨_,_,rfl,_⟩|⟨_,_,_,h⟩|⟨_,_,_,h,_⟩
  ·rfl
  ·rfl
  ·exact lY E h
  ·exact h
theorem RunD.opsOk{i:Nat}{l:OL2}{f g:Fr}{H K:AH}{L:List gF}(h:RunD E D ops ms W i l f H L g K)(hl:∀j,l[j]?=ops[i+j]?){Q:AQ}(hQ:Q .normal g K):AOps P ops (List.range' i l.length) Q f H:=by
 induction h with
 |nil=>exact AOps.nil hQ
 | @cons i o l f f' g H H' K v m L hs hp r ih=>
   have ho:ops[i]?=some o:=by have:=hl 0;simpa using this.symm
   have hr:=ih (fun j=>by have:=hl (j+1);simp only[List.getElem?_cons_succ] at this;rw[this];congr 1;omega) hQ;rw[List.length_cons,List.range'_succ];rcases hs with⟨h1,rfl,_,rfl⟩|⟨h1,_,rfl,⟨_,h2⟩,_⟩|⟨h1,_,_,h2⟩|⟨h1,_,_,zo,⟨c,args,h2,h3⟩|⟨_,h2⟩⟩
   ·exact AOps.skip ho h1 hp hr
   ·exact AOps.op E ho h1 h2 hp hr
   ·exact AOps.op E ho h1 h2 hp hr
   ·refine AOps.call E ho h1 h2 (h3.mono ?_);rintro u K' ⟨rfl,rfl⟩;exact⟨f',hp,hr⟩
   ·exact AOps.yield ho h1 zo h2 hp hr
theorem RunD.region{f g:Fr}{H K:AH}{L:List gF}(h:RunD E D ops ms W 0 ops.toList f H L g K)(id:Nat):pM P (.region id ops false) .normal g K f H:=by
 refine⟨h.w0,ACode.region ?_⟩;have:=h.opsOk (fun j=>by simp) (Q:=fun e' g' K'=>e'=.normal/\g'=g/\K'=K) ⟨rfl,rfl,rfl⟩;rw[Array.length_toList,<-List.range_eq_range'] at this;exact this
theorem RunD.at{i:Nat}{l:OL2}{f g:Fr}{H K:AH}{L:List gF}(h:RunD E D ops ms W i l f H L g K):
 L.length=l.length/\(∃s,(L++[(g,K,undef,false)])[0]?=some s/\s.1=f/\s.2.1=H)/\
 ∀(j:Nat) (o:Oper) (s:gF),l[j]?=some o->L[j]?=some s->∃s',(L++[(g,K,undef,false)])[j+1]?=some s'/\SD E D ops ms W (i+j) o s.1 s.2.1 s.2.2.1 s'.2.1 s.2.2.2/\s.1.put o.dst s.2.2.1=some s'.1:=by
 induction h with
 |nil=>exact⟨rfl,⟨_,rfl,rfl,rfl⟩,fun j o s h=>by simp at h⟩
 | @cons i o l f f' g H H' K v m L hs hp r ih=>
   obtain⟨h1,⟨s1,iv,iw,d9⟩,h2⟩:=ih;refine⟨by simp[h1],⟨_,rfl,rfl,rfl⟩,fun j o' s hj x8=>?_⟩;cases j with
   |zero=>
    simp at hj x8;subst hj;subst x8;refine⟨s1,by simpa using iv,?_,by rw[iw];exact hp⟩;rw[d9,Nat.add_zero];exact hs
   |succ j=>
    simp at hj x8;obtain⟨s2,q1,q2,q3⟩:=h2 j o' s hj x8;exact⟨s2,by simpa using q1,by rw[show i+(j+1)=i+1+j by omega];exact q2,q3⟩
theorem RunD.draw{f g:Fr}{H K:AH}{L:List gF}(h:RunD E true ops ms W 0 ops.toList f H L g K)(hm:P.follows .mixedOrders=true)(zg:bY ops (bef ops)=true)(zh:dB (bef ops) ms=true)(zd:ms.Pairwise (·<·))(hW:W H)(id:Nat):
 pM P (.region id ops true) .normal g K f H:=by
 refine⟨h.w0,?_⟩;obtain⟨qe,⟨s0,xa,tm,tn⟩,qr⟩:=h.at;have zc:L.length=ops.size:=by rw[qe,Array.length_toList]
 let A:=L++[(g,K,undef,false)]
 let d:gF:=(g,K,undef,false)
 let F:=fun i=>(A.getD i d).1
 let HH:=fun i=>(A.getD i d).2.1
 let V:=fun i=>(A.getD i d).2.2.1
 let M:=fun i=>(A.getD i d).2.2.2
 have hA:∀i,i<ops.size->∃s,L[i]?=some s/\A.getD i d=s:=by
  intro i hi;refine⟨L[i]'(by omega),by simp[zc,hi],?_⟩;simp only[A,List.getD_eq_getElem?_getD];rw[List.getElem?_append_left (by omega)];simp[zc,hi]
 have o9:A.getD ops.size d=d:=by
  simp only[A,List.getD_eq_getElem?_getD];rw[List.getElem?_append_right (by omega)];simp[zc,d]
 have qq:∀i o,ops[i]?=some o->SD E true ops ms W i o (F i) (HH i) (V i) (HH (i+1)) (M i)/\(F i).put o.dst (V i)=some (F (i+1)):=by
  intro i o ho;obtain⟨s,h1,h2⟩:=hA i (alt_of_getElem? ho);obtain⟨s',q1,q2,q3⟩:=qr i o s (by simpa using ho) h1;have e:A.getD (i+1) d=s':=by simp only[A,List.getD_eq_getElem?_getD,q1,Option.getD_some]
  simp only[F,HH,V,M,h2,e];rw[Nat.zero_add] at q2;exact⟨q2,q3⟩
 have vf:F 0=f/\HH 0=H:=by
  have e:A.getD 0 d=s0:=by simp only[A,List.getD_eq_getElem?_getD,xa,Option.getD_some]
  simp only[F,HH,e];exact⟨tm,tn⟩
 have still:∀i,i<ops.size->M i=false->HH (i+1)=HH i:=by
  intro i hi hM;have ho:ops[i]?=some ops[i]:=Array.getElem?_eq_getElem hi;rcases(qq i _ ho).1 with⟨_,_,_,h4⟩|⟨_,_,h4,_⟩|⟨_,h4,_⟩|⟨_,h4,_⟩
  ·exact h4
  ·exact h4
  ·rw[hM] at h4;cases h4
  ·rw[hM] at h4;cases h4
 have w0s:∀i,i<ops.size->(HH (i+1)).w0=(HH i).w0:=by
  intro i hi;have ho:ops[i]?=some ops[i]:=Array.getElem?_eq_getElem hi;rcases(qq i _ ho).1 with⟨_,_,_,h4⟩|⟨_,_,h4,_⟩|⟨_,_,_,h4⟩|⟨_,_,_,h4,_⟩
  ·rw[h4]
  ·rw[h4]
  ·exact lY E h4
  ·exact h4
 have mainW:∀i,i<ops.size->M i=true->i∈ms/\W (HH (i+1)):=by
  intro i hi hM;have ho:ops[i]?=some ops[i]:=Array.getElem?_eq_getElem hi;rcases(qq i _ ho).1 with⟨_,_,h4,_⟩|⟨_,h4,_⟩|⟨_,_,h4,_⟩|⟨_,_,h4,_⟩
  ·rw[hM] at h4;cases h4
  ·rw[hM] at h4;cases h4
  ·exact h4 rfl
  ·exact h4 rfl
 have allW:∀t,t<=ops.size->W (HH t):=by
  intro t
  induction t with
  |zero=>intro _;rw[vf.2];exact hW
  |succ t ih=>
   intro ht;cases uh:M t with
   |true=>exact(mainW t (by omega) uh).2
   |false=>rw[still t (by omega) uh];exact ih (by omega)
 have between:∀n a,a+n<=ops.size->(∀j,a<=j->j<a+n->M j=false)->HH (a+n)=HH a:=by
  intro n
  induction n with
  |zero=>intro a _ _;rfl
  |succ n ih=>
   intro a ha zy;rw[show a+(n+1)=a+n+1 by omega,still (a+n) (by omega) (zy _ (by omega) (by omega))];exact ih a (by omega) (fun j h1 h2=>zy j h1 (by omega))
 have T:Trace E ops F HH V M:=by
  refine⟨⟨zg,fun i o ho=>(qq i o ho).2⟩,fun i o ho=>?_,still,fun i j ye hj yo zf=>?_⟩
  ·have hi:=alt_of_getElem? ho;rcases(qq i o ho).1 with⟨h1,h2,h3,h4⟩|⟨h1,h2,h3,⟨_,h4⟩,h5⟩|⟨h1,h2,h3,h4⟩|⟨h1,h2,_,_,⟨c,args,h3,h4⟩|⟨hF,_⟩⟩
   ·exact .inl ⟨h1,h2,h3⟩
   ·refine .inr (.inl ⟨h1,h2,fun t ht hb ha=>?_⟩);rcases h5 rfl with hp|hp|hp
    ·exact sU E hp h4 (HH t)
    ·have wm:∀j,j<ops.size->M j=true->(j<t↔j<i):=by
      intro j hj zf;have jt:=(mainW j hj zf).1;simp only[fK,List.all_eq_true] at hp;have:=hp j jt;simp only[Bool.or_eq_true,QB,Nat.blt,Nat.ble_eq] at this;rcases this with⟨q1,q2⟩|⟨q1,q2⟩
      ·exact⟨fun _=>q1,fun _=>hb j hj zf q2⟩
      ·have:=ha j hj zf q2;constructor<;>intro<;>omega
     have:HH t=HH i:=by
      rcases Nat.le_total t i with qf|qf
      ·have e:=between (i - t) t (by omega) (fun j h1 h2=>by
        cases zf:M j with
        |false=>rfl
        |true=>have:=(wm j (by omega) zf).2 (by omega);omega)
       rw[show t+(i - t)=i by omega] at e;exact e.symm
      ·have e:=between (t - i) i (by omega) (fun j h1 h2=>by
        cases zf:M j with
        |false=>rfl
        |true=>have:=(wm j (by omega) zf).1 (by omega);omega)
       rw[show i+(t - i)=t by omega] at e;exact e
     rw[this];exact h4
    ·exact hp _ (allW t ht)
   ·exact .inr (.inr (.inl ⟨h1,h2,h4⟩))
   ·exact .inr (.inr (.inr ⟨h1,h2,c,args,h3,h4⟩))
   ·cases hF
  ·exact uU zh zd i j (mainW i (by omega) yo).1 (mainW j hj zf).1 ye
 have:=T.region hm w0s (Q:=fun e' g' K'=>e'=.normal/\g'=g/\K'=K) (by simp only[F,HH,o9];exact⟨trivial,rfl,rfl⟩) id;rw[vf.1,vf.2] at this;exact this
end
def XCall(P:PG)(g:FuncId)(args:VL)(H:AH)(R:Value->AH->Prop):Prop:=∃v H',R v H'/\H'.w0=H.w0/\ACalls P g args H fun u K=>u=v/\K=H'
theorem XCall.mono{P:PG}{g:FuncId}{args:VL}{H:AH}{R R':Value->AH->Prop}(h:XCall P g args H R)(hr:∀v H',H'.w0=H.w0->R v H'->R' v H'):XCall P g args H R':=by
 obtain⟨v,H',h1,h2,h3⟩:=h;exact⟨v,H',hr _ _ h2 h1,h2,h3⟩
theorem XCall.calls{P:PG}{g:FuncId}{args:VL}{H:AH}{R:Value->AH->Prop}(h:XCall P g args H R):ACalls P g args H R:=by
 obtain⟨v,H',h1,h2,h3⟩:=h;refine h3.mono ?_;rintro u K ⟨rfl,rfl⟩;exact h1
def vL{P:PG}(E:Env P)(rs:List ResultVar)(R:Value->AH->Prop):AQ:=fun e f H=>(e=.normal\/e=.ret)/\∃vs,bP E f H rs=some vs/\R (bK vs) H
theorem XCall.body{P:PG}(E:Env P){g:FuncId}{x:AFn}(hg:E.fn g=some x){args:VL}{H:AH}{R:Value->AH->Prop}(h:XC P x.body (vL E x.results R) (sI args x.ntmps) H):XCall P g args H R:=by
 obtain⟨e,f,K,⟨h1,vs,h2,h3⟩,h4,h5⟩:=h;refine⟨bK vs,K,h3,h4,ACalls.body E hg (h5.mono ?_)⟩;rintro e' f' K' ⟨rfl,rfl,rfl⟩;exact⟨h1,vs,h2,rfl,rfl⟩
end Go.AM
