/-
  An abstract machine that runs a program of the given form, and its soundness, part 10.
-/
import Derived.Test.YtlikijmihbgloaaGreatDoorAb9
set_option linter.unusedVariables false
set_option linter.unusedSimpArgs false
set_option linter.unusedSectionVars false
noncomputable section
namespace Go.AM
open Go.RowKit
variable [σ:Sg]
theorem lP{k:IntKind}{e:Int}(h1:k.min<=e)(h2:e<=k.max):k.wrap e=e:=by
 cases k<;>(simp only[IntKind.min,IntKind.max,IntKind.wrap,IntKind.bits,IntKind.signed] at h1 h2 ⊢;simp at h1 h2 ⊢;try split)<;>omega
theorem pB{k:IntKind}{e:Int}(h:k.min=0):k.wrap e=e%(k.max+1):=by
 cases k<;>(simp[IntKind.min,IntKind.max,IntKind.wrap,IntKind.bits,IntKind.signed] at h ⊢)
theorem bBa(k:IntKind):∃p,k.max+1=(((2^p:Nat):Nat):Int):=by
 cases k
 ·exact⟨7,rfl⟩
 ·exact⟨15,rfl⟩
 ·exact⟨31,rfl⟩
 ·exact⟨63,rfl⟩
 ·exact⟨8,rfl⟩
 ·exact⟨16,rfl⟩
 ·exact⟨32,rfl⟩
 ·exact⟨64,rfl⟩
theorem oF{k:IntKind}{n:Int}(h0:0<=n)(h1:n<=k.max):(BitVec.ofInt k.bits n).toNat=n.toNat:=by
 have:=kJ h0 (Int.lt_of_le_of_lt h1 (aHk k));omega
theorem aNk{k:IntKind}{n m:Int}(h0:0<=n)(h1:n<=k.max)(h2:0<=m)(h3:m<=k.max):bits .and k n m=((n.toNat &&& m.toNat:Nat):Int):=by
 have e:(BitVec.ofInt k.bits n &&& BitVec.ofInt k.bits m).toNat=n.toNat &&& m.toNat:=by rw[BitVec.toNat_and,oF h0 h1,oF h2 h3]
 have l:= @Nat.and_le_left n.toNat m.toNat;have e3:bits .and k n m=(((BitVec.ofInt k.bits n &&& BitVec.ofInt k.bits m).toNat:Nat):Int):=vR k (Int.natCast_nonneg _) (by rw[e];omega);rw[e3,e]
theorem aWi{k:IntKind}{n m:Int}(h0:0<=n)(h1:n<=k.max)(h2:0<=m)(h3:m<=k.max):bits .or k n m=((n.toNat ||| m.toNat:Nat):Int):=by
 have e:(BitVec.ofInt k.bits n ||| BitVec.ofInt k.bits m).toNat=n.toNat ||| m.toNat:=by rw[BitVec.toNat_or,oF h0 h1,oF h2 h3]
 obtain⟨p,hp⟩:=bBa k;have l:= @Nat.or_lt_two_pow n.toNat m.toNat p (by omega) (by omega);have e3:bits .or k n m=(((BitVec.ofInt k.bits n ||| BitVec.ofInt k.bits m).toNat:Nat):Int):=vR k (Int.natCast_nonneg _) (by rw[e];omega);rw[e3,e]
theorem aRa(w:Nat)(n:Int):((BitVec.allOnes w ^^^ BitVec.ofInt w n).toNat:Int)=(2^w:Nat) - 1 - n%((2^w:Nat):Int):=by
 rw[BitVec.allOnes_xor,BitVec.toNat_not,BitVec.toNat_ofInt];have hp:0<2^w:=Nat.pow_pos (by omega);have h1:=Int.emod_nonneg n (b:=((2^w:Nat):Int)) (by omega);have h2:=Int.emod_lt_of_pos n (b:=((2^w:Nat):Int)) (by omega);omega
theorem aBf{k:IntKind}{n:Int}(h0:k.min<=n)(h1:n<=k.max):(k.min<0->bits .xor k (if k.signed then -1 else k.max) n= -1 - n)/\(k.min=0->bits .xor k (if k.signed then -1 else k.max) n=k.max - n):=by
 have e:BitVec.ofInt k.bits (if k.signed then -1 else k.max)=BitVec.allOnes k.bits:=by cases k<;>decide
 have e2:bits .xor k (if k.signed then -1 else k.max) n=k.wrap (((BitVec.allOnes k.bits ^^^ BitVec.ofInt k.bits n).toNat:Nat):Int):=by rw[<-e];rfl
 rw[e2,aRa];cases k<;>(simp[IntKind.min,IntKind.max,IntKind.wrap,IntKind.bits,IntKind.signed] at h0 h1 ⊢;try split)<;>omega
theorem aSy{k:IntKind}{n m:Int}(h1:k.min<=n)(h2:n<=k.max):k.min<=n.tmod m/\n.tmod m<=k.max:=by
 have h0:k.min<=0/\0<=k.max:=by cases k<;>simp[IntKind.min,IntKind.max,IntKind.bits,IntKind.signed]
 have e:=Int.natAbs_tmod n m;have e2:=Nat.mod_le n.natAbs m.natAbs;rcases Int.le_total 0 n with hn|hn
 ·have a1:=Int.tmod_nonneg m hn;omega
 ·have a1:(-n).tmod m= -(n.tmod m):=Int.neg_tmod n m;have a3:=Int.tmod_nonneg m (by omega:0<= -n);omega
theorem aCu{ρ:RM}{A:NQ}{H:AH}:∀{ss:SL} {us vs:VL},mT ss=some vs->Reps ρ A H ss us->us=vs
 |[],[],vs,h,_=>by simp[mT] at h;exact h.symm
 |s::r,u::us,vs,h,k=>by
  simp only[Reps] at k;cases s<;>simp only[mT] at h<;>first|(cases h;done)|skip
  all_goals
   split at h
   ·rename_i l hl;cases h;have:=aCu hl k.2;have k1:=k.1;simp only[Rep] at k1;subst this
    first|(obtain⟨rfl,_⟩:=k1;rfl)|(subst k1;rfl)
   ·cases h
 |[],_::_,vs,h,k=>by simp only[Reps] at k
 |_::_,[],vs,h,k=>by simp only[Reps] at k
section
variable {P:PG}{E:Env P}{T:TTb}{ρ:RM}{A:NQ}{H:AH}
theorem lh1{k:IntKind}{n m:Int}{K:Int->Int->Prop}(h:lhK k fun lo hi=>lo<=n->n<=hi->lo<=m->m<=hi->K lo hi)(hn:(Lit.int k n).wf=true)(hm:(Lit.int k m).wf=true):K k.min k.max:=iS h (bU hn).1 (bU hn).2 (bU hm).1 (bU hm).2
theorem aOo{k:IntKind}{n m:Int}(h0:0<=n)(h1:n<=1):(m= -1->bits .and k n m=n)/\(m= -2->bits .and k n m=0):=by
 have e:n=0\/n=1:=by omega
 refine⟨fun h=>?_,fun h=>?_⟩<;>subst h<;>rcases e with e|e<;>subst e<;>cases k<;>decide
theorem aSc{k:IntKind}{n m:Int}(h0:0<=n)(h1:n<=127)(h2:0<=m)(h3:m<=127):0<=bits .or k n m/\bits .or k n m<=127:=by
 have p7:(128:Int)<=2^k.bits:=by cases k<;>decide
 have m7:(127:Int)<=k.max:=by cases k<;>decide
 have e1:(((BitVec.ofInt k.bits n).toNat:Nat):Int)=n:=kJ h0 (by omega);have e2:(((BitVec.ofInt k.bits m).toNat:Nat):Int)=m:=kJ h2 (by omega);have e5:(BitVec.ofInt k.bits n).toNat<2^7:=by simp only[Nat.reducePow];omega
 have e6:(BitVec.ofInt k.bits m).toNat<2^7:=by simp only[Nat.reducePow];omega
 have e3:(BitVec.ofInt k.bits n ||| BitVec.ofInt k.bits m).toNat<128:=by
  rw[BitVec.toNat_or];exact Nat.or_lt_two_pow e5 e6
 have e7:(((BitVec.ofInt k.bits n ||| BitVec.ofInt k.bits m).toNat:Nat):Int)<=k.max:=by omega
 have e4:bits .or k n m=(((BitVec.ofInt k.bits n ||| BitVec.ofInt k.bits m).toNat:Nat):Int):=vR k (Int.natCast_nonneg _) e7;rw[e4];exact⟨Int.natCast_nonneg _,by omega⟩
theorem aMm{k:IntKind}{n:Int}(h0:0<=n)(h1:n<=1)(hl:k.min<0):bits .xor k (if k.signed then -1 else k.max) n= -1 - n:=by
 have e:n=0\/n=1:=by omega
 rcases e with e|e<;>subst e<;>cases k<;>revert hl<;>decide
theorem aFn{b:BinOp}{t:TY}{k:IntKind}{n m:Int}{K:SP}(h:aVq b k n m K)(hn:(Lit.int k n).wf=true)(hm:(Lit.int k m).wf=true):∃v s,aS E b t (.int k n) (.int k m)=some v/\Rep ρ A H s v/\K s:=by
 have B:∀{p:Prop} [Decidable p] {op:BinOp} {x y:SP},aS E op t (.int k n) (.int k m)=some (.bool (decide p))->Sp p (K (.bool true)) (K (.bool false))->∃v s,aS E op t (.int k n) (.int k m)=some v/\Rep ρ A H s v/\K s:=by
  intro p _ op x y e q;by_cases hp:p
  ·exact⟨_,.bool true,by rw[e,decide_eq_true hp],by simp only[Rep],q.t hp⟩
  ·exact⟨_,.bool false,by rw[e,decide_eq_false hp],by simp only[Rep],q.f hp⟩
 have W:∀{op:BinOp} {e z:Int},aS E op t (.int k n) (.int k m)=some (.int k z)->k.min<=z->z<=k.max->K (.int k z)->∃v s,aS E op t (.int k n) (.int k m)=some v/\Rep ρ A H s v/\K s:=fun e h1 h2 q=>⟨_,_,e,by simp only[Rep];exact⟨trivial,jM h1 h2⟩,q⟩;cases b with
 |lss=>exact B (x:=K) (y:=K) aGk h
 |leq=>exact B (x:=K) (y:=K) aFi h
 |gtr=>exact B (x:=K) (y:=K) aDs h
 |geq=>exact B (x:=K) (y:=K) aFd h
 |eql=>exact B (x:=K) (y:=K) aDu h
 |neq=>
  by_cases hp:n=m
  ·exact⟨_,.bool false,by rw[wL,decide_eq_false (by simpa using hp)],by simp only[Rep],h.t hp⟩
  ·exact⟨_,.bool true,by rw[wL,decide_eq_true hp],by simp only[Rep],h.f hp⟩
 |add=>
  have q:=lh1 (K:=fun lo hi=>Wr lo hi (n+m) fun z=>K (.int k z)) h hn hm;exact W (e:=0) (fE rfl) (bA k _).1 (bA k _).2 (q.h _ (bA k _).1 (bA k _).2 lP pB)
 |sub=>
  have q:=lh1 (K:=fun lo hi=>Wr lo hi (n - m) fun z=>K (.int k z)) h hn hm;exact W (e:=0) (aZk rfl) (bA k _).1 (bA k _).2 (q.h _ (bA k _).1 (bA k _).2 lP pB)
 |mul=>
  have q:=lh1 (K:=fun lo hi=>Wr lo hi (n*m) fun z=>K (.int k z)) h hn hm;exact W (e:=0) (aZa rfl) (bA k _).1 (bA k _).2 (q.h _ (bA k _).1 (bA k _).2 lP pB)
 |quo=>
  have q:=lh1 (K:=fun lo hi=>Ob (m≠0) (Qu lo hi n m fun z=>K (.int k z))) h hn hm;refine W (e:=0) (aXs q.h rfl) (bA k _).1 (bA k _).2 (q.t.h _ (bA k _).1 (bA k _).2 fun h1 h2=>?_);have e1:n.tdiv m=n / m:=Int.tdiv_eq_ediv_of_nonneg h1;have e2:0<=n / m:=Int.ediv_nonneg h1 (by omega);have e3:n / m<=n:=Int.ediv_le_self m h1;have e4:=(bU hn).2;have e5:k.wrap (n / m)=n / m:=lP (by have:k.min<=0:=(by cases k<;>simp[IntKind.min,IntKind.bits,IntKind.signed]);omega) (by omega);rw[e1,e5];exact⟨rfl,e2,e3⟩
 |rem=>
  have q:=lh1 (K:=fun lo hi=>Ob (m≠0) (Rm lo hi n m fun z=>K (.int k z))) h hn hm;have f:=aSy (m:=m) (bU hn).1 (bU hn).2;exact W (e:=0) (bAk q.h rfl) f.1 f.2 (q.t.h _ f.1 f.2 (fun h1=>⟨Int.tmod_nonneg _ h1,fun h2=>Int.tmod_eq_emod_of_nonneg h1⟩) fun h2=>⟨Int.tmod_lt_of_pos _ h2,Int.lt_tmod_of_pos _ h2⟩)
 |and=>
  have q:=lh1 (K:=fun lo hi=>An lo hi n m fun z=>K (.int k z)) h hn hm;exact W (e:=0) (aBq rfl) (cN _ _ _ _).1 (cN _ _ _ _).2 (q.h _ (cN _ _ _ _).1 (cN _ _ _ _).2 (fun h1 h2=>aQh h1 h2) (fun h1 h2=>aOo h1 h2) fun h1 h2=>aNk h1 (bU hn).2 h2 (bU hm).2)
 |or=>
  have q:=iS (K:=fun lo hi=>Oo lo hi n m fun z=>K (.int k z)) h;exact W (e:=0) (bDm rfl) (cN _ _ _ _).1 (cN _ _ _ _).2 (q.h _ (cN _ _ _ _).1 (cN _ _ _ _).2 (fun h1 h2 h3 h4=>aSc h1 h2 h3 h4) fun h1 h2=>aWi h1 (bU hn).2 h2 (bU hm).2)
 |xor=>
  have q:=iS (K:=fun lo hi=>∀z,lo<=z->z<=hi->K (.int k z)) h;exact W (e:=0) (wC rfl) (cN _ _ _ _).1 (cN _ _ _ _).2 (q _ (cN _ _ _ _).1 (cN _ _ _ _).2)
 |andNot=>exact h.elim
 |shl=>exact h.elim
 |shr=>exact h.elim
theorem aDd{s u:BA}(h:s.data.toList=u.data.toList):s=u:=by
 cases s with|mk a=>
 cases u with|mk b=>
 cases a with|mk a=>
 cases b with|mk b=>
 simp only at h;subst h;rfl
theorem aZq{k:IntKind}{n:Int}{a:Nat}(h0:0<=n)(h1:n<=k.max):n / 2^min a k.bits=n / 2^a:=by
 rcases Nat.le_total a k.bits with hb|hb
 ·rw[Nat.min_eq_left hb]
 ·rw[Nat.min_eq_right hb];have l1:n<2^k.bits:=Int.lt_of_le_of_lt h1 (aHk k);have l2:(2:Int)^k.bits<=2^a:=by
   have:=Nat.pow_le_pow_right (n:=2) (by omega) hb
   exact_mod_cast this
  rw[Int.ediv_eq_zero_of_lt h0 l1,Int.ediv_eq_zero_of_lt h0 (by omega)]
def Ios:Option TypeDesc->Prop:=fun d=>(∃kk,d=some (.int kk))\/d=some .string
theorem bCl{x:SV}{xs:SL}{vs:VL}{k:Nat}(hl:0<kZ (x::xs))(v:mT (x::xs)=some (vs.drop k)):∃u,vs[k]?=some u/\mT xs=some (vs.drop (k+1))/\kZ (x::xs)=kZ xs+1/\((∃ka a,x=.int ka a/\u=.int ka a)\/∃s,x=.str s/\u=.string s):=by
 have g:∀{u:Value} {l:VL},u::l=vs.drop k->vs[k]?=some u/\l=vs.drop (k+1):=fun {u l} e=>by
  refine⟨?_,by rw[<-List.drop_drop,<-e];rfl⟩;have:(vs.drop k)[0]?=some u:=by rw[<-e];rfl
  rwa [List.getElem?_drop,Nat.add_zero] at this
 cases x with
 |int ka a=>
  simp only[mT] at v;split at v
  ·rename_i l jg;simp only[Option.some.injEq] at v;obtain⟨g1,rfl⟩:=g v;exact⟨_,g1,jg,rfl,.inl ⟨ka,a,rfl,rfl⟩⟩
  ·cases v
 |str s=>
  simp only[mT] at v;split at v
  ·rename_i l jg;simp only[Option.some.injEq] at v;obtain⟨g1,rfl⟩:=g v;exact⟨_,g1,jg,rfl,.inr ⟨s,rfl,rfl⟩⟩
  ·cases v
 |_=>simp[kZ] at hl
theorem aMf{d:Nat}{vs ws:VL}:∀{Fl:List Field} {k:Nat} {xs ys:SL} {c:Bool},(∀i fd,Fl[i]?=some fd->fd.offset=k+i/\(fd.name== "_")=false/\Ios (E.und fd.type))->kZ xs=Fl.length->kZ ys=Fl.length->kZ xs=xs.length->kZ ys=ys.length->
 mT xs=some (vs.drop k)->mT ys=some (ws.drop k)->bS E (aeq E (d+1)) vs ws Fl=some c->(c=true↔qJ xs ys)
 |[],k,xs,ys,c,_,h1,h2,h3,h4,_,_,h=>by
  simp[bS] at h;subst h;simp at h1 h2;rw[h1] at h3;rw[h2] at h4;have e1:=List.eq_nil_of_length_eq_zero h3.symm;have e2:=List.eq_nil_of_length_eq_zero h4.symm;subst e1;subst e2;simp[qJ]
 |fd::Fl,k,xs,ys,c,hF,h1,h2,h3,h4,v1,v2,h=>by
  obtain⟨f1,f2,f3⟩:=hF 0 fd rfl
  match xs,ys with
  |x::xs,y::ys=>
   obtain⟨u,g1,w1,n1,o1⟩:=bCl (by rw[h1];simp) v1;obtain⟨u',g2,w2,n2,o2⟩:=bCl (by rw[h2];simp) v2;rw[n1,List.length_cons] at h1 h3;rw[n2,List.length_cons] at h2 h4;have ih:=fun c (q:bS E (aeq E (d+1)) vs ws Fl=some c)=>aMf (k:=k+1) (xs:=xs) (ys:=ys) (fun i fd' e=>by
    obtain⟨a1,a2⟩:=hF (i+1) fd' (by simpa using e);exact⟨by omega,a2⟩) (by omega) (by omega) (by omega) (by omega) w1 w2 q
   have o:fd.offset=k:=by rw[f1,Nat.add_zero]
   rcases f3 with⟨kk,f3⟩|f3
   ·simp only[bS,f2,QF,apart,f3,dG,o,g1,g2] at h;rcases o1 with⟨ka,a,rfl,rfl⟩|⟨a,rfl,rfl⟩<;>rcases o2 with⟨kb,b,rfl,rfl⟩|⟨b,rfl,rfl⟩<;>simp only[aeq,f3] at h
    ·by_cases e:ka=kb
     ·simp only[e,if_true] at h;cases eb:(a==b) with
      |true=>
       simp only[eb] at h;rw[ih c h];simp only[qJ,beq_iff_eq.1 eb,true_and]
      |false=>
       simp only[eb,Option.some.injEq] at h;subst h;have:a≠b:=fun e=>by rw[e,beq_self_eq_true] at eb;cases eb
       simp[qJ,this]
     ·simp[e] at h
    all_goals cases h
   ·simp only[bS,f2,QF,apart,f3,dG,o,g1,g2] at h;rcases o1 with⟨ka,a,rfl,rfl⟩|⟨a,rfl,rfl⟩<;>rcases o2 with⟨kb,b,rfl,rfl⟩|⟨b,rfl,rfl⟩<;>simp only[aeq,f3] at h
    all_goals try (cases h;done)
    cases eb:(a.data.toList==b.data.toList) with
    |true=>
     simp only[eb] at h;rw[ih c h];have:=aDd (beq_iff_eq.1 eb);subst this;simp only[qJ,true_and]
    |false=>
     simp only[eb,Option.some.injEq] at h;subst h;have:a≠b:=fun e=>by rw[e,beq_self_eq_true] at eb;cases eb
     simp[qJ,this]
  |[],_=>simp[kZ] at h1
  |_::_,[]=>simp[kZ] at h2
theorem aFr:∀{fs:List (Nat×Nat×Nat)} {i:Nat},i<xY fs->∃x,atF fs i=some x
 |[],i,h=>by simp[xY] at h
 |x::r,0,_=>⟨x,rfl⟩
 |x::r,i+1,h=>by simp only[atF];exact aFr (by simpa [xY] using h)
theorem wQ(hT:dM E T):∀{fs:List (Nat×Nat×Nat)} {k i o ft s:Nat},aAh T fs k=true->atF fs i=some (o,ft,s)->o=k+i/\Ios (E.und ft)
 |[],k,i,o,ft,s,_,e=>by simp[atF] at e
 |(o',t',s')::r,k,i,o,ft,s,h,e=>by
  simp only[aAh] at h;cases eo:Nat.beq o' k with
  |false=>rw[eo] at h;cases h
  |true=>
   rw[eo,QT] at h;split at h
   ·rename_i ti zb;split at h
    ·rename_i kk qw;cases i with
     |zero=>
      simp only[atF,Option.some.injEq,Prod.mk.injEq] at e;obtain⟨rfl,rfl,rfl⟩:=e;obtain⟨w,hw,_,hs⟩:=(hT _ _ zb).und;rw[qw] at hs;simp only[dP] at hs;subst hs;exact⟨by rw[QN eo,Nat.add_zero],.inl ⟨kk,hw⟩⟩
     |succ i=>
      simp only[atF] at e;obtain⟨a,b⟩:=wQ hT h e;exact⟨by omega,b⟩
    ·rename_i qw;cases i with
     |zero=>
      simp only[atF,Option.some.injEq,Prod.mk.injEq] at e;obtain⟨rfl,rfl,rfl⟩:=e;obtain⟨w,hw,_,hs⟩:=(hT _ _ zb).und;rw[qw] at hs;simp only[dP] at hs;subst hs;exact⟨by rw[QN eo,Nat.add_zero],.inr hw⟩
     |succ i=>
      simp only[atF] at e;obtain⟨a,b⟩:=wQ hT h e;exact⟨by omega,b⟩
    ·cases h
   ·cases h
theorem vO:∀{xs:SL} {fs:List (Nat×Nat×Nat)},gK xs fs=true->kZ xs=xY fs/\kZ xs=xs.length
 |[],[],_=>⟨rfl,rfl⟩
 |.int _ _::r,_::q,h=>by
  simp only[gK] at h;obtain⟨a,b⟩:=vO h;exact⟨by simp only[kZ,xY,a],by simp only[kZ,List.length_cons,b]⟩
 |.str _::r,_::q,h=>by
  simp only[gK] at h;obtain⟨a,b⟩:=vO h;exact⟨by simp only[kZ,xY,a],by simp only[kZ,List.length_cons,b]⟩
 |[],_::_,h=>by simp[gK] at h
 |.int _ _::_,[],h=>by simp[gK] at h
 |.bool _::_,_,h=>by simp[gK] at h
 |.str _::_,[],h=>by simp[gK] at h
 |.undef::_,_,h=>by simp[gK] at h
 |.nil::_,_,h=>by simp[gK] at h
 |.pnil::_,_,h=>by simp[gK] at h
 |.row _ _ _::_,_,h=>by simp[gK] at h
 |.el _ _ _::_,_,h=>by simp[gK] at h
 |.ptr _ _::_,_,h=>by simp[gK] at h
 |.ow _::_,_,h=>by simp[gK] at h
 |.op _ _ _ _::_,_,h=>by simp[gK] at h
 |.fn _ _::_,_,h=>by simp[gK] at h
 |.gp _ _::_,_,h=>by simp[gK] at h
 |.rng _ _::_,_,h=>by simp[gK] at h
 |.xp _ _ _::_,_,h=>by simp[gK] at h
 |.any::_,_,h=>by simp[gK] at h
 |.yl _::_,_,h=>by simp[gK] at h
 |.agg _::_,_,h=>by simp[gK] at h
 |.tup _::_,_,h=>by simp[gK] at h
theorem tI(hT:dM E T){b:BinOp}{t:TY}{xs ys:SL}{vs ws:VL}{K:SP}(ha:mT xs=some vs)(hb:mT ys=some ws)(hi:aJt E b t (.agg ⟨vs⟩) (.agg ⟨ws⟩)=true)(h:xP E T b t xs ys K):∃w s,aS E b t (.agg ⟨vs⟩) (.agg ⟨ws⟩)=some w/\Rep ρ A H s w/\K s:=by
 have q:=aNr hi;have old:K (.bool true)/\K (.bool false)->∃w s,aS E b t (.agg ⟨vs⟩) (.agg ⟨ws⟩)=some w/\Rep ρ A H s w/\K s:=fun k=>by
  generalize aXf E b t (.agg ⟨vs⟩) (.agg ⟨ws⟩)=c at q;cases c with
  |true=>exact⟨_,.bool true,q,by simp only[Rep],k.1⟩
  |false=>exact⟨_,.bool false,q,by simp only[Rep],k.2⟩
 unfold xP at h;split at h
 ·rename_i ti zb;obtain⟨u,hu,_,hs⟩:=(hT _ _ zb).und;split at h
  ·rename_i fs qw;rw[qw] at hs;simp only[dP] at hs;obtain⟨F,rfl,_,hF⟩:=hs;cases e1:aAh T fs 0 with
   |false=>rw[e1] at h;exact old h
   |true=>
    rw[e1,QT] at h;cases e2:gK xs fs with
    |false=>rw[e2] at h;exact old h
    |true=>
     rw[e2,QT] at h;cases e3:gK ys fs with
     |false=>rw[e3] at h;exact old h
     |true=>
      rw[e3,QT] at h;obtain⟨e2,l1⟩:=vO e2;obtain⟨e3,l2⟩:=vO e3;have key:aKk E t (xY fs)=true->kZ xs=xs.length->kZ ys=ys.length->∃c,aeq E 9 t (.agg ⟨vs⟩) (.agg ⟨ws⟩)=some c/\aS E b t (.agg ⟨vs⟩) (.agg ⟨ws⟩)=fO b c/\(c=true↔qJ xs ys):=by
       intro yn l1 l2;unfold aKk at yn;rw[hu] at yn;simp only[QB] at yn;have hn:=QN yn.1;have ql:=hi;unfold aJt at ql;simp only[QB] at ql;obtain⟨⟨g1,g2,g3⟩,g4,_⟩:=ql;obtain⟨c,hc⟩:=lL g4;refine⟨c,hc,by simp only[aS,g1,g2,g3,Bool.and_self,QT,hc],?_⟩;unfold aeq at hc;simp only[hu,g3,QT] at hc;refine aMf (d:=7) (k:=0) (Fl:=F.toList) (fun i fd kj=>?_) (by rw[e2,hn]) (by rw[e3,hn]) l1 l2 (by rw[List.drop_zero];exact ha) (by rw[List.drop_zero];exact hb) hc;have qj:i<xY fs:=by
        rw[<-hn];exact(List.getElem?_eq_some_iff.1 kj).1
       obtain⟨⟨o,ft,s⟩,hx⟩:=aFr qj;obtain⟨fd',ii,f1,f2,f3,_⟩:=hF _ _ _ _ hx;have:fd'=fd:=by
        have f1':F.toList[i]?=some fd':=by rw[Array.getElem?_toList];exact f1
        rw[f1'] at kj;exact Option.some.inj kj
       subst this;obtain⟨a1,a2⟩:=wQ hT e1 hx;refine⟨by rw[f2,a1],?_,by rw[f3];exact a2⟩;have:=List.all_eq_true.1 yn.2 fd' (List.mem_of_getElem? kj);simpa using this
      split at h
      ·obtain⟨c,_,k2,k3⟩:=key h.h l1 l2;cases c with
       |true=>exact⟨.bool true,.bool true,k2,by simp only[Rep],h.t.1 ⟨⟨k3.1 rfl⟩⟩⟩
       |false=>exact⟨.bool false,.bool false,k2,by simp only[Rep],h.t.2 ⟨fun e=>by cases k3.2 e.h⟩⟩
      ·obtain⟨c,_,k2,k3⟩:=key h.h l1 l2;cases c with
       |true=>exact⟨.bool false,.bool false,k2,by simp only[Rep],h.t.2 ⟨⟨k3.1 rfl⟩⟩⟩
       |false=>exact⟨.bool true,.bool true,k2,by simp only[Rep],h.t.1 ⟨fun e=>by cases k3.2 e.h⟩⟩
      ·exact old h
  ·exact old h
 ·exact old h
theorem pR{f:Nat->Option Bool}(hf:∀i c,f i=some c->c=true):∀{n i:Nat} {c:Bool},eW f i n=some c->c=true
 |0,i,c,h=>by simp only[eW,Option.some.injEq] at h;exact h.symm
 |n+1,i,c,h=>by
  simp only[eW] at h;cases e:f i with
  |none=>rw[e] at h;cases h
  |some d=>
   rw[e,hf i d e] at h;exact pR hf h
theorem jR{f:TY->Value->Value->Option Bool}(hf:∀t u c,f t u u=some c->c=true){xs:VL}:∀{fs:List Field} {c:Bool},bS E f xs xs fs=some c->c=true
 |[],c,h=>by simp only[bS,Option.some.injEq] at h;exact h.symm
 |fd::fs,c,h=>by
  simp only[bS] at h;cases e:(fd.name== "_") with
  |true=>rw[e,QT] at h;exact jR hf h
  |false=>
   rw[e,QF] at h;cases ea:apart E fd.type xs fd.offset with
   |none=>rw[ea] at h;cases h
   |some u=>
    rw[ea] at h;simp only at h;cases eu:f fd.type u u with
    |none=>rw[eu] at h;cases h
    |some d=>
     rw[eu,hf _ _ _ eu] at h;exact jR hf h
theorem tP:∀{d:Nat} {t:TY} {x:Value} {c:Bool},aeq E d t x x=some c->c=true
 |0,t,x,c,h=>by simp only[aeq] at h;cases h
 |d+1,t,x,c,h=>by
  unfold aeq at h;split at h
  ·rename_i kk k a k' b e2 e3;injection e3 with a1 a2
   subst a1;subst a2;simp at h;exact h
  ·rename_i a b e2 e3;injection e3 with a2
   subst a2;simp at h;exact h
  ·rename_i a b e2 e3;injection e3 with a2
   subst a2;simp at h;exact h
  ·rename_i fs xs ys e2 e3;injection e3 with a2
   injection a2 with a2
   subst a2;cases ee:E.eqT t with
   |false=>rw[ee] at h;cases h
   |true=>rw[ee,QT] at h;exact jR (fun t u c=>tP) h
  ·rename_i n e xs ys e2 e3;injection e3 with a2
   injection a2 with a2
   subst a2;split at h
   ·refine pR (fun i c hc=>?_) h;split at hc
    ·rename_i u v g1 g2;rw[g1] at g2;injection g2 with g2
     subst g2;exact tP hc
    ·cases hc
   ·cases h
  ·cases h
theorem aTe(hT:dM E T){b:BinOp}{t:TY}{xs ys:SL}{vs ws:VL}{K:SP}(ha:mT xs=some vs)(hb:mT ys=some ws)(hi:aJt E b t (.agg ⟨vs⟩) (.agg ⟨ws⟩)=true)(h:aQm E T b t xs ys K):∃w s,aS E b t (.agg ⟨vs⟩) (.agg ⟨ws⟩)=some w/\Rep ρ A H s w/\K s:=by
 have key:xs=ys->∃c,c=true/\aS E b t (.agg ⟨vs⟩) (.agg ⟨ws⟩)=fO b c:=fun e=>by
  subst e;rw[ha] at hb;injection hb with hb
  subst hb;have ql:=hi;unfold aJt at ql;simp only[QB] at ql;obtain⟨⟨g1,g2,g3⟩,g4,_⟩:=ql;obtain⟨c,hc⟩:=lL g4;exact⟨c,tP hc,by simp only[aS,g1,g3,Bool.and_self,QT,hc]⟩
 unfold aQm at h;split at h
 ·rcases h.h with⟨e,k⟩|k
  ·obtain⟨c,rfl,k2⟩:=key e;exact⟨.bool true,.bool true,k2,by simp only[Rep],k⟩
  ·exact tI hT ha hb hi k
 ·rcases h.h with⟨e,k⟩|k
  ·obtain⟨c,rfl,k2⟩:=key e;exact⟨.bool false,.bool false,k2,by simp only[Rep],k⟩
  ·exact tI hT ha hb hi k
 ·exact tI hT ha hb hi h
theorem aRx{b:BinOp}{t:TY}{k:IntKind}{n m:Int}{K:SP}(h:bBw b n m K):∃v s,aS E b t (.int k n) (.int k m)=some v/\Rep ρ A H s v/\K s:=by
 cases b with
 |lss=>exact⟨_,_,aGk,by simp only[Rep],h⟩
 |leq=>exact⟨_,_,aFi,by simp only[Rep],h⟩
 |gtr=>exact⟨_,_,aDs,by simp only[Rep],h⟩
 |geq=>exact⟨_,_,aFd,by simp only[Rep],h⟩
 |eql=>exact⟨_,_,aDu,by simp only[Rep],h⟩
 |neq=>exact⟨_,_,wL,by simp only[Rep],h⟩
 |_=>exact h.elim
theorem aZv(hT:dM E T){nb:Bool}{b:BinOp}{t:TY}{x y:SV}{u v:Value}{K:SP}(h:bEs E T nb b t x y K)(hx:Rep ρ A H x u)(hy:Rep ρ A H y v):∃w s,aS E b t u v=some w/\Rep ρ A H s w/\K s:=by
 unfold bEs at h;split at h
 ·rename_i k n k' m;simp only[Rep] at hx hy;obtain⟨rfl,hn⟩:=hx;obtain⟨rfl,hm⟩:=hy;split at h
  ·have q:=iS (K:=fun lo hi=>Ob (0<=m) (∀z,lo<=z->z<=hi->HyX (lo=0->z=(n*2^m.toNat)%(hi+1))->K (.int k z))) h;refine⟨_,.int k (k.wrap (n*2^min m.toNat k.bits)),aZt q.h rfl,by simp only[Rep];exact⟨trivial,jM (bA k _).1 (bA k _).2⟩,q.t _ (bA k _).1 (bA k _).2 ⟨fun h0=>?_⟩⟩;rw[pB h0];rcases Nat.le_total m.toNat k.bits with hb|hb
   ·rw[Nat.min_eq_left hb]
   ·rw[Nat.min_eq_right hb];have e1:k.max+1=2^k.bits:=by
     revert h0
     cases k<;>decide
    obtain⟨j,hj⟩:∃j,m.toNat=k.bits+j:=⟨m.toNat - k.bits,by omega⟩;rw[e1,hj,Int.pow_add,<-Int.mul_assoc,Int.mul_emod_left,Int.mul_assoc,Int.mul_comm (2^k.bits),<-Int.mul_assoc,Int.mul_emod_left]
  ·have q:=iS (K:=fun lo hi=>lo<=n->n<=hi->Ob (0<=m) (∀z,lo<=z->z<=hi->(0<=n->0<=z/\z<=n)->(0<n->0<m->z<n)->HyX (0<=n->z=n / 2^m.toNat)->K (.int k z))) h (bU hn).1 (bU hn).2;have hp:(0:Int)<2^min m.toNat k.bits:=Int.pow_pos (by omega);have e:n.fdiv (2^min m.toNat k.bits)=n / (2^min m.toNat k.bits):=Int.fdiv_eq_ediv_of_nonneg _ (Int.le_of_lt hp);have k0:k.min<=0/\ -1<=k.max/\(0<=n\/k.min<= -1):=by
    have:=(bU hn).1;cases k<;>simp[IntKind.min,IntKind.max,IntKind.bits,IntKind.signed] at this ⊢ <;>omega
   have hr:k.min<=n / (2^min m.toNat k.bits)/\n / (2^min m.toNat k.bits)<=k.max/\(0<=n->0<=n / (2^min m.toNat k.bits)/\n / (2^min m.toNat k.bits)<=n):=by
    have w:=bU hn;rcases Int.le_total 0 n with h0|h0
    ·have a1:=Int.ediv_nonneg h0 (Int.le_of_lt hp);have a2:=Int.ediv_le_self (2^min m.toNat k.bits) h0;exact⟨by omega,by omega,fun _=>⟨a1,a2⟩⟩
    ·have a1:n<=n / (2^min m.toNat k.bits):=by
      have:=(Int.le_ediv_iff_mul_le (a:=n) (b:=n) hp).2 (by
       have:n*(2^min m.toNat k.bits)<=n*1:=Int.mul_le_mul_of_nonpos_left h0 (by omega);omega)
      exact this
     have a2:n / (2^min m.toNat k.bits)<=0:=by
      have:=Int.ediv_le_ediv hp h0;simpa using this
     have k1:0<=k.max:=by cases k<;>simp[IntKind.max,IntKind.bits,IntKind.signed]
     exact⟨by omega,by omega,fun h1=>by
      have:n=0:=by omega
      subst this;simp⟩
   have hs:0<n->0<m->n / (2^min m.toNat k.bits)<n:=fun a b=>by
    obtain⟨j,hj⟩:∃j,min m.toNat k.bits=j+1:=⟨min m.toNat k.bits - 1,by
     have:1<=k.bits:=by cases k<;>decide
     omega⟩
    rw[hj,Int.pow_succ];have p:(0:Int)<2^j:=Int.pow_pos (by omega);have p1:(2:Int)<=2^j*2:=by omega
    generalize (2:Int)^j*2=w at p1;have:=Int.mul_le_mul_of_nonneg_left p1 (Int.le_of_lt a);exact Int.ediv_lt_of_lt_mul (by omega) (by omega)
   exact⟨_,_,mN q.h e,by simp only[Rep];exact⟨trivial,jM hr.1 hr.2.1⟩,q.t _ hr.1 hr.2.1 hr.2.2 hs ⟨fun h0=>aZq h0 (bU hn).2⟩⟩
  ·cases e:kEq k k' with
   |true=>
    rw[e,QT] at h;have:=gG e;subst this;cases nb with
    |false=>exact aFn h hn hm
    |true=>
     rw[QT] at h;cases ec:bCb b with
     |true=>rw[ec] at h;exact aRx h
     |false=>rw[ec] at h;exact aFn h hn hm
   |false=>rw[e] at h;exact h.elim
 ·rename_i p q;simp only[Rep] at hx hy;subst hx;subst hy;split at h
  ·rename_i ti zb;split at h
   ·rename_i qw;obtain⟨w,hw,_,hs⟩:=(hT _ _ zb).und;rw[qw] at hs;simp only[dP] at hs;subst hs;split at h
    ·exact⟨_,.bool (p==q),aRd hw,by simp only[Rep],tB h⟩
    ·exact⟨_,.bool (!(p==q)),aOx hw,by simp only[Rep],tB h⟩
    ·exact h.elim
   ·exact h.elim
  ·exact h.elim
 ·rename_i s1 s2;simp only[Rep] at hx hy;obtain⟨rfl,mg⟩:=hx;obtain⟨rfl,xg⟩:=hy;split at h
  ·by_cases e:s1.data.toList.length=s2.data.toList.length
   ·have q:=h.t e;cases hb:(s1.data.toList==s2.data.toList) with
    |true=>exact⟨_,.bool true,by rw[yB,hb],by simp only[Rep],q.1 ⟨aDd (beq_iff_eq.1 hb)⟩⟩
    |false=>exact⟨_,.bool false,by rw[yB,hb],by simp only[Rep],q.2 ⟨fun e=>by subst e;rw[beq_self_eq_true] at hb;cases hb⟩⟩
   ·have hb:(s1.data.toList==s2.data.toList)=false:=by
     cases hb:(s1.data.toList==s2.data.toList) with
     |true=>rw[beq_iff_eq] at hb;rw[hb] at e;exact absurd rfl e
     |false=>rfl
    exact⟨_,.bool false,by rw[yB,hb],by simp only[Rep],h.f e⟩
  ·by_cases e:s1.data.toList.length=s2.data.toList.length
   ·have q:=h.t e;cases hb:(s1.data.toList !=s2.data.toList) with
    |true=>exact⟨_,.bool true,by rw[uG,hb],by simp only[Rep],q.1 ⟨fun e=>by subst e;simp at hb⟩⟩
    |false=>exact⟨_,.bool false,by rw[uG,hb],by simp only[Rep],q.2 ⟨aDd (by rwa [bne_eq_false_iff_eq] at hb)⟩⟩
   ·have hb:(s1.data.toList !=s2.data.toList)=true:=by
     cases hb:(s1.data.toList !=s2.data.toList) with
     |true=>rfl
     |false=>rw[bne_eq_false_iff_eq] at hb;rw[hb] at e;exact absurd rfl e
    exact⟨_,.bool true,by rw[uG,hb],by simp only[Rep],h.f e⟩
  ·refine⟨_,.bool (Op.bytesLess s1.data.toList s2.data.toList),rfl,by simp only[Rep],?_⟩;cases Op.bytesLess s1.data.toList s2.data.toList with
   |true=>exact h.1
   |false=>exact h.2
  ·refine⟨_,.bool (Op.bytesLess s1.data.toList s2.data.toList||s1.data.toList==s2.data.toList),rfl,by simp only[Rep],?_⟩;cases(Op.bytesLess s1.data.toList s2.data.toList||s1.data.toList==s2.data.toList) with
   |true=>exact h.1
   |false=>exact h.2
  ·refine⟨_,.bool (!(Op.bytesLess s1.data.toList s2.data.toList||s1.data.toList==s2.data.toList)),rfl,by simp only[Rep],?_⟩;cases(Op.bytesLess s1.data.toList s2.data.toList||s1.data.toList==s2.data.toList) with
   |true=>exact h.2
   |false=>exact h.1
  ·refine⟨_,.bool (!(Op.bytesLess s1.data.toList s2.data.toList)),rfl,by simp only[Rep],?_⟩;cases Op.bytesLess s1.data.toList s2.data.toList with
   |true=>exact h.2
   |false=>exact h.1
  ·refine⟨_,.str ⟨⟨s1.data.toList++s2.data.toList⟩⟩,aYf h.h rfl,?_,h.t _ (by simp) ⟨rfl⟩⟩;simp only[Rep];refine⟨trivial,?_⟩;have:=h.h;show(s1.data.toList++s2.data.toList).length<=maxLen;rw[List.length_append];exact this
  ·exact h.elim
 ·rename_i xs ys;simp only[Rep] at hx hy;obtain⟨us,rfl,hx⟩:=hx;obtain⟨vs,rfl,hy⟩:=hy;split at h
  ·rename_i a b ha hb;have e1:=aCu ha hx;have e2:=aCu hb hy;subst e1;subst e2;exact aTe hT ha hb h.h h.t
  ·exact h.elim
 ·simp only[Rep] at hx hy;obtain⟨N,_,rfl⟩:=hx;subst hy;split at h
  ·rename_i ti zb;obtain⟨w,hw,_,hs⟩:=(hT _ _ zb).und;split at h
   ·rename_i _ e qw;rw[qw] at hs;simp only[dP] at hs;subst hs;exact⟨.bool false,.bool false,by simp only[aS,hw];rfl,by simp only[Rep],h⟩
   ·rename_i _ e qw;rw[qw] at hs;simp only[dP] at hs;subst hs;exact⟨.bool true,.bool true,by simp only[aS,hw];rfl,by simp only[Rep],h⟩
   ·exact h.elim
  ·exact h.elim
 ·exact h.elim
theorem xC:∀{l:SL} {n:Nat} {s:SV},atS l n=some s->l[n]?=some s
 |x::r,0,s,h=>by simpa [atS] using h
 |x::r,n+1,s,h=>by simp only[atS] at h;simpa using xC h
 |[],_,_,h=>by simp[atS] at h
theorem aRw:∀{l:KL} {n:Nat} {s:Kd},atK l n=some s->l[n]?=some s
 |x::r,0,s,h=>by simpa [atK] using h
 |x::r,n+1,s,h=>by simp only[atK] at h;simpa using aRw h
 |[],_,_,h=>by simp[atK] at h
theorem oJ:∀{n:Nat} {l m:SL},sM n l=some m->m=l.take n/\n<=l.length
 |0,l,m,h=>by simp[sM] at h;subst h;simp
 |n+1,x::r,m,h=>by
  simp only[sM] at h;split at h
  ·rename_i q hq;cases h;have:=oJ hq;simp[this.1,this.2]
  ·cases h
 |n+1,[],m,h=>by simp[sM] at h
theorem sG:∀{n:Nat} {l m:SL},vN n l=some m->m=l.drop n/\n<=l.length
 |0,l,m,h=>by simp[vN] at h;subst h;simp
 |n+1,x::r,m,h=>by
  simp only[vN] at h;have:=sG h;simp[this.1,this.2]
 |n+1,[],m,h=>by simp[vN] at h
theorem aCn:∀{n:Nat} {l m:KL},aGt n l=some m->m=l.take n/\n<=l.length
 |0,l,m,h=>by simp[aGt] at h;subst h;simp
 |n+1,x::r,m,h=>by
  simp only[aGt] at h;split at h
  ·rename_i q hq;cases h;have:=aCn hq;simp[this.1,this.2]
  ·cases h
 |n+1,[],m,h=>by simp[aGt] at h
theorem dY:∀l:SL,iJ l=l.length
 |[]=>rfl
 |_::r=>by simp[iJ,dY r]
theorem pF:∀{l:SL} {o:Nat} {ys m:SL},rJ l o ys=some m->m=l.take o++(ys++l.drop (o+ys.length))/\o+ys.length<=l.length
 |r,0,[],m,h=>by
  cases r<;>(simp[rJ] at h;subst h;simp)
 |x::r,0,y::ys,m,h=>by
  simp only[rJ] at h;split at h
  ·rename_i q hq;cases h;have:=pF hq;simp at this ⊢;exact this
  ·cases h
 |x::r,n+1,ys,m,h=>by
  simp only[rJ] at h;split at h
  ·rename_i q hq;cases h;have:=pF hq;refine⟨?_,by simp;omega⟩;rw[this.1,show n+1+ys.length=n+ys.length+1 by omega];simp
  ·cases h
 |[],0,y::ys,m,h=>by simp[rJ] at h
 |[],n+1,ys,m,h=>by simp[rJ] at h
theorem sJ{c:SV}:∀m,iA m [c]=List.replicate m c
 |0=>rfl
 |m+1=>by simp only[iA,sJ m,List.replicate_succ,List.singleton_append]
theorem aSr{cs r:SL}{o m k:Nat}{c:SV}(h1:vN o cs=some (c::r))(h2:sM m (c::r)=some (iA m [c]))(hk:k<m):cs[o+k]?=some c:=by
 have a:=(sG h1).1;have b:=(oJ h2).1;have e:((cs.drop o).take m)[k]?=some c:=by rw[<-a,<-b,sJ,List.getElem?_replicate,if_pos hk]
 rw[List.getElem?_take_of_lt hk,List.getElem?_drop] at e;exact e
theorem Reps.spl{ss ys:SL}{us vs:VL}{o:Nat}(h:Reps ρ A H ss us)(k:Reps ρ A H ys vs):Reps ρ A H (ss.take o++(ys++ss.drop (o+ys.length))) (us.take o++(vs++us.drop (o+vs.length))):=by
 rw[k.len];exact h.take.app (k.app h.drop)
theorem tT(hT:dM E T){nb:Bool}{t:TY}{cs:SL}{vs:VL}{o:Nat}{K:SP}(h:qI T nb t cs o K)(hr:Reps ρ A H cs vs):
 ∃s v,K s/\Rep ρ A H s v/\∃dd,E.und t=some dd/\((dG dd=false/\vs[o]?=some v)\/(dG dd=true/\∃ii xs,E.inf t=some ii/\o+ii.size<=vs.length/\(vs.drop o).take ii.size=xs/\v=.agg ⟨xs⟩)):=by
 unfold qI at h;split at h
 ·rename_i ti zb;obtain⟨u,hu,yw,_⟩:=(hT _ _ zb).und;obtain⟨z,hi,_⟩:=(hT _ _ zb).inf;split at h
  ·rename_i ha;split at h
   ·rename_i cs' yb;have q0:=sG yb;split at h
    ·rename_i m hm;have q:=oJ hm;have hl:=hr.len;refine⟨_,.agg ⟨(vs.drop o).take ti.size⟩,cF h,?_,u,hu,.inr ⟨by rw[yw,ha],_,_,hi,?_,rfl,rfl⟩⟩
     ·simp only[Rep];refine⟨_,rfl,?_⟩;rw[q.1,q0.1];exact hr.drop.take
     ·have:=q.2;rw[q0.1,List.length_drop] at this;have:=q0.2;simp only;omega
    ·exact h.elim
   ·exact h.elim
  ·rename_i ha;split at h
   ·rename_i s hs;obtain⟨y,h1,h2⟩:=hr.at (xC hs);exact⟨s,y,(by cases nb with|true=>exact kS h|false=>exact tB h),h2,u,hu,.inl ⟨by rw[yw,ha],h1⟩⟩
   ·exact h.elim
 ·exact h.elim
end
end Go.AM
namespace Go.AM
open Go.RowKit
variable [σ:Sg]
variable [γ:Gam]
theorem aBo:∀{n:Nat} {l m:KL},aHv n l=some m->m=l.drop n/\n<=l.length
 |0,l,m,h=>by simp[aHv] at h;subst h;simp
 |n+1,x::r,m,h=>by
  simp only[aHv] at h;have:=aBo h;simp[this.1,this.2]
 |n+1,[],m,h=>by simp[aHv] at h
section
variable {P:PG}{E:Env P}{T:TTb}{ρ:RM}{A:NQ}{H:AH}
omit [γ:Gam] in
def CellsAt(E:Env P)(t:TY)(vs:VL)(o:Nat)(v:Value):Prop:=∃dd,E.und t=some dd/\((dG dd=false/\vs[o]?=some v)\/(dG dd=true/\∃ii xs,E.inf t=some ii/\o+ii.size<=vs.length/\(vs.drop o).take ii.size=xs/\v=.agg ⟨xs⟩))
theorem aXc(hT:dM E T){t:TY}{ks:KL}{c:CL}{xs:VL}{o:Nat}{K:SP}(h:wEl T t ks c o K)(hr:CellsA A H ks xs c):∃s v,K s/\Rep ρ A H s v/\CellsAt E t xs o v:=by
 have R:Reps ρ A H (bI ks c 0) xs:=hr.reps rfl;have hl:=hr.len.1;unfold wEl at h;split at h
 ·rename_i ti zb;obtain⟨u,hu,yw,_⟩:=(hT _ _ zb).und;obtain⟨z,hi,_⟩:=(hT _ _ zb).inf;split at h
  ·rename_i ha;split at h
   ·rename_i k1 ef;have q0:=aBo ef;split at h
    ·rename_i k2 sj;have q:=aCn sj;refine⟨_,.agg ⟨(xs.drop o).take ti.size⟩,sF h,?_,u,hu,.inr ⟨by rw[yw,ha],_,_,hi,?_,rfl,rfl⟩⟩
     ·simp only[Rep];refine⟨_,rfl,?_⟩;have:=R.drop (n:=o);have:=this.take (n:=ti.size);rw[uI,Nat.zero_add] at this;rw[q.1,q0.1];exact this
     ·have:=q.2;rw[q0.1,List.length_drop] at this;have:=q0.2;simp only;omega
    ·exact h.elim
   ·exact h.elim
  ·rename_i ha;split at h
   ·rename_i k hk;have:=oV (c:=c) (j:=0) (aRw hk);rw[Nat.zero_add] at this;obtain⟨y,h1,h2⟩:=R.at this;exact⟨_,y,tB (iH (K:=fun o=>aGp (kSV k c o) K) h),h2,u,hu,.inl ⟨by rw[yw,ha],h1⟩⟩
   ·exact h.elim
 ·exact h.elim
theorem CellsAt.data{S H0:AH}{A0:NQ}{L:OL}{t:TY}{xs:VL}{o m:Nat}{v:Value}{p:Addr}(h:CellsAt E t xs o v)(hp:InA A p.block)(hl:aloads H0 p m=some xs):dC E S H0 A0 A L t (p.add o) v:=by
 obtain⟨dd,hu,⟨ha,hv⟩|⟨ha,ii,ys,hi,qf,hy,rfl⟩⟩:=h
 ·have qe:=fW hl;have:=lt_of_getElem? hv;exact cQ hu ha (InA.add hp) ((aAx hl (by omega)).trans hv)
 ·have qe:=fW hl;subst hy;exact wX hu ha hi rfl (InA.add hp) (aIm hl (by omega))
theorem CellsAt.own{S H0:AH}{A0:NQ}{L:OL}{t:TY}{xs:VL}{o N sz:Nat}{ex:Bool}{v:Value}(h:CellsAt E t xs o v)(hm:(N,AObj.cells xs sz ex)∈L):dC E S H0 A0 A L t ⟨2*N+1,o,none⟩ v:=by
 obtain⟨dd,hu,⟨ha,hv⟩|⟨ha,ii,ys,hi,qf,hy,rfl⟩⟩:=h
 ·exact iR hu ha hm hv
 ·exact aBy hu ha hi rfl hm qf hy
theorem CellsAt.elem{t:TY}{cs:VL}{q m o:Nat}{v:Value}(h:CellsAt E t ((cs.drop q).take m) o v)(hl:q+m<=cs.length):CellsAt E t cs (q+o) v:=by
 obtain⟨dd,hu,⟨ha,hv⟩|⟨ha,ii,ys,hi,qf,hy,rfl⟩⟩:=h
 ·refine⟨dd,hu,.inl ⟨ha,?_⟩⟩;rw[List.getElem?_take] at hv;split at hv
  ·rwa [List.getElem?_drop] at hv
  ·cases hv
 ·refine⟨dd,hu,.inr ⟨ha,ii,_,hi,?_,rfl,?_⟩⟩
  ·simp only[List.length_take,List.length_drop] at qf;omega
  ·subst hy;simp only[List.length_take,List.length_drop] at qf;rw[List.drop_take,List.drop_drop,List.take_take,Nat.min_eq_left (by omega)]
end
section
variable {P:PG}{E:Env P}{T:TTb}{G:RG}{ri:RI}{i n d nx:Nat}{r:OL2}{Q:FQ}{t:Tr Value}{l:LV}{H0:AH}{A:NQ}{ρ:RM}{fs:FR}{hp:HP}{PS:PSs}{L0:OL}
 {ty:TY}{ps:String}{af:Array Edge}{gd:OB}{x y:Operand}
theorem RiOk.dl{K:Prop}(h:RiOk G ri PS L0 nx A H0)(k:wdl ri i K){ta:TY}{a:Addr}{v:Value}(hl:∀{S A0 L},dC E S H0 A0 A L ta a v):K/\(dC E G.S (qH G H0) G.A0 (qA G A) (qL G (flt PS++L0)) ta a v\/(fK (bef G.ops) G.ms i=true/\dC E G.S H0 G.A0 A (flt PS++L0) ta a v)):=by
 unfold wdl at k;rw[h.d,h.ops,h.ms] at k;cases hD:G.D with
 |false=>
  rw[hD,QF] at k;refine⟨k,.inl ?_⟩;unfold qH qA qL;rw[hD,QF,QF,QF];exact hl
 |true=>
  rw[hD,QT] at k;cases hg:ri.G with
  |false=>
   rw[hg,QF] at k;refine⟨k,.inl ?_⟩;obtain⟨e1,e2⟩:=h.gr hD hg;unfold qH qA qL;rw[hD,QT,QT,QT,<-e1,<-e2];exact hl
  |true=>
   rw[hg,QT] at k;exact⟨k.t,.inr ⟨k.h,hl⟩⟩
theorem RiOk.ld{K:Prop}{id:Nat}{X Y:PSs}{La:OL}{M:Nat}{ob:AObj}(h:RiOk G ri PS L0 nx A H0)(k:wld ri i id K)(qs:PS=X++(id,La)::Y)(hm:(M,ob)∈La){ta:TY}{a:Addr}{v:Value}(hl:∀{S H0 A0 A L},(M,ob)∈L->dC E S H0 A0 A L ta a v):
 K/\(dC E G.S (qH G H0) G.A0 (qA G A) (qL G (flt PS++L0)) ta a v\/(fK (bef G.ops) G.ms i=true/\dC E G.S H0 G.A0 A (flt PS++L0) ta a v)):=by
 have zu:(M,ob)∈flt PS++L0:=by
  rw[qs,bH];simp only[flt];exact List.mem_append_left _ (List.mem_append_right _ (List.mem_append_left _ hm))
 unfold wld at k;rw[h.d,h.ops,h.ms] at k;cases hD:G.D with
 |false=>
  rw[hD,QF] at k;refine⟨k,.inl ?_⟩;unfold qH qA qL;rw[hD,QF,QF,QF];exact hl zu
 |true=>
  rw[hD,QT] at k;cases hg:aM id ri.st with
  |true=>
   rw[hg,QT] at k;refine⟨k,.inl ?_⟩;unfold qH qA qL;rw[hD,QT,QT,QT,<-h.lw hD];refine hl ?_;rw[qs,iI];simp only[gE,hg,QT];exact List.mem_append_left _ (List.mem_append_right _ (List.mem_append_left _ hm))
  |false=>
   rw[hg,QF] at k;exact⟨k.t,.inr ⟨k.h,hl zu⟩⟩
theorem OwS.pos{b:Nat}{ks:KL}{r:LX}{x:Value}{La:OL}(h:OwS A H0 b ks r x La){j:Int}(h0:0<=j/\j<((r.length:Nat):Int)):∃M cs ex,x=.slice (some ⟨2*M+1,0,none⟩) r.length r.length/\La=[(M,.cells cs ks.length ex)]/\Typd A H0 ks r cs:=by
 obtain⟨o1,o2,⟨rfl,rfl,rfl⟩|h⟩:=h
 ·simp at h0;omega
 ·exact h
theorem mA{K:NQ}{j:Int}{n:Nat}(h:zG j n K):0<=j/\j<((n:Nat):Int)/\K j.toNat:=by
 unfold zG at h;split at h
 ·rename_i a;cases e:Nat.blt a n with
  |true=>
   rw[e,QT] at h;have:a<n:=QL e;refine⟨Int.natCast_nonneg _,by simp only[Int.ofNat_eq_natCast];omega,h⟩
  |false=>rw[e] at h;exact h.elim
 ·exact h.elim
theorem aTb(hT:dM E T)(hD:Den E ρ nx fs hp PS A H0 l)(hR:RiOk G ri PS L0 nx A H0){ta:TY}{s:SV}{u:Value}{K:SP}(h:aSf T ri i ta s hp K)(hx:Rep ρ A H0 s u):
 ∃s' v a,K s'/\Rep ρ A H0 s' v/\u=.pointer (some a)/\(dC E G.S (qH G H0) G.A0 (qA G A) (qL G (flt PS++L0)) ta a v\/(fK (bef G.ops) G.ms i=true/\dC E G.S H0 G.A0 A (flt PS++L0) ta a v)):=by
 unfold aSf at h;split at h
 ·rename_i g o;simp only[Rep] at hx;subst hx;split at h
  ·rename_i m' k F ti hb zb;obtain⟨w,hw,ha,hs⟩:=(hT _ _ zb).und;split at h
   ·rename_i k' qw;rw[qw] at hs;simp only[dP] at hs;subst hs;cases ek:kEq k k' with
    |false=>rw[ek] at h;exact h.elim
    |true=>
     rw[ek,QT] at h;have ho:=h.h;obtain⟨hg,hF⟩:=hR.tb.1.2 _ _ _ _ hb;obtain⟨z,hz,hr⟩:=hg o ho;have q:K (.int k z):=by
      have q:=iS h.t z hr.1 hr.2;cases F with
      |none=>exact q
      |some f=>
       have e:=hF f rfl o ho;rw[hz] at e;cases e;exact q rfl
     refine⟨.int k z,.int k z,_,q,by simp only[Rep];exact⟨trivial,jM hr.1 hr.2⟩,rfl,.inl fun H hH=>?_⟩;simp only[fA,hw,dG,QF,aload,show 2*g%2=0 by omega,show Nat.beq 0 0=true from rfl,QT,show 2*g / 2=g by omega,HS.w0' hH];rw[show(G.S.w0).cell? ⟨g,o,none⟩=some (.int k z) from hz];rfl
   ·exact h.elim
  ·exact h.elim
 ·rename_i id o;simp only[Rep] at hx;obtain⟨N,e1,rfl⟩:=hx;split at h
  ·rename_i bt cs hg;obtain⟨L,X,Y,qs,⟨N',vs,r1,r2,r3⟩,_⟩:=hD.hp.get hg;rw[e1] at r1;simp only[Option.some.injEq,Value.pointer.injEq,Addr.mk.injEq] at r1;have eN:N'=N:=by omega
   subst eN;subst r2
   -- the cells first
   have key:∀k:qI T ri.nb ta cs o K,∃s' v,K s'/\Rep ρ A H0 s' v/\CellsAt E ta vs o v:=fun k=>tT hT k r3;by_cases hk:qI T ri.nb ta cs o K
   ·obtain⟨s',v,k1,k2,k3⟩:=key hk;have:=hR.ld h qs (List.mem_cons_self ..) (fun hm=>k3.own hm);exact⟨s',v,_,k1,k2,rfl,this.2⟩
   ·exfalso;apply hk;unfold wld at h
    revert h
    cases ri.D<;>cases aM id ri.st<;>intro h<;>first|exact h|exact h.t
  ·exact h.elim
 ·rename_i id o m;simp only[Rep] at hx;obtain⟨N,k,e1,hk,rfl⟩:=hx;split at h
  ·rename_i bt cs ti hg zb;obtain⟨w,hw,ha,hs⟩:=(hT _ _ zb).und;split at h
   ·rename_i k' qw;rw[qw] at hs;simp only[dP] at hs;subst hs;split at h
    ·rename_i lo hi rr hd;cases ek:kEq .i64 k' with
     |false=>rw[ek] at h;exact h.elim
     |true=>
      rw[ek,QT] at h;obtain⟨L,X,Y,qs,⟨N',vs,r1,r2,r3⟩,_⟩:=hD.hp.get hg;rw[e1] at r1;simp only[Option.some.injEq,Value.pointer.injEq,Addr.mk.injEq] at r1;have eN:N'=N:=by omega
      subst eN;subst r2;obtain⟨v,v1,v2⟩:=r3.at (aSr hd h.h hk);simp only[Rep] at v2;obtain⟨z,rfl,z1,z2,z3⟩:=v2;have zz:=bU z1;have hq:∀z:Int,lo<=z->z<=hi-> -9223372036854775808<=z->z<=9223372036854775807->K (.int .i64 z):=by
       have h:=h.t;unfold wld at h
       revert h
       cases ri.D<;>cases aM id ri.st<;>intro h<;>first|exact h|exact h.t
      have ca:CellsAt E ta vs (o+k) (.int .i64 z):=⟨_,hw,.inl ⟨rfl,v1⟩⟩;have:=hR.ld h.t qs (List.mem_cons_self ..) (fun hm=>ca.own hm);exact⟨_,.int .i64 z,_,hq z z2 z3 (by simpa [IntKind.min,IntKind.bits,IntKind.signed] using zz.1) (by simpa [IntKind.max,IntKind.bits,IntKind.signed] using zz.2),by simp only[Rep];exact⟨trivial,z1⟩,rfl,this.2⟩
    ·exact h.elim
   ·exact h.elim
  ·exact h.elim
 ·rename_i ks c o;simp only[Rep] at hx;obtain⟨p,xs,rfl,r1,r2,r3⟩:=hx;have hk:wEl T ta ks c o K:=by
   unfold wdl at h
   revert h
   cases ri.D<;>cases ri.G<;>intro h<;>first|exact h|exact h.t
  obtain⟨s',v,k1,k2,k3⟩:=aXc (ρ:=ρ) hT hk r3;have:=hR.dl h (fun {S A0 L}=>k3.data (L:=L) r1 r2);exact⟨s',v,_,k1,k2,rfl,this.2⟩
 ·rename_i id j o m;simp only[Rep] at hx;obtain⟨M,ln,cp,e1,rfl⟩:=hx;split at h
  ·rename_i b ks r hg;cases em:Nat.beq m ks.length with
   |false=>rw[em] at h;exact h.elim
   |true=>
    rw[em,QT] at h;have em:=QN em;subst em;obtain⟨L,X,Y,qs,⟨x',r1,r2⟩,_⟩:=hD.hp.get hg;have hk:Ob (0<=j/\j<((r.length:Nat):Int)) (∀c,elC r j=c->wEl T ta ks c o K):=by
     have h':=h;unfold wld at h'
     revert h'
     cases ri.D<;>cases aM id ri.st<;>intro h'<;>first|exact h'|exact h'.t
    obtain⟨M',cs,ex,q1,q2,q3⟩:=r2.pos hk.h;rw[e1] at r1;rw[q1] at r1;simp only[Option.some.injEq,Value.slice.injEq,Addr.mk.injEq] at r1;have eM:M'=M:=by omega
    subst eM;subst q2;obtain⟨g1,g2⟩:=q3.el j hk.h.1 hk.h.2;obtain⟨s',v,k1,k2,k3⟩:=aXc (ρ:=ρ) hT (hk.t _ rfl) g2;have k4:=k3.elem g1;have:=hR.ld h qs (List.mem_cons_self ..) (fun hm=>k4.own hm);exact⟨s',v,_,k1,k2,rfl,this.2⟩
  ·rename_i b ks r j' id2 hg;split at h
   ·rename_i ti zb;obtain⟨w,hw,ha,hs⟩:=(hT _ _ zb).und;cases ea:ti.agg with
    |true=>rw[ea] at h;exact h.elim
    |false=>
     rw[ea,QF] at h;cases em:Nat.beq m 1 with
     |false=>rw[em] at h;exact h.elim
     |true=>
      rw[em,QT] at h;cases eo:Nat.beq o 0 with
      |false=>rw[eo] at h;exact h.elim
      |true=>
       rw[eo,QT] at h;have em:=QN em;have eo:=QN eo;subst em;subst eo;obtain⟨L,X,Y,qs,⟨x',y,r1,r2,o1,o2,o3,o4,o5,o6,M',cs,ex,q1,q2,q3⟩,_⟩:=hD.hp.get hg;have hk:Ob (j=j') (K (.ow id2)):=by
        have h':=h;unfold wld at h'
        revert h'
        cases ri.D<;>cases aM id ri.st<;>intro h'<;>first|exact h'|exact h'.t
       have ej:=hk.h;subst ej;rw[e1] at r1;rw[q1] at r1;simp only[Option.some.injEq,Value.slice.injEq,Addr.mk.injEq] at r1;have eM:M'=M:=by omega
       subst eM;subst q2;have qj:j.toNat*ks.length+0<=cs.length:=by rw[q3.1,o5];omega
       have ca:CellsAt E ta (cs.take (j.toNat*ks.length+0)++([y]++cs.drop (j.toNat*ks.length+0+[y].length))) (j.toNat*1+0) y:=by
        refine⟨_,hw,.inl ⟨by rw[ha,ea],?_⟩⟩;rw[List.getElem?_append_right (by rw[List.length_take,o5];omega)];have e0:j.toNat*1+0 - (cs.take (j.toNat*ks.length+0)).length=0:=by rw[List.length_take];rw[o5] at qj ⊢;omega
        rw[e0];rfl
       have:=hR.ld h qs (List.mem_cons_self ..) (fun hm=>ca.own hm);exact⟨.ow id2,y,_,hk.t,by simp only[Rep];exact r2,rfl,this.2⟩
   ·exact h.elim
  ·rename_i cs hg;split at h
   ·rename_i ti zb;obtain⟨w,hw,ha,hs⟩:=(hT _ _ zb).und;cases ea:ti.agg with
    |true=>rw[ea] at h;exact h.elim
    |false=>
     rw[ea,QF] at h;cases em:Nat.beq m 1 with
     |false=>rw[em] at h;exact h.elim
     |true=>
      rw[em,QT] at h;cases eo:Nat.beq o 0 with
      |false=>rw[eo] at h;exact h.elim
      |true=>
       rw[eo,QT] at h;have em:=QN em;have eo:=QN eo;subst em;subst eo;obtain⟨L,X,Y,qs,⟨M',vs,ex,q1,q2,q3⟩,_⟩:=hD.hp.get hg
       have hk:zG j (iJ cs) fun a=>(match atS cs a with
        |some v=>K v
        |none=>False):=by
        have h':=h;unfold wld at h'
        revert h'
        cases ri.D<;>cases aM id ri.st<;>intro h'<;>first|exact h'|exact h'.t
       obtain⟨_,_,hk⟩:=mA hk;split at hk
       ·rename_i v hv;obtain⟨y,y1,y2⟩:=q3.at (xC hv);rw[e1] at q1;simp only[Option.some.injEq,Value.slice.injEq,Addr.mk.injEq] at q1;have eM:M'=M:=by omega
        subst eM;subst q2;have ca:CellsAt E ta vs (j.toNat*1+0) y:=⟨_,hw,.inl ⟨by rw[ha,ea],by rw[Nat.mul_one,Nat.add_zero];exact y1⟩⟩;have:=hR.ld h qs (List.mem_cons_self ..) (fun hm=>ca.own hm);exact⟨v,y,_,hk,y2,rfl,this.2⟩
       ·exact hk.elim
   ·exact h.elim
  ·exact h.elim
 ·exact h.elim
theorem aTt{a:Addr}{ta:TY}{L:OL}{v:Value}(hw:gok G.ops l gd=true)(qd:Nat.ble (d+1) n=true)(hx:opv l x=some (.pointer (some a)))(hl:dC E G.S (qH G H0) G.A0 (qA G A) (qL G L) ta a v\/(fK (bef G.ops) G.ms i=true/\dC E G.S H0 G.A0 A L ta a v))(h:SO E G (i+1) r Q (fr n t ((d,v)::l)) H0 A L):
 SO E G i (⟨some d,.load ta x,ty,ps,af,gd⟩::r) Q (fr n t l) H0 A L:=by
 rcases hl with hl|⟨ho,hl⟩
 ·exact eK hw qd hx hl h
 ·exact aSm hw qd hx ho hl h
theorem aOb(hT:dM E T){ta:TY}{s:SV}{u:Value}{f:Nat}{K:SP}(h:aGu T ta s f K)(hx:Rep ρ A H0 s u):∃s' v,K s'/\Rep ρ A H0 s' v/\fU E ta u f=some v:=by
 unfold aGu at h;split at h
 ·rename_i ti zb;split at h
  ·rename_i fs' qw;obtain⟨w,hw,_,hs⟩:=(hT _ _ zb).und;rw[qw] at hs;obtain⟨F,rfl,_,hF⟩:=hs;split at h
   ·rename_i o' ft sz hf;obtain⟨fd,ii,f1,f2,f3,f4,f5⟩:=hF _ _ _ _ hf;have key:∀{a:Addr},fU E ta (.pointer (some a)) f=some (.pointer (some (a.add o'))):=by
     intro a;simp only[fU,hw,f1,f3,f4,f5,QF,f2]
    split at h
    ·rename_i id o;simp only[Rep] at hx;obtain⟨N,e1,rfl⟩:=hx;exact⟨_,_,h,by simp only[Rep];exact⟨N,e1,rfl⟩,by rw[key,gH]⟩
    ·rename_i ks c o;simp only[Rep] at hx;obtain⟨p,xs,rfl,r1,r2,r3⟩:=hx;exact⟨_,_,h,by simp only[Rep];exact⟨p,xs,rfl,r1,r2,r3⟩,by rw[key,rQ]⟩
    ·rename_i id j o m;simp only[Rep] at hx;obtain⟨M,ln,cp,e1,rfl⟩:=hx;exact⟨_,_,h,by simp only[Rep];exact⟨M,ln,cp,e1,rfl⟩,by rw[key,gH,Nat.add_assoc]⟩
    ·exact h.elim
   ·exact h.elim
  ·exact h.elim
 ·exact h.elim
theorem eH{kk:IntKind}{j:Int}{m:Nat}(h0:0<=j)(h1:j<((m:Nat):Int)):lM (.int kk j) m=some j.toNat:=by
 simp only[lM];rw[if_pos ⟨h0,h1⟩]
theorem rU{K:NQ}:∀{n a:Nat} {j:Int},aJw n a j K->((a:Nat):Int)<=j->j<((a+n:Nat):Int)->K j.toNat
 |0,a,j,_,h1,h2=>by omega
 |n+1,a,j,h,h1,h2=>by
  by_cases e:j=((a:Nat):Int)
  ·have:=h.1 e
   rwa [show a=j.toNat by omega] at this
  ·exact rU h.2 (by omega) (by omega)
theorem aIn(hT:dM E T)(hD:Den E ρ nx fs hp PS A H0 l){ta:TY}{s s2:SV}{u u2:Value}{lit:Bool}{K:SP}(h:aCd T ta s s2 hp lit K)(hx:Rep ρ A H0 s u)(hy:Rep ρ A H0 s2 u2):∃s' v,K s'/\Rep ρ A H0 s' v/\bE E ta u u2=some v:=by
 unfold aCd at h;split at h
 ·rename_i kk j;simp only[Rep] at hy;obtain⟨rfl,hj⟩:=hy
  replace h:=iS h (bU hj).1 (bU hj).2
  split at h
  ·rename_i ti zb;obtain⟨w,hw,_,hs⟩:=(hT _ _ zb).und;split at h
   ·-- a row of data
    rename_i b ks r;split at h
    ·rename_i e qw;rw[qw] at hs;simp only[dP] at hs;subst hs;split at h
     ·rename_i te z9;obtain⟨z,hi,_⟩:=(hT _ _ z9).inf;cases es:Nat.beq te.size ks.length with
      |false=>rw[es] at h;exact h.elim
      |true=>
       rw[es,QT] at h;have es:=QN es;simp only[Rep] at hx;obtain⟨r',a,cap,er,rfl,rx⟩:=hx.rowD;cases er;have q:=h rx.len;obtain⟨p,xs,e1,ix,lx,kx⟩:=rx.el j q.h.1 q.h.2;subst e1;refine⟨_,.pointer (some ((p.add (j.toNat*ks.length)).add 0)),q.t _ rfl,?_,?_⟩
       ·simp only[Rep];exact⟨_,_,rfl,ix,lx,kx⟩
       ·simp only[bE,hw,hi,eH q.h.1 q.h.2,es,rQ,Nat.add_zero]
     ·exact h.elim
    ·exact h.elim
   ·-- an own row
    rename_i id;split at h
    ·rename_i b ks r hg;split at h
     ·rename_i e qw;rw[qw] at hs;simp only[dP] at hs;subst hs;split at h
      ·rename_i te z9;obtain⟨z,hi,_⟩:=(hT _ _ z9).inf;cases es:Nat.beq te.size ks.length with
       |false=>rw[es] at h;exact h.elim
       |true=>
        rw[es,QT] at h;obtain⟨L,X,Y,qs,⟨x',r1,r2⟩,_⟩:=hD.hp.get hg;have q:=h r2.1;obtain⟨M,cs,ex,q1,q2,q3⟩:=r2.pos q.h;simp only[Rep] at hx;rw[r1] at hx;cases hx;subst q1;refine⟨_,.pointer (some ⟨2*M+1,j.toNat*te.size+0,none⟩),q.t,?_,?_⟩
        ·simp only[Rep];exact⟨M,_,_,r1,rfl⟩
        ·simp only[bE,hw,hi,eH q.h.1 q.h.2,gH,Nat.zero_add,Nat.add_zero]
      ·exact h.elim
     ·exact h.elim
    ·rename_i b ks r j' id2 hg;split at h
     ·rename_i e qw;rw[qw] at hs;simp only[dP] at hs;subst hs;split at h
      ·rename_i te z9;obtain⟨z,hi,_⟩:=(hT _ _ z9).inf;cases es:Nat.beq te.size 1 with
       |false=>rw[es] at h;exact h.elim
       |true=>
        rw[es,QT] at h;have es:=QN es;obtain⟨L,X,Y,qs,⟨x',y,r1,r2,o1,o2,o3,o4,o5,o6,M',cs,ex,q1,q2,q3⟩,_⟩:=hD.hp.get hg;simp only[Rep] at hx;rw[r1] at hx;cases hx;subst q1;refine⟨_,.pointer (some ⟨2*M'+1,j.toNat*te.size+0,none⟩),h.t,?_,?_⟩
        ·simp only[Rep];exact⟨M',_,_,r1,by rw[es]⟩
        ·simp only[bE,hw,hi,eH h.h.1 h.h.2,gH,Nat.zero_add,Nat.add_zero]
      ·exact h.elim
     ·exact h.elim
    ·rename_i cs hg;split at h
     ·rename_i e qw;rw[qw] at hs;simp only[dP] at hs;subst hs;split at h
      ·rename_i te z9;obtain⟨z,hi,_⟩:=(hT _ _ z9).inf;cases es:Nat.beq te.size 1 with
       |false=>rw[es] at h;exact h.elim
       |true=>
        rw[es,QT] at h;have es:=QN es;obtain⟨L,X,Y,qs,⟨M',vs,ex,q1,q2,q3⟩,_⟩:=hD.hp.get hg;obtain⟨h0,h1,hk⟩:=mA h;rw[dY,<-q3.len] at h1;simp only[Rep] at hx;rw[q1] at hx;cases hx;refine⟨_,.pointer (some ⟨2*M'+1,j.toNat*te.size+0,none⟩),hk,?_,?_⟩
        ·simp only[Rep];exact⟨M',_,_,q1,by rw[es];rfl⟩
        ·simp only[bE,hw,hi,eH h0 h1,gH,Nat.zero_add,Nat.add_zero]
      ·exact h.elim
     ·exact h.elim
    ·exact h.elim
   ·-- an array in a variable
    rename_i id o;split at h
    ·rename_i m e qw;rw[qw] at hs;simp only[dP] at hs;subst hs;split at h
     ·rename_i te z9;obtain⟨z,hi,_⟩:=(hT _ _ z9).inf;simp only[Rep] at hx;obtain⟨N,e1,rfl⟩:=hx
      have fin:(0<=j/\j<((m:Nat):Int)/\K (.ptr id (o+j.toNat*te.size)))->∃s' v,K s'/\Rep ρ A H0 s' v/\bE E ta (.pointer (some ⟨2*N+1,o,none⟩)) (.int kk j)=some v:=fun key=>
       ⟨_,.pointer (some ⟨2*N+1,o+j.toNat*te.size,none⟩),key.2.2,by simp only[Rep];exact⟨N,e1,rfl⟩,by simp only[bE,hw,hi,eH key.1 key.2.1,gH]⟩
      split at h
      ·exact fin (mA (K:=fun a=>K (.ptr id (o+a*te.size))) h)
      ·rcases h.h with h|h
       rotate_left
       ·exact fin (mA (K:=fun a=>K (.ptr id (o+a*te.size))) h)
       cases e16:Nat.blt 16 m with
       |true=>
        rw[e16,QT] at h;cases es:Nat.beq te.size 1 with
        |false=>rw[es] at h;exact h.elim
        |true=>
         rw[es,QT] at h;have es:=QN es;refine⟨_,.pointer (some ⟨2*N+1,o+j.toNat*te.size,none⟩),h.t,?_,by simp only[bE,hw,hi,eH h.h.1 h.h.2,gH]⟩;simp only[Rep];exact⟨N,j.toNat,e1,by have:=h.h;omega,by rw[es,Nat.mul_one]⟩
       |false=>
        rw[e16,QF] at h;exact fin ⟨h.h.1,h.h.2,rU (K:=fun a=>K (.ptr id (o+a*te.size))) h.t (by have:=h.h;omega) (by have:=h.h;omega)⟩
     ·exact h.elim
    ·exact h.elim
   ·rename_i id jj o mm;split at h
    ·rename_i m e qw;rw[qw] at hs;simp only[dP] at hs;subst hs;split at h
     ·rename_i te z9;obtain⟨z,hi,_⟩:=(hT _ _ z9).inf;simp only[Rep] at hx;obtain⟨M,nn,cc,e1,rfl⟩:=hx;have key:0<=j/\j<((m:Nat):Int)/\K (.op id jj (o+j.toNat*te.size) mm):=by
       split at h
       ·exact mA (K:=fun a=>K (.op id jj (o+a*te.size) mm)) h
       ·exact⟨h.h.1,h.h.2,rU (K:=fun a=>K (.op id jj (o+a*te.size) mm)) h.t (by have:=h.h;omega) (by have:=h.h;omega)⟩
      exact⟨_,.pointer (some ⟨2*M+1,jj.toNat*mm+o+j.toNat*te.size,none⟩),key.2.2,by simp only[Rep];exact⟨M,nn,cc,e1,by rw[Nat.add_assoc]⟩,by simp only[bE,hw,hi,eH key.1 key.2.1,gH]⟩
     ·exact h.elim
    ·exact h.elim
   ·rename_i ks c o;split at h
    ·rename_i m e qw;rw[qw] at hs;simp only[dP] at hs;subst hs;split at h
     ·rename_i te z9;obtain⟨z,hi,_⟩:=(hT _ _ z9).inf;simp only[Rep] at hx;obtain⟨p,xs,rfl,q1,q2,q3⟩:=hx;have key:0<=j/\j<((m:Nat):Int)/\K (.el ks c (o+j.toNat*te.size)):=by
       split at h
       ·exact mA (K:=fun a=>K (.el ks c (o+a*te.size))) h
       ·exact⟨h.h.1,h.h.2,rU (K:=fun a=>K (.el ks c (o+a*te.size))) h.t (by have:=h.h;omega) (by have:=h.h;omega)⟩
      exact⟨_,.pointer (some (p.add (o+j.toNat*te.size))),key.2.2,by simp only[Rep];exact⟨p,xs,rfl,q1,q2,q3⟩,by simp only[bE,hw,hi,eH key.1 key.2.1,rQ]⟩
     ·exact h.elim
    ·exact h.elim
   ·exact h.elim
  ·exact h.elim
 ·exact h.elim
end
end Go.AM
namespace Go.AM
open Go.RowKit
variable [σ:Sg]
theorem tM(v:Value):(ext v).cells.toList=extL v.cells.toList:=by
 cases v with
 |agg cs=>cases cs with|mk l=>simp[ext,Value.cells]
 |pointer a=>cases a<;>simp[ext,Value.cells,extL]
 |slice a l c=>cases a<;>simp[ext,Value.cells,extL]
 |map a=>cases a<;>simp[ext,Value.cells,extL]
 |chan a=>cases a<;>simp[ext,Value.cells,extL]
 |_=>simp[ext,Value.cells,extL]
section
variable {P:PG}{E:Env P}{T:TTb}{ρ:RM}{A:NQ}{H:AH}
def isK(k:Kd)(s:SV):Prop:=match k with
 |.int k=>∃n,s=.int k n
 |.bool=>∃b,s=.bool b
 |.str=>∃b,s=.str b
 |.row b ks=>∃l,s=.row b ks l
theorem aJr{k:Kd}{s:SV}{v:Value}{K:SP}(h:coK k s K)(hr:Rep ρ A H s v):∃s',K s'/\isK k s'/\Rep ρ A H s' v/\CellA A H k v (cSV s'):=by
 unfold coK at h;split at h
 ·rename_i k k' n;cases e:kEq k k' with
  |false=>rw[e] at h;exact h.elim
  |true=>
   rw[e,QT] at h;have:=gG e;subst this;refine⟨_,h,⟨n,rfl⟩,hr,?_⟩;simp only[Rep] at hr;obtain⟨rfl,hn⟩:=hr;exact .mkI hn
 ·rename_i b;refine⟨_,h,⟨b,rfl⟩,hr,?_⟩;simp only[Rep] at hr;subst hr;exact .mkB
 ·rename_i b;refine⟨_,h,⟨b,rfl⟩,hr,?_⟩;simp only[Rep] at hr;obtain⟨rfl,hb⟩:=hr;exact .mkS hb
 ·rename_i b ks;simp only[Rep] at hr;subst hr;exact⟨_,h,⟨_,rfl⟩,by simp only[Rep];exact vV,vV⟩
 ·rename_i b ks b' ks' r;cases e1:Nat.beq b b' with
  |false=>rw[e1] at h;exact h.elim
  |true=>
   rw[e1,QT] at h;cases e2:kdsEq ks ks' with
   |false=>rw[e2] at h;exact h.elim
   |true=>
    rw[e2,QT] at h;have e1:=QN e1;have e2:=kdsEq_ok e2;subst e1;subst e2;exact⟨_,h,⟨_,rfl⟩,hr,by simp only[Rep] at hr;exact hr⟩
 ·exact h.elim
inductive AreK:KL->List SV->Prop
 |nil:AreK [] []
 |cons {k:Kd} {s:SV} {ks:KL} {ss:SL} (h:isK k s) (t:AreK ks ss):AreK (k::ks) (s::ss)
theorem oH:∀{ks:KL} {ss:SL} {vs:VL} {K:SL->Prop},rK ks ss K->Reps ρ A H ss vs->∃ss',K ss'/\ss'=bI ks (ss'.map cSV) 0/\Reps ρ A H ss' vs/\CellsA A H ks vs (ss'.map cSV):=by
 intro ks;have gen:∀(ks:KL) (ss:SL) (vs:VL) (K:SL->Prop),rK ks ss K->Reps ρ A H ss vs->∃ss',K ss'/\AreK ks ss'/\Reps ρ A H ss' vs/\CellsA A H ks vs (ss'.map cSV):=by
  intro ks
  induction ks with
  |nil=>
   intro ss vs K h hr;cases ss with
   |nil=>
    cases vs with
    |nil=>exact⟨[],h,.nil,by simp only[Reps],by simp[CellsA]⟩
    |cons _ _=>simp only[Reps] at hr
   |cons _ _=>simp only[aEn,aRv,aVf,aBh] at h
  |cons k ks ih=>
   intro ss vs K h hr;cases ss with
   |nil=>simp only[aEn,aRv,aVf,aBh] at h
   |cons s ss=>
    cases vs with
    |nil=>simp only[Reps] at hr
    |cons v vs=>
     simp only[Reps] at hr;simp only[aEn,aRv,aVf,aBh] at h;obtain⟨s',h1,h2,h3,h4⟩:=aJr h hr.1;obtain⟨ss',q1,q2,q3,q4⟩:=ih ss vs _ h1 hr.2;exact⟨s'::ss',q1,.cons h2 q2,by simp only[Reps];exact⟨h3,q3⟩,by simp only[List.map_cons,CellsA];exact⟨h4,q4⟩⟩
 have form:∀(ks:KL) (ss pre:SL),AreK ks ss->ss=bI ks ((pre++ss).map cSV) pre.length:=by
  intro ks
  induction ks with
  |nil=>intro ss pre h;cases h;rfl
  |cons k ks ih=>
   intro ss pre h;cases h with
   | @cons _ s _ r h1 h2=>
     have i:=ih r (pre++[s]) h2;simp only[QA,List.singleton_append,List.length_append,List.length_cons,List.length_nil,Nat.zero_add] at i;simp only[bI];rw[<-i];congr 1;have hc:((pre++s::r).map cSV)[pre.length]?=some (cSV s):=by simp
     cases k with
     |int k=>obtain⟨n,rfl⟩:=h1;simp only[kSV,cI,cV,hc,cSV]
     |bool=>obtain⟨n,rfl⟩:=h1;simp only[kSV,cB,cV,hc,cSV]
     |str=>obtain⟨n,rfl⟩:=h1;simp only[kSV,cS,cV,hc,cSV]
     |row b ks=>obtain⟨n,rfl⟩:=h1;simp only[kSV,cR,hc,cSV]
 intro ss vs K h hr;obtain⟨ss',h1,h2,h3,h4⟩:=gen ks ss vs K h hr;exact⟨ss',h1,form ks ss' [] h2,h3,h4⟩
mutual
theorem aXl{i b:Nat}{ks:KL}{r:LX}{x:Value}(hx:ρ i=some x)(hc:CellA A H (.row b ks) x (.row r)):∀{s:SV} {v:Value},Rep ρ A H s v->Rep ρ A H (sbS i b ks r s) v
 |.ow j,v,h=>by
  simp only[sbS];cases e:Nat.beq j i with
  |false=>exact h
  |true=>
   have:=QN e;subst this;simp only[Rep] at h;rw[hx] at h;cases h;simp only[QT,Rep];exact hc
 |.agg l,v,h=>by simp only[Rep,sbS] at h ⊢;obtain⟨vs,h1,h2⟩:=h;exact⟨vs,h1,sbL_ok hx hc h2⟩
 |.tup l,v,h=>by simp only[Rep,sbS] at h ⊢;obtain⟨vs,h1,h2⟩:=h;exact⟨vs,h1,sbL_ok hx hc h2⟩
 |.fn g l,v,h=>by simp only[Rep,sbS] at h ⊢;obtain⟨vs,h1,h2⟩:=h;exact⟨vs,h1,sbL_ok hx hc h2⟩
 |.undef,v,h=>h
 |.int _ _,v,h=>h
 |.bool _,v,h=>h
 |.str _,v,h=>h
 |.nil,v,h=>h
 |.pnil,v,h=>h
 |.row _ _ _,v,h=>h
 |.el _ _ _,v,h=>h
 |.ptr _ _,v,h=>h
 |.op _ _ _ _,v,h=>h
 |.gp _ _,v,h=>h
 |.rng _ _,v,h=>h
 |.any,v,h=>h
 |.yl _,v,h=>h
 |.xp _ _ _,v,h=>h
theorem sbL_ok{i b:Nat}{ks:KL}{r:LX}{x:Value}(hx:ρ i=some x)(hc:CellA A H (.row b ks) x (.row r)):∀{s:SL} {v:VL},Reps ρ A H s v->Reps ρ A H (sbL i b ks r s) v
 |[],[],h=>by simp only[sbL,Reps]
 |s::t,v::vs,h=>by simp only[sbL,Reps] at h ⊢;exact⟨aXl hx hc h.1,sbL_ok hx hc h.2⟩
 |[],_::_,h=>by simp only[Reps] at h
 |_::_,[],h=>by simp only[Reps] at h
end
theorem aDr{i b:Nat}{ks:KL}{r:LX}{x:Value}(hx:ρ i=some x)(hc:CellA A H (.row b ks) x (.row r)):∀{fr:FR} {l:LV} {K:FR->Prop},sbF i b ks r fr K->RepF ρ A H fr l->∃fr',K fr'/\RepF ρ A H fr' l
 |[],l,K,h,hr=>⟨[],h,hr⟩
 |(j,s)::q,l,K,h,⟨v,l',h1,h2,h3⟩=>by
  simp only[bFp] at h;obtain⟨fr',q1,q2⟩:=aDr hx hc (kS h) h3;exact⟨_,q1,v,l',h1,aXl hx hc h2,q2⟩
theorem qG{i b:Nat}{ks:KL}{r:LX}{x:Value}(hx:ρ i=some x)(hc:CellA A H (.row b ks) x (.row r)):∀{hp:HP} {PS:PSs} {K:HP->Prop},sbH i b ks r hp K->RepH E ρ A H hp PS->∃qc,K qc/\RepH E ρ A H qc PS
 |[],PS,K,h,hr=>⟨[],h,hr⟩
 |(j,.box t cs)::q,PS,K,h,⟨L,PS',h1,⟨N,vs,k1,k2,k3⟩,h3⟩=>by
  simp only[bFv] at h;obtain⟨qc,q1,q2⟩:=qG hx hc (cF h) h3;exact⟨_,q1,L,PS',h1,⟨N,vs,k1,k2,sbL_ok hx hc k3⟩,q2⟩
 |(j,.row b' ks' l')::q,PS,K,h,⟨L,PS',h1,h2,h3⟩=>by
  simp only[bFs] at h;obtain⟨qc,q1,q2⟩:=qG hx hc h h3;exact⟨_,q1,L,PS',h1,h2,q2⟩
 |(j,.oth o)::q,PS,K,h,⟨L,PS',h1,h2,h3⟩=>by
  cases o with
  |vals us cs=>
   rw[aUe] at h;obtain⟨qc,q1,q2⟩:=qG hx hc (cF h) h3;obtain⟨x',e1,e2,e3⟩:=h2;exact⟨_,q1,L,PS',h1,⟨x',e1,e2,sbL_ok hx hc e3⟩,q2⟩
  |_=>
   rw[bBg (fun us cs e=>by cases e)] at h;obtain⟨qc,q1,q2⟩:=qG hx hc h h3;exact⟨_,q1,L,PS',h1,h2,q2⟩
theorem aBr{zs:SL}{us:VL}(h:Reps ρ A H zs us):∀n,Reps ρ A H (iA n zs) (List.replicate n us).flatten
 |0=>by simp[iA,Reps]
 |n+1=>by simp only[iA,List.replicate_succ,List.flatten_cons];exact h.app (aBr h n)
theorem sK(hρ:∀i v,ρ i=some v->v.oneCell'=true){place:Nat->Option (Nat×Nat)}:∀{parts:List (Nat×SV)} {vs:LV} {cells out:SL} {us:VL},aEd place cells parts=some out->Reps ρ A H cells us->RepF ρ A H parts vs->∃os,pS place us vs=some os/\Reps ρ A H out os
 |[],vs,cells,out,us,h,hr,hp=>by
  simp only[aEd,Option.some.injEq] at h;subst h;cases hp;exact⟨us,rfl,hr⟩
 |(i,s)::rest,vs,cells,out,us,h,hr,⟨v,l',h1,h2,h3⟩=>by
  subst h1;simp only[aEd] at h;simp only[pS];split at h
  ·cases h
  ·rename_i off size rb;split at h
   ·cases h
   ·rename_i l hl;cases e:Nat.beq (iJ l) size with
    |false=>rw[e] at h;cases h
    |true=>
     rw[e,QT] at h;split at h
     ·cases h
     ·rename_i c2 x7;have q:=pF x7;have r1:=(Rep.one hρ h2 hl).1;have r2:=r1.len;have r3:=hr.len;have e1:=QN e;rw[dY] at e1;have c1:(Nat.beq v.cells.toList.length size&&Nat.ble (off+v.cells.toList.length) us.length)=true:=by
       rw[r2,r3,e1,Nat.beq_refl,Bool.true_and];exact Nat.ble_eq_true_of_le (by omega)
      have c2':Reps ρ A H c2 (splice us off v.cells.toList):=by
       rw[q.1];unfold splice;exact hr.spl r1
      obtain⟨os,k1,k2⟩:=sK hρ h c2' h3;exact⟨os,by simp only[rb,c1,QT];exact k1,k2⟩
theorem aKw:∀ks:KL,aJj ks=ks.length
 |[]=>rfl
 |_::r=>by simp[aJj,aKw r]
theorem aLg{ks:KL}(hk:ks≠[]):∀{n:Nat} {cells:SL} {us:VL} {K:List SL->Prop},bFl n ks cells K->Reps ρ A H cells us->∃r l,K r/\l.length=n/\Typd A H ks l us/\l=(r.map fun x=>x.map cSV)
 |0,[],us,K,h,hr=>by
  cases us with
  |nil=>exact⟨[],[],h,rfl,Typd.nil,rfl⟩
  |cons _ _=>simp only[Reps] at hr
 |0,_::_,us,K,h,hr=>by simp only[bFu] at h
 |n+1,cells,us,K,h,hr=>by
  simp only[bEn] at h;split at h
  ·rename_i l hl;have q:=oJ hl;rw[aKw] at q h;obtain⟨ss,h1,_,_,h4⟩:=oH h (q.1▸hr.take (n:=ks.length));obtain⟨r,l2,k1,k2,k3,k6⟩:=aLg hk h1 (hr.drop (n:=ks.length));refine⟨_,ss.map cSV::l2,k1,by simp[k2],?_,by rw[k6];rfl⟩;have:=(Typd.one h4).app k3
   rwa [List.take_append_drop] at this
  ·exact h.elim
end
end Go.AM
namespace Go.AM
open Go.RowKit
variable [σ:Sg]
variable [γ:Gam]
omit [γ:Gam] in
def isP(p:PK)(s:SV):Prop:=match p with
 |.sc k=>isK k s
 |.ag ks=>∃c,s=.agg (bI ks c 0)
omit [γ:Gam] in
inductive AreP:List PK->List SV->Prop
 |nil:AreP [] []
 |cons {p:PK} {s:SV} {ps:List PK} {ss:SL} (h:isP p s) (t:AreP ps ss):AreP (p::ps) (s::ss)
omit [γ:Gam] in
def noR:RM:=fun _=>none
omit [γ:Gam] in
def CtrOk(P:PG)(tb:TBs)(g:FuncId)(c:Ctr):Prop:=∀(S H0:AH) (A0 A:NQ) (L0:OL) (ss:SL) (vs:VL),aMz S.w0.toWorld tb->AreP c.ps ss->Reps noR A H0 ss vs->c.pre ss->∀H,HS S H0 A0 A L0 H->XCall P g vs H fun u H'=>
 ∃H1 A1,Gr A H0 A1 H1/\HS S H1 A0 A1 L0 H'/\∃rs us,AreP c.rs rs/\Reps noR A1 H1 rs us/\u=bK us/\c.post ss rs
omit [γ:Gam] in
def extN:Nat->String
 |1=> "math/bits.Add64"
 |2=> "internal/bytealg.IndexByteString"
 |_=> "internal/bytealg.CountString"
omit [γ:Gam] in
def aLv(P:PG)(g:FuncId)(k:Nat):Prop:=∃F,P.funcs[g]?=some F/\F.body=none/\F.origin= ""/\F.name=extN k
theorem HS.shrink{S H0 H1 H:AH}{A0 A A1:NQ}{L:OL}(h:HS S H1 A0 A1 L H)(g:Gr A H0 A1 H1):HS S H0 A0 A L H:=
 ⟨h.kept,fun j hj=>(h.base j (g.sub j hj)).trans (g.get j hj),g.w0.symm.trans h.w0,fun j hj=>h.sub j (g.sub j hj),fun j hj=>h.lt j (g.sub j hj),fun p hp=>by
  obtain⟨a,b,c,d⟩:=h.own p hp;exact⟨a,b,c,fun hj=>d (g.sub _ hj)⟩,h.dist⟩
section
variable {ρ ρ':RM}{A A':NQ}{H H':AH}
theorem aZs{k:Kd}{c:CL}{j:Nat}{v:Value}(h:Rep ρ A H (kSV k c j) v):Rep ρ' A H (kSV k c j) v:=by
 cases k<;>simpa only[kSV,Rep] using h
theorem aFx:∀{ks:KL} {c:CL} {j:Nat} {vs:VL},Reps ρ A H (bI ks c j) vs->Reps ρ' A H (bI ks c j) vs
 |[],c,j,[],h=>by simp only[bI,Reps]
 |k::ks,c,j,v::vs,h=>by simp only[bI,Reps] at h ⊢;exact⟨aZs h.1,aFx h.2⟩
 |[],c,j,_::_,h=>by simp only[bI,Reps] at h
 |_::_,c,j,[],h=>by simp only[bI,Reps] at h
theorem vQ{p:PK}{s:SV}{v:Value}(hp:isP p s)(h:Rep ρ A H s v):Rep ρ' A H s v:=by
 cases p with
 |sc k=>
  cases k with
  |int k=>obtain⟨n,rfl⟩:=hp;simpa only[Rep] using h
  |bool=>obtain⟨n,rfl⟩:=hp;simpa only[Rep] using h
  |str=>obtain⟨n,rfl⟩:=hp;simpa only[Rep] using h
  |row b ks=>obtain⟨n,rfl⟩:=hp;simpa only[Rep] using h
 |ag ks=>obtain⟨c,rfl⟩:=hp;simp only[Rep] at h ⊢;obtain⟨vs,h1,h2⟩:=h;exact⟨vs,h1,aFx h2⟩
theorem sB:∀{ps:List PK} {ss:SL} {vs:VL},AreP ps ss->Reps ρ A H ss vs->Reps ρ' A H ss vs
 |_,_,[],.nil,_=>by simp only[Reps]
 |_,_,v::vs,.cons h t,k=>by simp only[Reps] at k ⊢;exact⟨vQ h k.1,sB t k.2⟩
 |_,_,_::_,.nil,k=>by simp only[Reps] at k
 |_,_,[],.cons h t,k=>by simp only[Reps] at k
theorem vZ:∀{ks:KL} {c:CL} {j:Nat} {vs:VL},uF ks=true->Reps ρ A H (bI ks c j) vs->Reps ρ' A' H' (bI ks c j) vs
 |[],c,j,[],_,h=>by simp only[bI,Reps]
 |k::ks,c,j,v::vs,hf,h=>by
  simp only[bI,Reps] at h ⊢;cases k with
  |row b q=>simp[uF] at hf
  |int k=>exact⟨by simpa only[kSV,Rep] using h.1,vZ (by simpa [uF] using hf) h.2⟩
  |bool=>exact⟨by simpa only[kSV,Rep] using h.1,vZ (by simpa [uF] using hf) h.2⟩
  |str=>exact⟨by simpa only[kSV,Rep] using h.1,vZ (by simpa [uF] using hf) h.2⟩
 |[],c,j,_::_,_,h=>by simp only[bI,Reps] at h
 |_::_,c,j,[],_,h=>by simp only[bI,Reps] at h
theorem rH:∀{ps:List PK} {ss:SL} {vs:VL},yZ ps=true->AreP ps ss->Reps ρ A H ss vs->Reps ρ' A' H' ss vs
 |_,_,[],_,.nil,_=>by simp only[Reps]
 |p::_,_::_,v::vs,hf,.cons h t,k=>by
  simp only[Reps] at k ⊢;cases p with
  |sc kk=>
   simp only[yZ] at hf;cases kk with
   |row b q=>simp[uF] at hf
   |int kk=>obtain⟨n,rfl⟩:=h;exact⟨by simpa only[Rep] using k.1,rH (by simpa [uF] using hf) t k.2⟩
   |bool=>obtain⟨n,rfl⟩:=h;exact⟨by simpa only[Rep] using k.1,rH (by simpa [uF] using hf) t k.2⟩
   |str=>obtain⟨n,rfl⟩:=h;exact⟨by simpa only[Rep] using k.1,rH (by simpa [uF] using hf) t k.2⟩
  |ag ks=>
   simp only[yZ] at hf;cases e:uF ks with
   |false=>rw[e] at hf;cases hf
   |true=>
    rw[e,QT] at hf;obtain⟨c,rfl⟩:=h;refine⟨?_,rH hf t k.2⟩;have k1:=k.1;simp only[Rep] at k1 ⊢;obtain⟨vs,h1,h2⟩:=k1;exact⟨vs,h1,vZ e h2⟩
 |_,_,_::_,_,.nil,k=>by simp only[Reps] at k
 |_,_,[],_,.cons h t,k=>by simp only[Reps] at k
theorem aJb{p:PK}{s:SV}{v:Value}{K:SP}(h:coP p s K)(hr:Rep ρ A H s v):∃s',K s'/\isP p s'/\Rep ρ A H s' v:=by
 unfold coP at h;split at h
 ·obtain⟨s',h1,h2,h3,_⟩:=aJr h hr;exact⟨s',h1,h2,h3⟩
 ·simp only[Rep] at hr;obtain⟨vs,rfl,hr⟩:=hr;obtain⟨ss,h1,h2,h3,_⟩:=oH h hr;exact⟨_,h1,⟨_,by rw[<-h2]⟩,by simp only[Rep];exact⟨vs,rfl,h3⟩⟩
 ·exact h.elim
theorem aBk:∀{ps:List PK} {ss:SL} {vs:VL} {K:SL->Prop},yH ps ss K->Reps ρ A H ss vs->∃ss',K ss'/\AreP ps ss'/\Reps ρ A H ss' vs
 |[],[],[],K,h,_=>⟨[],h,.nil,by simp only[Reps]⟩
 |p::ps,s::ss,v::vs,K,h,hr=>by
  simp only[Reps] at hr;simp only[bCi] at h;obtain⟨s',h1,h2,h3⟩:=aJb h hr.1;obtain⟨ss',q1,q2,q3⟩:=aBk h1 hr.2;exact⟨s'::ss',q1,.cons h2 q2,by simp only[Reps];exact⟨h3,q3⟩⟩
 |[],_::_,_,K,h,_=>by simp only[aYa,aYo] at h
 |_::_,[],_,K,h,_=>by simp only[aYa,aYo] at h
 |[],[],_::_,K,_,h=>by simp only[Reps] at h
 |_::_,_::_,[],K,_,h=>by simp only[Reps] at h
theorem aXv{k:Kd}{s:SV}{K:SP}(h:allK k K)(hs:isK k s):K s:=by
 cases k with
 |int k=>obtain⟨n,rfl⟩:=hs;exact h n
 |bool=>
  obtain⟨b,rfl⟩:=hs;cases b with
  |true=>exact h.1
  |false=>exact h.2
 |str=>obtain⟨n,rfl⟩:=hs;exact h n
 |row b ks=>obtain⟨n,rfl⟩:=hs;exact h n
theorem aSn{k:Kd}{s:SV}{K:SP}(h:bCh k K)(hs:isK k s):K s:=by
 cases k<;>(obtain⟨n,rfl⟩:=hs;exact h n)
theorem aBu{p:PK}{s:SV}{K:SP}(h:bAi p K)(hs:isP p s):K s:=by
 cases p with
 |sc k=>exact aXv h hs
 |ag ks=>obtain⟨c,rfl⟩:=hs;exact sF (h c)
theorem xM:∀{ps:List PK} {ss:SL} {K:SL->Prop},aEc ps K->AreP ps ss->K ss
 |[],_,K,h,.nil=>h
 |_::ps,_::ss,K,h,.cons hp t=>xM (ps:=ps) (ss:=ss) (K:=fun vs=>K (_::vs)) (aBu h hp) t
theorem vP{ss:SL}{vs:VL}(h:Reps ρ A H ss vs):Rep ρ A H (sX ss) (bK vs):=by
 match ss,vs,h with
 |[],[],_=>simp only[sX,Rep];exact⟨[],rfl,by simp only[Reps]⟩
 |[s],[v],h=>simp only[Reps] at h;simp only[sX,bK];exact h.1
 |a::b::r,v::w::q,h=>simp only[sX,Rep];exact⟨_,rfl,h⟩
 |[],_::_,h=>simp only[Reps] at h
 |_::_,[],h=>simp only[Reps] at h
 |[_],_::_::_,h=>simp only[Reps] at h;exact h.2.elim
 |_::_::_,[_],h=>simp only[Reps] at h;exact h.2.elim
end
omit [γ:Gam] in
def mV(ρ:RM)(i:Nat)(x:Value):RM:=fun j=>if j=i then some x else ρ j
theorem gV{ρ:RM}{i:Nat}{x:Value}(h:ρ i=none):RMle ρ (mV ρ i x):=fun j v e=>by
 unfold mV;by_cases hj:j=i
 ·subst hj;rw[h] at e;cases e
 ·rw[if_neg hj];exact e
section
variable {P:PG}{E:Env P}{T:TTb}{C:CTb}{G:RG}{ri:RI}{i n d nx:Nat}{r:OL2}{Q:FQ}{t:Tr Value}{l:LV}{H0:AH}{A:NQ}{ρ:RM}{fs:FR}{hp:HP}{PS:PSs}{L0:OL}
 {ty:TY}{ps:String}{af:Array Edge}{gd:OB}{x y:Operand}
theorem Den.push(h:Den E ρ nx fs hp PS A H0 l){x:Value}(hx:x.oneCell'=true){o:SJ}{La:OL}(ho:∀{ρ'},RMle ρ ρ'->ρ' nx=some x->RepO E ρ' A H0 nx o La):Den E (mV ρ nx x) (nx+1) fs ((nx,o)::hp) ((nx,La)::PS) A H0 l:=by
 have qf:RMle ρ (mV ρ nx x):=gV (h.no nx (Nat.le_refl _));refine⟨fun j hj=>?_,fun j v e=>?_,RepF.mono qf (Gr.refl _ _) h.fr,La,PS,rfl,ho qf (if_pos rfl),RepH.mono qf (Gr.refl _ _) h.hp⟩
 ·unfold mV;rw[if_neg (by omega)];exact h.no j (by omega)
 ·unfold mV at e;by_cases hj:j=nx
  ·rw[if_pos hj] at e;cases e;exact hx
  ·rw[if_neg hj] at e;exact h.one j v e
def KV(E:Env P)(G:RG)(ri:RI)(L0:OL)(i n d:Nat)(r:OL2)(Q:FQ)(t:Tr Value)(l:LV)(ρ:RM)(A:NQ)(H0:AH)(K:SV->FR->HP->Nat->Prop):Prop:=
 ∀s fs' qc nx',K s fs' qc nx'->∀ρ' PS' A' H' u,Den E ρ' nx' fs' qc PS' A' H' l->RiOk G ri PS' L0 nx' A' H'->RMle ρ ρ'->Gr A H0 A' H'->Rep ρ' A' H' s u->SO E G (i+1) r Q (fr n t ((d,u)::l)) H' A' (flt PS'++L0)
def KVx(E:Env P)(G:RG)(ri:RI)(L0:OL)(i n d:Nat)(r:OL2)(Q:FQ)(t:Tr Value)(l:LV)(ρ:RM)(A:NQ)(H0:AH)(K:SV->FR->HP->Nat->Prop):Prop:=
 ∀s fs' qc nx',K s fs' qc nx'->∀ρ' PS' A' H' u,Den E ρ' nx' fs' qc PS' A' H' l->RiOk G ri PS' L0 nx' A' H'->FxR ri.fx ρ ρ'->Gr A H0 A' H'->Rep ρ' A' H' s u->SO E G (i+1) r Q (fr n t ((d,u)::l)) H' A' (flt PS'++L0)
theorem KVx.kv{K:SV->FR->HP->Nat->Prop}(h:KVx E G ri L0 i n d r Q t l ρ A H0 K):KV E G ri L0 i n d r Q t l ρ A H0 K:=fun s fs' qc nx' k ρ' PS' A' H' u a b c e f=>h s fs' qc nx' k ρ' PS' A' H' u a b c.fx e f
theorem KV.here{K:SV->FR->HP->Nat->Prop}(hK:KV E G ri L0 i n d r Q t l ρ A H0 K)(hD:Den E ρ nx fs hp PS A H0 l)(hR:RiOk G ri PS L0 nx A H0){s:SV}{u:Value}(h:K s fs hp nx)(hu:Rep ρ A H0 s u):SO E G (i+1) r Q (fr n t ((d,u)::l)) H0 A (flt PS++L0):=
 hK _ _ _ _ h _ _ _ _ _ hD hR (RMle.refl _) (Gr.refl _ _) hu
theorem KV.new{K:SV->FR->HP->Nat->Prop}(hK:KV E G ri L0 i n d r Q t l ρ A H0 K)(hD:Den E ρ nx fs hp PS A H0 l)(hR:RiOk G ri PS L0 nx A H0){s:SV}{o:SJ}{qc:HP}{PS':PSs}{La:OL}{x:Value}(hx:x.oneCell'=true)(qt:Den E ρ nx fs qc PS' A H0 l)(km:RiOk G ri PS' L0 nx A H0)(ho:∀{ρ'},RMle ρ ρ'->ρ' nx=some x->RepO E ρ' A H0 nx o La)
 (h:K s fs ((nx,o)::qc) (nx+1))(hu:∀{ρ'},RMle ρ ρ'->ρ' nx=some x->Rep ρ' A H0 s x):SO E G (i+1) r Q (fr n t ((d,x)::l)) H0 A (La++(flt PS'++L0)):=by
 have:=hK _ _ _ _ h _ _ _ _ x (qt.push hx ho) (km.push La) (gV (hD.no nx (Nat.le_refl _))) (Gr.refl _ _) (hu (gV (hD.no nx (Nat.le_refl _))) (if_pos rfl));simpa only[flt,QA] using this
theorem OwS.one'{b:Nat}{ks:KL}{rr:LX}{x:Value}{La:OL}(h:OwS A H0 b ks rr x La):x.oneCell'=true:=by
 obtain⟨_,_,⟨_,rfl,_⟩|⟨M,cs,ex,rfl,_⟩⟩:=h<;>rfl
theorem KV.row{K:SV->FR->HP->Nat->Prop}(hK:KV E G ri L0 i n d r Q t l ρ A H0 K)(hD:Den E ρ nx fs hp PS A H0 l){qc:HP}{PS':PSs}{La:OL}{x:Value}(qt:Den E ρ nx fs qc PS' A H0 l)(km:RiOk G ri PS' L0 nx A H0){b:Nat}{ks:KL}{rr:LX}(ow:OwS A H0 b ks rr x La)
 (h:K (.ow nx) fs ((nx,.row b ks rr)::qc) (nx+1)):SO E G (i+1) r Q (fr n t ((d,x)::l)) H0 A (La++(flt PS'++L0)):=by
 have qf:=gV (x:=x) (hD.no nx (Nat.le_refl _));have:=hK _ _ _ _ h _ _ _ _ x (qt.push (o:=.row b ks rr) (La:=La) ow.one' (fun _ hr=>⟨x,hr,ow⟩)) (km.push La) qf (Gr.refl _ _) (by simp only[Rep];exact if_pos rfl);simpa only[flt,QA] using this
theorem aKn{ops:OL2}{f:Fr}{id:Nat}{K:Nat->List Kd->List CL->FR->HP->Prop}(hD:Den E ρ nx fs hp PS A H0 l)(hR:RiOk G ri PS L0 nx A H0)(h:aQw ri id fs hp K)
 (hK:∀b ks rr fs' qc PS' A1 H1,K b ks rr fs' qc->Den E ρ nx fs' qc PS' A1 H1 l->RiOk G ri PS' L0 nx A1 H1->Gr A H0 A1 H1->(∀{s v},Reps ρ A H0 s v->Reps ρ A1 H1 (sbL id b ks rr s) v)->SO E G i ops Q f H1 A1 (flt PS'++L0)):SO E G i ops Q f H0 A (flt PS++L0):=by
 unfold aQw at h;split at h
 ·rename_i b ks rr hg;obtain⟨La,X,Y,qs,⟨x,r1,r2⟩,_,_,xd⟩:=hD.hp.get hg;have hG:(G.D=true->ri.G=true)/\wns ri id (mX id hp fun hp=>sbF id b ks rr fs fun fr=>sbH id b ks rr hp fun hp=>K b ks rr fr hp):=by
   unfold wgr at h;rw[hR.d] at h;cases e:G.D with
   |false=>rw[e] at h;exact⟨(fun h=>by cases h),h⟩
   |true=>
    rw[e,QT] at h;cases e2:ri.G with
    |false=>rw[e2] at h;exact h.elim
    |true=>rw[e2] at h;exact⟨fun _=>rfl,h⟩
  obtain⟨qr,h⟩:=hR.ns hG.2;obtain⟨ya,h,hh⟩:=xd _ h;subst qs;refine aMn (L':=flt (X++Y)++L0) r2 (by rw[bH];simp only[flt];rw[bH,QA,QA,QA];exact Takes.ow r2 _ _) (fun za=>(hR.del qr).sub za) ?_;rintro H1 A1 a g rfl rx;have hc:CellA A1 H1 (.row b ks) (.slice a rr.length rr.length) (.row rr):=rx.cell;obtain⟨fs1,h,k1⟩:=aDr r1 hc h (RepF.mono (RMle.refl _) g hD.fr);obtain⟨zk,h,k2⟩:=qG r1 hc h (RepH.mono (RMle.refl _) g hh);exact hK b ks rr fs1 zk _ _ _ h ⟨hD.no,hD.one,k1,k2⟩ ((hR.del qr).grow hG.1) g fun hr=>sbL_ok r1 hc (Reps.mono (RMle.refl _) g hr)
 ·exact h.elim
theorem yQ{ops:OL2}{f:Fr}:∀{m:Nat} {ss:SL} {us:VL} {fs:FR} {hp:HP} {PS:PSs} {A:NQ} {H0:AH} {K:SL->FR->HP->Prop},Den E ρ nx fs hp PS A H0 l->RiOk G ri PS L0 nx A H0->Reps ρ A H0 ss us->aEx m ri ss fs hp K->
 (∀ss' fs' qc PS' A1 H1,K ss' fs' qc->Den E ρ nx fs' qc PS' A1 H1 l->RiOk G ri PS' L0 nx A1 H1->Gr A H0 A1 H1->Reps ρ A1 H1 ss' us->SO E G i ops Q f H1 A1 (flt PS'++L0))->SO E G i ops Q f H0 A (flt PS++L0)
 |0,ss,us,fs,hp,PS,A,H0,K,hD,hR,hr,h,hK=>hK _ _ _ _ _ _ h hD hR (Gr.refl _ _) hr
 |m+1,ss,us,fs,hp,PS,A,H0,K,hD,hR,hr,h,hK=>by
  simp only[aXw] at h;split at h
  ·exact hK _ _ _ _ _ _ h hD hR (Gr.refl _ _) hr
  ·refine aKn hD hR h fun b ks rr fs' qc PS' A1 H1 k zr vn g hs=>?_;exact yQ zr vn (hs hr) (cF k) fun ss' fs2 zk PS2 A2 H2 k2 xe x6 g2 v9=>hK _ _ _ _ _ _ k2 xe x6 (g.trans g2) v9
theorem aDw(hρ:∀i v,ρ i=some v->v.oneCell'=true):∀{ss:SL} {us:VL},scS ss=true->Reps ρ A H0 ss us->aY us=true
 |[],[],_,_=>rfl
 |q::ss,u::us,hs,h=>by
  simp only[Reps] at h;have e:∃q',dF q=some [q']/\u.oneCell'=true/\scS ss=true:=by
   cases q<;>first|(simp[scS] at hs;done)|exact⟨_,rfl,(Rep.one hρ h.1 rfl).2,hs⟩
  obtain⟨q',e1,e2,e3⟩:=e;have:=aDw hρ e3 h.2
  simp_all [aY]
 |[],_::_,_,h=>by simp only[Reps] at h
 |_::_,[],_,h=>by simp only[Reps] at h
end
end Go.AM
