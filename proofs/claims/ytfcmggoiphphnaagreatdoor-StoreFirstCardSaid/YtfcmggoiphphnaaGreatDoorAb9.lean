/-
  An abstract machine that runs a program of the given form, and its soundness, part 9.
-/
import Derived.Test.YtfcmggoiphphnaaGreatDoorAb8
set_option linter.unusedVariables false
set_option linter.unusedSimpArgs false
set_option linter.unusedSectionVars false
noncomputable section
namespace Go.AM
open Go.RowKit
variable [σ:Sg]
theorem kQ{k:IntKind}{e:Int}(h1:k.min<=e)(h2:e<=k.max):k.wrap e=e:=by
 cases k<;>grind [IntKind.min,IntKind.max,IntKind.wrap,IntKind.bits,IntKind.signed]<;>omega
theorem nO{k:IntKind}{e:Int}(h:k.min=0):k.wrap e=e%(k.max+1):=by
 cases k<;>grind [IntKind.min,IntKind.max,IntKind.wrap,IntKind.bits,IntKind.signed]
theorem bAi(k:IntKind):∃p,k.max+1=(((2^p:Nat):Nat):Int):=by
 cases k
 ·exact⟨7,rfl⟩
 ·exact⟨15,rfl⟩
 ·exact⟨31,rfl⟩
 ·exact⟨63,rfl⟩
 ·exact⟨8,rfl⟩
 ·exact⟨16,rfl⟩
 ·exact⟨32,rfl⟩
 ·exact⟨64,rfl⟩
theorem aAl{k:IntKind}{n:Int}(h0:0<=n)(h1:n<=k.max):(BitVec.ofInt k.bits n).toNat=n.toNat:=by
 grind [jF,Int.lt_of_le_of_lt,aJg]
theorem aOy{k:IntKind}{n m:Int}(h0:0<=n)(h1:n<=k.max)(h2:0<=m)(h3:m<=k.max):bits .and k n m=((n.toNat &&& m.toNat:Nat):Int):=by
 have e:(BitVec.ofInt k.bits n &&& BitVec.ofInt k.bits m).toNat=n.toNat &&& m.toNat:=by grind [BitVec.toNat_and,aAl]
 have l:= @Nat.and_le_left n.toNat m.toNat;have e3:bits .and k n m=(((BitVec.ofInt k.bits n &&& BitVec.ofInt k.bits m).toNat:Nat):Int):=uZ k (Int.natCast_nonneg _) (by rw[e];omega);rw[e3,e]
theorem aQv{k:IntKind}{n m:Int}(h0:0<=n)(h1:n<=k.max)(h2:0<=m)(h3:m<=k.max):bits .or k n m=((n.toNat ||| m.toNat:Nat):Int):=by
 have e:(BitVec.ofInt k.bits n ||| BitVec.ofInt k.bits m).toNat=n.toNat ||| m.toNat:=by grind [BitVec.toNat_or,aAl]
 obtain⟨p,hp⟩:=bAi k;have l:= @Nat.or_lt_two_pow n.toNat m.toNat p (by omega) (by omega);have e3:bits .or k n m=(((BitVec.ofInt k.bits n ||| BitVec.ofInt k.bits m).toNat:Nat):Int):=uZ k (Int.natCast_nonneg _) (by rw[e];omega);rw[e3,e]
theorem aWq(w:Nat)(n:Int):((BitVec.allOnes w ^^^ BitVec.ofInt w n).toNat:Int)=(2^w:Nat) - 1 - n%((2^w:Nat):Int):=by
 rw[BitVec.allOnes_xor,BitVec.toNat_not,BitVec.toNat_ofInt];omega
theorem aAy{k:IntKind}{n:Int}(h0:k.min<=n)(h1:n<=k.max):(k.min<0->bits .xor k (if k.signed then -1 else k.max) n= -1 - n)/\(k.min=0->bits .xor k (if k.signed then -1 else k.max) n=k.max - n):=by
 have e:BitVec.ofInt k.bits (if k.signed then -1 else k.max)=BitVec.allOnes k.bits:=by cases k<;>decide
 have e2:bits .xor k (if k.signed then -1 else k.max) n=k.wrap (((BitVec.allOnes k.bits ^^^ BitVec.ofInt k.bits n).toNat:Nat):Int):=by rw[<-e];rfl
 rw[e2,aWq];cases k<;>grind [IntKind.min,IntKind.max,IntKind.wrap,IntKind.bits,IntKind.signed]<;>omega
theorem aTm{k:IntKind}{n m:Int}(h1:k.min<=n)(h2:n<=k.max):k.min<=n.tmod m/\n.tmod m<=k.max:=by
 have h0:k.min<=0/\0<=k.max:=by grind [IntKind.min,IntKind.max,IntKind.bits,IntKind.signed]
 have e:=Int.natAbs_tmod n m;have e2:=Nat.mod_le n.natAbs m.natAbs;rcases Int.le_total 0 n with hn|hn
 ·grind [Int.tmod_nonneg]
 ·have a1:(-n).tmod m= -(n.tmod m):=Int.neg_tmod n m;have a3:=Int.tmod_nonneg m (by omega:0<= -n);omega
theorem aBp{ρ:RM}{A:NQ}{H:AH}:∀{ss:SL} {us vs:VL},lP ss=some vs->Reps ρ A H ss us->us=vs
 |[],[],vs,h,_=>by grind [lP]
 |s::r,u::us,vs,h,k=>by
  simp only[Reps] at k;cases s<;>simp only[lP] at h<;>first|(cases h;done)|skip
  all_goals
   split at h
   ·rename_i l hl;cases h;have:=aBp hl k.2;have k1:=k.1;simp only[Rep] at k1
    simp_all
   ·cases h
 |[],_::_,vs,h,k=>by simp only[Reps] at k
 |_::_,[],vs,h,k=>by simp only[Reps] at k
section
variable {P:PG}{E:Env P}{T:TTb}{ρ:RM}{A:NQ}{H:AH}
theorem lh1{k:IntKind}{n m:Int}{K:Int->Int->Prop}(h:lhK k fun lo hi=>lo<=n->n<=hi->lo<=m->m<=hi->K lo hi)(hn:(Lit.int k n).wf=true)(hm:(Lit.int k m).wf=true):K k.min k.max:=gZ h (cD hn).1 (cD hn).2 (cD hm).1 (cD hm).2
theorem aNu{k:IntKind}{n m:Int}(h0:0<=n)(h1:n<=1):(m= -1->bits .and k n m=n)/\(m= -2->bits .and k n m=0):=by
 have e:n=0\/n=1:=by omega
 refine⟨fun h=>?_,fun h=>?_⟩<;>subst h<;>rcases e with e|e<;>subst e<;>cases k<;>decide
theorem aUe{k:IntKind}{n m:Int}(h0:0<=n)(h1:n<=127)(h2:0<=m)(h3:m<=127):0<=bits .or k n m/\bits .or k n m<=127:=by
 have p7:(128:Int)<=2^k.bits:=by cases k<;>decide
 have m7:(127:Int)<=k.max:=by cases k<;>decide
 have e1:(((BitVec.ofInt k.bits n).toNat:Nat):Int)=n:=jF h0 (by omega);have e2:(((BitVec.ofInt k.bits m).toNat:Nat):Int)=m:=jF h2 (by omega);have e5:(BitVec.ofInt k.bits n).toNat<2^7:=by omega
 have e6:(BitVec.ofInt k.bits m).toNat<2^7:=by omega
 have e3:(BitVec.ofInt k.bits n ||| BitVec.ofInt k.bits m).toNat<128:=by
  rw[BitVec.toNat_or];exact Nat.or_lt_two_pow e5 e6
 have e7:(((BitVec.ofInt k.bits n ||| BitVec.ofInt k.bits m).toNat:Nat):Int)<=k.max:=by omega
 have e4:bits .or k n m=(((BitVec.ofInt k.bits n ||| BitVec.ofInt k.bits m).toNat:Nat):Int):=uZ k (Int.natCast_nonneg _) e7;omega
theorem aPk{k:IntKind}{n:Int}(h0:0<=n)(h1:n<=1)(hl:k.min<0):bits .xor k (if k.signed then -1 else k.max) n= -1 - n:=by
 have e:n=0\/n=1:=by omega
 rcases e with e|e<;>subst e<;>cases k<;>revert hl<;>decide
theorem aFa{b:BinOp}{t:TY}{k:IntKind}{n m:Int}{K:SP}(h:aWw b k n m K)(hn:(Lit.int k n).wf=true)(hm:(Lit.int k m).wf=true):∃v s,aQ E b t (.int k n) (.int k m)=some v/\Rep ρ A H s v/\K s:=by
 have B:∀{p:Prop} [Decidable p] {op:BinOp} {x y:SP},aQ E op t (.int k n) (.int k m)=some (.bool (decide p))->Sp p (K (.bool true)) (K (.bool false))->∃v s,aQ E op t (.int k n) (.int k m)=some v/\Rep ρ A H s v/\K s:=by
  intro p _ op x y e q;by_cases hp:p
  ·exact⟨_,.bool true,by rw[e,decide_eq_true hp],by simp only[Rep],q.t hp⟩
  ·exact⟨_,.bool false,by rw[e,decide_eq_false hp],by simp only[Rep],q.f hp⟩
 have W:∀{op:BinOp} {e z:Int},aQ E op t (.int k n) (.int k m)=some (.int k z)->k.min<=z->z<=k.max->K (.int k z)->∃v s,aQ E op t (.int k n) (.int k m)=some v/\Rep ρ A H s v/\K s:=fun e h1 h2 q=>⟨_,_,e,by simp only[Rep];exact⟨trivial,kP h1 h2⟩,q⟩;cases b with
 |lss=>exact B (x:=K) (y:=K) aEg h
 |leq=>exact B (x:=K) (y:=K) aFw h
 |gtr=>exact B (x:=K) (y:=K) aFf h
 |geq=>exact B (x:=K) (y:=K) aFl h
 |eql=>exact B (x:=K) (y:=K) aEl h
 |neq=>
  by_cases hp:n=m
  ·exact⟨_,.bool false,by rw[wX,decide_eq_false (by simpa using hp)],by simp only[Rep],h.t hp⟩
  ·exact⟨_,.bool true,by rw[wX,decide_eq_true hp],by simp only[Rep],h.f hp⟩
 |add=>
  have q:=lh1 (K:=fun lo hi=>Wr lo hi (n+m) fun z=>K (.int k z)) h hn hm;exact W (e:=0) (gN rfl) (bB k _).1 (bB k _).2 (q.h _ (bB k _).1 (bB k _).2 kQ nO)
 |sub=>
  have q:=lh1 (K:=fun lo hi=>Wr lo hi (n - m) fun z=>K (.int k z)) h hn hm;exact W (e:=0) (aYz rfl) (bB k _).1 (bB k _).2 (q.h _ (bB k _).1 (bB k _).2 kQ nO)
 |mul=>
  have q:=lh1 (K:=fun lo hi=>Wr lo hi (n*m) fun z=>K (.int k z)) h hn hm;exact W (e:=0) (bCb rfl) (bB k _).1 (bB k _).2 (q.h _ (bB k _).1 (bB k _).2 kQ nO)
 |quo=>
  have q:=lh1 (K:=fun lo hi=>Ob (m≠0) (Qu lo hi n m fun z=>K (.int k z))) h hn hm;refine W (e:=0) (bBy q.h rfl) (bB k _).1 (bB k _).2 (q.t.h _ (bB k _).1 (bB k _).2 fun h1 h2=>?_);have e1:n.tdiv m=n / m:=Int.tdiv_eq_ediv_of_nonneg h1;have e2:0<=n / m:=Int.ediv_nonneg h1 (by omega);have e3:n / m<=n:=Int.ediv_le_self m h1;have e4:=(cD hn).2;have e5:k.wrap (n / m)=n / m:=kQ (by have:k.min<=0:=(by cases k<;>simp[IntKind.min,IntKind.bits,IntKind.signed]);omega) (by omega);rw[e1,e5];exact⟨rfl,e2,e3⟩
 |rem=>
  have q:=lh1 (K:=fun lo hi=>Ob (m≠0) (Rm lo hi n m fun z=>K (.int k z))) h hn hm;have f:=aTm (m:=m) (cD hn).1 (cD hn).2;exact W (e:=0) (aYn q.h rfl) f.1 f.2 (q.t.h _ f.1 f.2 (fun h1=>⟨Int.tmod_nonneg _ h1,fun h2=>Int.tmod_eq_emod_of_nonneg h1⟩) fun h2=>⟨Int.tmod_lt_of_pos _ h2,Int.lt_tmod_of_pos _ h2⟩)
 |and=>
  have q:=lh1 (K:=fun lo hi=>An lo hi n m fun z=>K (.int k z)) h hn hm;exact W (e:=0) (aCo rfl) (cN _ _ _ _).1 (cN _ _ _ _).2 (q.h _ (cN _ _ _ _).1 (cN _ _ _ _).2 (fun h1 h2=>aVh h1 h2) (fun h1 h2=>aNu h1 h2) fun h1 h2=>aOy h1 (cD hn).2 h2 (cD hm).2)
 |or=>
  have q:=gZ (K:=fun lo hi=>Oo lo hi n m fun z=>K (.int k z)) h;exact W (e:=0) (bEk rfl) (cN _ _ _ _).1 (cN _ _ _ _).2 (q.h _ (cN _ _ _ _).1 (cN _ _ _ _).2 (fun h1 h2 h3 h4=>aUe h1 h2 h3 h4) fun h1 h2=>aQv h1 (cD hn).2 h2 (cD hm).2)
 |xor=>
  have q:=gZ (K:=fun lo hi=>∀z,lo<=z->z<=hi->K (.int k z)) h;exact W (e:=0) (uX rfl) (cN _ _ _ _).1 (cN _ _ _ _).2 (q _ (cN _ _ _ _).1 (cN _ _ _ _).2)
 |andNot=>exact h.elim
 |shl=>exact h.elim
 |shr=>exact h.elim
theorem aCa{s u:BA}(h:s.data.toList=u.data.toList):s=u:=by
 cases s with|mk a=>
 simp_all
theorem bAn{k:IntKind}{n:Int}{a:Nat}(h0:0<=n)(h1:n<=k.max):n / 2^min a k.bits=n / 2^a:=by
 rcases Nat.le_total a k.bits with hb|hb
 ·rw[Nat.min_eq_left hb]
 ·rw[Nat.min_eq_right hb];have l1:n<2^k.bits:=Int.lt_of_le_of_lt h1 (aJg k);have l2:(2:Int)^k.bits<=2^a:=by
   have:=Nat.pow_le_pow_right (n:=2) (by omega) hb
   exact_mod_cast this
  rw[Int.ediv_eq_zero_of_lt h0 l1,Int.ediv_eq_zero_of_lt h0 (by omega)]
def Ios:Option TypeDesc->Prop:=fun d=>(∃kk,d=some (.int kk))\/d=some .string
theorem bDg{x:SV}{xs:SL}{vs:VL}{k:Nat}(hl:0<lS (x::xs))(v:lP (x::xs)=some (vs.drop k)):∃u,vs[k]?=some u/\lP xs=some (vs.drop (k+1))/\lS (x::xs)=lS xs+1/\((∃ka a,x=.int ka a/\u=.int ka a)\/∃s,x=.str s/\u=.string s):=by
 have g:∀{u:Value} {l:VL},u::l=vs.drop k->vs[k]?=some u/\l=vs.drop (k+1):=fun {u l} e=>by
  refine⟨?_,by rw[<-List.drop_drop,<-e];rfl⟩;have:(vs.drop k)[0]?=some u:=by rw[<-e];rfl
  simp_all
 cases x with
 |int ka a=>
  simp only[lP] at v;split at v
  ·rename_i l mc;simp only[Option.some.injEq] at v;obtain⟨g1,rfl⟩:=g v;exact⟨_,g1,mc,rfl,.inl ⟨ka,a,rfl,rfl⟩⟩
  ·cases v
 |str s=>
  simp only[lP] at v;split at v
  ·rename_i l mc;simp only[Option.some.injEq] at v;obtain⟨g1,rfl⟩:=g v;exact⟨_,g1,mc,rfl,.inr ⟨s,rfl,rfl⟩⟩
  ·cases v
 |_=>simp[lS] at hl
theorem aMq{d:Nat}{vs ws:VL}:∀{Fl:List Field} {k:Nat} {xs ys:SL} {c:Bool},(∀i fd,Fl[i]?=some fd->fd.offset=k+i/\(fd.name== "_")=false/\Ios (E.und fd.type))->lS xs=Fl.length->lS ys=Fl.length->lS xs=xs.length->lS ys=ys.length->
 lP xs=some (vs.drop k)->lP ys=some (ws.drop k)->bU E (aeq E (d+1)) vs ws Fl=some c->(c=true↔oA xs ys)
 |[],k,xs,ys,c,_,h1,h2,h3,h4,_,_,h=>by
  grind [bU,List.eq_nil_of_length_eq_zero,oA]
 |fd::Fl,k,xs,ys,c,hF,h1,h2,h3,h4,v1,v2,h=>by
  obtain⟨f1,f2,f3⟩:=hF 0 fd rfl
  match xs,ys with
  |x::xs,y::ys=>
   obtain⟨u,g1,w1,n1,o1⟩:=bDg (by rw[h1];simp) v1;obtain⟨u',g2,w2,n2,o2⟩:=bDg (by rw[h2];simp) v2;rw[n1,List.length_cons] at h1 h3;rw[n2,List.length_cons] at h2 h4;have ih:=fun c (q:bU E (aeq E (d+1)) vs ws Fl=some c)=>aMq (k:=k+1) (xs:=xs) (ys:=ys) (fun i fd' e=>by
    obtain⟨a1,a2⟩:=hF (i+1) fd' (by simpa using e)
    grind) (by omega) (by omega) (by omega) (by omega) w1 w2 q
   have o:fd.offset=k:=by rw[f1,Nat.add_zero]
   rcases f3 with⟨kk,f3⟩|f3
   ·simp only[bU,f2,QF,apart,f3,cW,o,g1,g2] at h;rcases o1 with⟨ka,a,rfl,rfl⟩|⟨a,rfl,rfl⟩<;>rcases o2 with⟨kb,b,rfl,rfl⟩|⟨b,rfl,rfl⟩<;>simp only[aeq,f3] at h
    ·by_cases e:ka=kb
     ·simp only[e,if_true] at h;cases eb:(a==b) with
      |true=>
       simp only[eb] at h;rw[ih c h];simp only[oA,beq_iff_eq.1 eb,true_and]
      |false=>
       simp only[eb,Option.some.injEq] at h;subst h;have:a≠b:=fun e=>by simp_all
       simp[oA,this]
     ·simp[e] at h
    all_goals cases h
   ·simp only[bU,f2,QF,apart,f3,cW,o,g1,g2] at h;rcases o1 with⟨ka,a,rfl,rfl⟩|⟨a,rfl,rfl⟩<;>rcases o2 with⟨kb,b,rfl,rfl⟩|⟨b,rfl,rfl⟩<;>simp only[aeq,f3] at h
    all_goals try (cases h;done)
    cases eb:(a.data.toList==b.data.toList) with
    |true=>
     simp only[eb] at h;rw[ih c h];have:=aCa (beq_iff_eq.1 eb);subst this;simp only[oA,true_and]
    |false=>
     simp only[eb,Option.some.injEq] at h;subst h;have:a≠b:=fun e=>by simp_all
     simp[oA,this]
  |[],_=>simp[lS] at h1
  |_::_,[]=>simp[lS] at h2
theorem aFj:∀{fs:List (Nat×Nat×Nat)} {i:Nat},i<wI fs->∃x,atF fs i=some x
 |[],i,h=>by simp[wI] at h
 |x::r,0,_=>⟨x,rfl⟩
 |x::r,i+1,h=>by simp only[atF];exact aFj (by simpa [wI] using h)
theorem wU(hT:dA E T):∀{fs:List (Nat×Nat×Nat)} {k i o ft s:Nat},zF T fs k=true->atF fs i=some (o,ft,s)->o=k+i/\Ios (E.und ft)
 |[],k,i,o,ft,s,_,e=>by simp[atF] at e
 |(o',t',s')::r,k,i,o,ft,s,h,e=>by
  simp only[zF] at h;cases eo:Nat.beq o' k with
  |false=>rw[eo] at h;cases h
  |true=>
   rw[eo,QT] at h;split at h
   ·rename_i ti qs;split at h
    ·rename_i kk qn;cases i with
     |zero=>
      simp only[atF,Option.some.injEq,Prod.mk.injEq] at e;obtain⟨rfl,rfl,rfl⟩:=e;obtain⟨w,hw,_,hs⟩:=(hT _ _ qs).und;rw[qn] at hs;simp only[cM] at hs;subst hs;exact⟨by simp_all,.inl ⟨kk,hw⟩⟩
     |succ i=>
      simp only[atF] at e;obtain⟨a,b⟩:=wU hT h e;exact⟨by omega,b⟩
    ·rename_i qn;cases i with
     |zero=>
      simp only[atF,Option.some.injEq,Prod.mk.injEq] at e;obtain⟨rfl,rfl,rfl⟩:=e;obtain⟨w,hw,_,hs⟩:=(hT _ _ qs).und;rw[qn] at hs;simp only[cM] at hs;subst hs;exact⟨by simp_all,.inr hw⟩
     |succ i=>
      simp only[atF] at e;obtain⟨a,b⟩:=wU hT h e;exact⟨by omega,b⟩
    ·cases h
   ·cases h
theorem uV:∀{xs:SL} {fs:List (Nat×Nat×Nat)},fC xs fs=true->lS xs=wI fs/\lS xs=xs.length
 |[],[],_=>⟨rfl,rfl⟩
 |.int _ _::r,_::q,h=>by
  simp only[fC] at h;obtain⟨a,b⟩:=uV h
  grind [lS,wI,List.length_cons]
 |.str _::r,_::q,h=>by
  simp only[fC] at h;obtain⟨a,b⟩:=uV h
  grind [lS,wI,List.length_cons]
 |[],_::_,h=>by simp[fC] at h
 |.int _ _::_,[],h=>by simp[fC] at h
 |.bool _::_,_,h=>by simp[fC] at h
 |.str _::_,[],h=>by simp[fC] at h
 |.undef::_,_,h=>by simp[fC] at h
 |.nil::_,_,h=>by simp[fC] at h
 |.pnil::_,_,h=>by simp[fC] at h
 |.row _ _ _::_,_,h=>by simp[fC] at h
 |.el _ _ _::_,_,h=>by simp[fC] at h
 |.ptr _ _::_,_,h=>by simp[fC] at h
 |.ow _::_,_,h=>by simp[fC] at h
 |.op _ _ _ _::_,_,h=>by simp[fC] at h
 |.fn _ _::_,_,h=>by simp[fC] at h
 |.gp _ _::_,_,h=>by simp[fC] at h
 |.rng _ _::_,_,h=>by simp[fC] at h
 |.xp _ _ _::_,_,h=>by simp[fC] at h
 |.ep _ _ _ _ _::_,_,h=>by simp[fC] at h
 |.any::_,_,h=>by simp[fC] at h
 |.yl _::_,_,h=>by simp[fC] at h
 |.agg _::_,_,h=>by simp[fC] at h
 |.tup _::_,_,h=>by simp[fC] at h
theorem tA(hT:dA E T){b:BinOp}{t:TY}{xs ys:SL}{vs ws:VL}{K:SP}(ha:lP xs=some vs)(hb:lP ys=some ws)(hi:aHh E b t (.agg ⟨vs⟩) (.agg ⟨ws⟩)=true)(h:vQ E T b t xs ys K):∃w s,aQ E b t (.agg ⟨vs⟩) (.agg ⟨ws⟩)=some w/\Rep ρ A H s w/\K s:=by
 have q:=aOe hi;have old:K (.bool true)/\K (.bool false)->∃w s,aQ E b t (.agg ⟨vs⟩) (.agg ⟨ws⟩)=some w/\Rep ρ A H s w/\K s:=fun k=>by
  generalize aRz E b t (.agg ⟨vs⟩) (.agg ⟨ws⟩)=c at q;cases c with
  |true=>exact⟨_,.bool true,q,by simp only[Rep],k.1⟩
  |false=>exact⟨_,.bool false,q,by simp only[Rep],k.2⟩
 unfold vQ at h;split at h
 ·rename_i ti qs;obtain⟨u,hu,_,hs⟩:=(hT _ _ qs).und;split at h
  ·rename_i fs qn;rw[qn] at hs;simp only[cM] at hs;obtain⟨F,rfl,_,hF⟩:=hs;cases e1:zF T fs 0 with
   |false=>simp_all
   |true=>
    rw[e1,QT] at h;cases e2:fC xs fs with
    |false=>simp_all
    |true=>
     rw[e2,QT] at h;cases e3:fC ys fs with
     |false=>simp_all
     |true=>
      rw[e3,QT] at h;obtain⟨e2,l1⟩:=uV e2;obtain⟨e3,l2⟩:=uV e3;have key:aKo E t (wI fs)=true->lS xs=xs.length->lS ys=ys.length->∃c,aeq E 9 t (.agg ⟨vs⟩) (.agg ⟨ws⟩)=some c/\aQ E b t (.agg ⟨vs⟩) (.agg ⟨ws⟩)=dK b c/\(c=true↔oA xs ys):=by
       intro yc l1 l2;unfold aKo at yc;rw[hu] at yc;simp only[QB] at yc;have hn:=QN yc.1;have qi:=hi;unfold aHh at qi;simp only[QB] at qi;obtain⟨⟨g1,g2,g3⟩,g4,_⟩:=qi;obtain⟨c,hc⟩:=kH g4;refine⟨c,hc,by simp only[aQ,g1,g2,g3,Bool.and_self,QT,hc],?_⟩;unfold aeq at hc;simp only[hu,g3,QT] at hc;refine aMq (d:=7) (k:=0) (Fl:=F.toList) (fun i fd nk=>?_) (by rw[e2,hn]) (by rw[e3,hn]) l1 l2 (by simp_all) (by simp_all) hc
       grind [wI,List.getElem?_eq_some_iff,aFj,Option.some.inj,wU]
      split at h
      ·obtain⟨c,_,k2,k3⟩:=key h.h l1 l2;cases c with
       |true=>exact⟨.bool true,.bool true,k2,by simp only[Rep],h.t.1 ⟨⟨k3.1 rfl⟩⟩⟩
       |false=>exact⟨.bool false,.bool false,k2,by simp only[Rep],h.t.2 ⟨fun e=>by cases k3.2 e.h⟩⟩
      ·obtain⟨c,_,k2,k3⟩:=key h.h l1 l2;cases c with
       |true=>exact⟨.bool false,.bool false,k2,by simp only[Rep],h.t.2 ⟨⟨k3.1 rfl⟩⟩⟩
       |false=>exact⟨.bool true,.bool true,k2,by simp only[Rep],h.t.1 ⟨fun e=>by cases k3.2 e.h⟩⟩
      ·exact old h
  ·exact old h
 ·exact old h
theorem oH{f:Nat->Option Bool}(hf:∀i c,f i=some c->c=true):∀{n i:Nat} {c:Bool},dZ f i n=some c->c=true
 |0,i,c,h=>by grind [dZ,Option.some.injEq]
 |n+1,i,c,h=>by
  simp only[dZ] at h;cases e:f i with
  |none=>rw[e] at h;cases h
  |some d=>
   rw[e,hf i d e] at h;exact oH hf h
theorem jA{f:TY->Value->Value->Option Bool}(hf:∀t u c,f t u u=some c->c=true){xs:VL}:∀{fs:List Field} {c:Bool},bU E f xs xs fs=some c->c=true
 |[],c,h=>by grind [bU,Option.some.injEq]
 |fd::fs,c,h=>by
  simp only[bU] at h;cases e:(fd.name== "_") with
  |true=>rw[e,QT] at h;exact jA hf h
  |false=>
   rw[e,QF] at h;cases ea:apart E fd.type xs fd.offset with
   |none=>rw[ea] at h;cases h
   |some u=>
    rw[ea] at h;simp only at h;cases eu:f fd.type u u with
    |none=>rw[eu] at h;cases h
    |some d=>
     rw[eu,hf _ _ _ eu] at h;exact jA hf h
theorem tL:∀{d:Nat} {t:TY} {x:Value} {c:Bool},aeq E d t x x=some c->c=true
 |0,t,x,c,h=>by simp only[aeq] at h;cases h
 |d+1,t,x,c,h=>by
  unfold aeq at h;split at h
  ·simp_all
  ·simp_all
  ·simp_all
  ·rename_i fs xs ys e2 e3;injection e3 with a2
   injection a2 with a2
   subst a2;cases ee:E.eqT t with
   |false=>rw[ee] at h;cases h
   |true=>rw[ee,QT] at h;exact jA (fun t u c=>tL) h
  ·rename_i n e xs ys e2 e3;injection e3 with a2
   injection a2 with a2
   subst a2;split at h
   ·refine oH (fun i c hc=>?_) h;split at hc
    ·rename_i u v g1 g2;rw[g1] at g2;injection g2 with g2
     subst g2;exact tL hc
    ·cases hc
   ·cases h
  ·cases h
theorem aVt(hT:dA E T){b:BinOp}{t:TY}{xs ys:SL}{vs ws:VL}{K:SP}(ha:lP xs=some vs)(hb:lP ys=some ws)(hi:aHh E b t (.agg ⟨vs⟩) (.agg ⟨ws⟩)=true)(h:aWu E T b t xs ys K):∃w s,aQ E b t (.agg ⟨vs⟩) (.agg ⟨ws⟩)=some w/\Rep ρ A H s w/\K s:=by
 have key:xs=ys->∃c,c=true/\aQ E b t (.agg ⟨vs⟩) (.agg ⟨ws⟩)=dK b c:=fun e=>by
  subst e;rw[ha] at hb;injection hb with hb
  subst hb;have qi:=hi;unfold aHh at qi;simp only[QB] at qi;obtain⟨⟨g1,g2,g3⟩,g4,_⟩:=qi;obtain⟨c,hc⟩:=kH g4;exact⟨c,tL hc,by simp only[aQ,g1,g3,Bool.and_self,QT,hc]⟩
 unfold aWu at h;split at h
 ·rcases h.h with⟨e,k⟩|k
  ·obtain⟨c,rfl,k2⟩:=key e;exact⟨.bool true,.bool true,k2,by simp only[Rep],k⟩
  ·exact tA hT ha hb hi k
 ·rcases h.h with⟨e,k⟩|k
  ·obtain⟨c,rfl,k2⟩:=key e;exact⟨.bool false,.bool false,k2,by simp only[Rep],k⟩
  ·exact tA hT ha hb hi k
 ·exact tA hT ha hb hi h
theorem aSq{b:BinOp}{t:TY}{k:IntKind}{n m:Int}{K:SP}(h:bDf b n m K):∃v s,aQ E b t (.int k n) (.int k m)=some v/\Rep ρ A H s v/\K s:=by
 cases b with
 |lss=>exact⟨_,_,aEg,by simp only[Rep],h⟩
 |leq=>exact⟨_,_,aFw,by simp only[Rep],h⟩
 |gtr=>exact⟨_,_,aFf,by simp only[Rep],h⟩
 |geq=>exact⟨_,_,aFl,by simp only[Rep],h⟩
 |eql=>exact⟨_,_,aEl,by simp only[Rep],h⟩
 |neq=>exact⟨_,_,wX,by simp only[Rep],h⟩
 |_=>exact h.elim
theorem qX(hT:dA E T){b:BinOp}{t:TY}{l:LX}{a:Option Addr}{n c:Nat}{K:SP}(h:aWv T b t l K)(ha:a=none->l=[]/\c=0):∃w s,aQ E b t (.slice a n c) (.slice none 0 0)=some w/\Rep ρ A H s w/\K s:=by
 unfold aWv at h;split at h
 ·rename_i ti qs;obtain⟨w,hw,_,hs⟩:=(hT _ _ qs).und;split at h
  ·rename_i qn;rw[qn] at hs;simp only[cM] at hs;subst hs;cases a with
   |none=>
    obtain⟨rfl,rfl⟩:=ha rfl;exact⟨.bool true,.bool true,by simp[aQ,hw,dK]<;>rfl,by simp only[Rep],h.1 rfl ⟨rfl⟩⟩
   |some p=>exact⟨.bool false,.bool false,by simp[aQ,hw,dK]<;>rfl,by simp only[Rep],h.2⟩
  ·rename_i qn;rw[qn] at hs;simp only[cM] at hs;subst hs;cases a with
   |none=>
    obtain⟨rfl,rfl⟩:=ha rfl;exact⟨.bool false,.bool false,by simp[aQ,hw,dK]<;>rfl,by simp only[Rep],h.1 rfl ⟨rfl⟩⟩
   |some p=>exact⟨.bool true,.bool true,by simp[aQ,hw,dK]<;>rfl,by simp only[Rep],h.2⟩
  ·exact h.elim
 ·exact h.elim
theorem aZy(hT:dA E T){ne nb:Bool}(qr:ne=true->H.w0.em=false){b:BinOp}{t:TY}{x y:SV}{u v:Value}{K:SP}(h:bEj E T ne nb b t x y K)(hx:Rep ρ A H x u)(hy:Rep ρ A H y v):∃w s,aQ E b t u v=some w/\Rep ρ A H s w/\K s:=by
 unfold bEj at h;split at h
 ·rename_i b' ks l;simp only[Rep] at hx hy;subst hy;cases ne with
  |false=>exact h.elim
  |true=>
   obtain⟨l',e,_,_,hx⟩:=hx.row;cases e;rcases hx with⟨rfl|⟨rfl,sp⟩,rfl⟩|⟨a,cap,rfl,_⟩
   ·exact qX hT h fun _=>⟨rfl,rfl⟩
   ·simp_all
   ·exact qX hT h (fun e=>by cases e)
 ·simp only[Rep] at hx hy;subst hx;subst hy;exact qX hT h fun _=>⟨rfl,rfl⟩
 ·rename_i k n k' m;simp only[Rep] at hx hy;obtain⟨rfl,hn⟩:=hx;obtain⟨rfl,hm⟩:=hy;split at h
  ·have q:=gZ (K:=fun lo hi=>Ob (0<=m) (∀z,lo<=z->z<=hi->HyX (lo=0->z=(n*2^m.toNat)%(hi+1))->K (.int k z))) h;refine⟨_,.int k (k.wrap (n*2^min m.toNat k.bits)),bAd q.h rfl,by simp only[Rep];exact⟨trivial,kP (bB k _).1 (bB k _).2⟩,q.t _ (bB k _).1 (bB k _).2 ⟨fun h0=>?_⟩⟩;rw[nO h0];rcases Nat.le_total m.toNat k.bits with hb|hb
   ·rw[Nat.min_eq_left hb]
   ·rw[Nat.min_eq_right hb];have e1:k.max+1=2^k.bits:=by
     revert h0
     cases k<;>decide
    obtain⟨j,hj⟩:∃j,m.toNat=k.bits+j:=⟨m.toNat - k.bits,by omega⟩
    grind [Int.pow_add,Int.mul_assoc,Int.mul_emod_left,Int.mul_comm]
  ·have q:=gZ (K:=fun lo hi=>lo<=n->n<=hi->Ob (0<=m) (∀z,lo<=z->z<=hi->(0<=n->0<=z/\z<=n)->(0<n->0<m->z<n)->HyX (0<=n->z=n / 2^m.toNat)->K (.int k z))) h (cD hn).1 (cD hn).2;have hp:(0:Int)<2^min m.toNat k.bits:=Int.pow_pos (by omega);have e:n.fdiv (2^min m.toNat k.bits)=n / (2^min m.toNat k.bits):=Int.fdiv_eq_ediv_of_nonneg _ (Int.le_of_lt hp);have k0:k.min<=0/\ -1<=k.max/\(0<=n\/k.min<= -1):=by
    have:=(cD hn).1
    grind [IntKind.min,IntKind.max,IntKind.bits,IntKind.signed]
   have hr:k.min<=n / (2^min m.toNat k.bits)/\n / (2^min m.toNat k.bits)<=k.max/\(0<=n->0<=n / (2^min m.toNat k.bits)/\n / (2^min m.toNat k.bits)<=n):=by
    have w:=cD hn;rcases Int.le_total 0 n with h0|h0
    ·grind [Int.ediv_nonneg,Int.le_of_lt,Int.ediv_le_self,min]
    ·have a1:n<=n / (2^min m.toNat k.bits):=by
      have:=(Int.le_ediv_iff_mul_le (a:=n) (b:=n) hp).2 (by
       have:n*(2^min m.toNat k.bits)<=n*1:=Int.mul_le_mul_of_nonpos_left h0 (by omega);omega)
      exact this
     have a2:n / (2^min m.toNat k.bits)<=0:=by
      have:=Int.ediv_le_ediv hp h0;simpa using this
     have k1:0<=k.max:=by cases k<;>simp[IntKind.max,IntKind.bits,IntKind.signed]
     omega
   have hs:0<n->0<m->n / (2^min m.toNat k.bits)<n:=fun a b=>by
    obtain⟨j,hj⟩:∃j,min m.toNat k.bits=j+1:=⟨min m.toNat k.bits - 1,by
     have:1<=k.bits:=by cases k<;>decide
     omega⟩
    rw[hj,Int.pow_succ];have p:(0:Int)<2^j:=Int.pow_pos (by omega);have p1:(2:Int)<=2^j*2:=by omega
    generalize (2:Int)^j*2=w at p1;have:=Int.mul_le_mul_of_nonneg_left p1 (Int.le_of_lt a);exact Int.ediv_lt_of_lt_mul (by omega) (by omega)
   exact⟨_,_,lI q.h e,by simp only[Rep];exact⟨trivial,kP hr.1 hr.2.1⟩,q.t _ hr.1 hr.2.1 hr.2.2 hs ⟨fun h0=>bAn h0 (cD hn).2⟩⟩
  ·cases e:kEq k k' with
   |true=>
    rw[e,QT] at h;have:=fR e;subst this;cases nb with
    |false=>exact aFa h hn hm
    |true=>
     rw[QT] at h;cases ec:bCm b with
     |true=>rw[ec] at h;exact aSq h
     |false=>rw[ec] at h;exact aFa h hn hm
   |false=>simp_all
 ·rename_i p q;simp only[Rep] at hx hy;subst hx;subst hy;split at h
  ·rename_i ti qs;split at h
   ·rename_i qn;obtain⟨w,hw,_,hs⟩:=(hT _ _ qs).und;rw[qn] at hs;simp only[cM] at hs;subst hs;split at h
    ·exact⟨_,.bool (p==q),aUs hw,by simp only[Rep],rP h⟩
    ·exact⟨_,.bool (!(p==q)),aOw hw,by simp only[Rep],rP h⟩
    ·exact h.elim
   ·exact h.elim
  ·exact h.elim
 ·rename_i s1 s2;simp only[Rep] at hx hy;obtain⟨rfl,oc⟩:=hx;obtain⟨rfl,yw⟩:=hy;split at h
  ·by_cases e:s1.data.toList.length=s2.data.toList.length
   ·have q:=h.t e;cases hb:(s1.data.toList==s2.data.toList) with
    |true=>exact⟨_,.bool true,by rw[wP,hb],by simp only[Rep],q.1 ⟨aCa (beq_iff_eq.1 hb)⟩⟩
    |false=>exact⟨_,.bool false,by rw[wP,hb],by simp only[Rep],q.2 ⟨fun e=>by simp_all⟩⟩
   ·have hb:(s1.data.toList==s2.data.toList)=false:=by
     grind
    exact⟨_,.bool false,by rw[wP,hb],by simp only[Rep],h.f e⟩
  ·by_cases e:s1.data.toList.length=s2.data.toList.length
   ·have q:=h.t e;cases hb:(s1.data.toList !=s2.data.toList) with
    |true=>exact⟨_,.bool true,by rw[tD,hb],by simp only[Rep],q.1 ⟨fun e=>by subst e;simp at hb⟩⟩
    |false=>exact⟨_,.bool false,by rw[tD,hb],by simp only[Rep],q.2 ⟨aCa (by simp_all)⟩⟩
   ·have hb:(s1.data.toList !=s2.data.toList)=true:=by
     grind
    exact⟨_,.bool true,by rw[tD,hb],by simp only[Rep],h.f e⟩
  ·refine⟨_,.bool (Op.bytesLess s1.data.toList s2.data.toList),rfl,by simp only[Rep],?_⟩;cases Op.bytesLess s1.data.toList s2.data.toList with
   |true=>exact h.1
   |false=>exact h.2
  ·refine⟨_,.bool (Op.bytesLess s1.data.toList s2.data.toList||s1.data.toList==s2.data.toList),rfl,by simp only[Rep],?_⟩;cases(Op.bytesLess s1.data.toList s2.data.toList||s1.data.toList==s2.data.toList) with
   |true=>exact h.1
   |false=>exact h.2
  ·refine⟨_,.bool (!(Op.bytesLess s1.data.toList s2.data.toList||s1.data.toList==s2.data.toList)),rfl,by simp only[Rep],?_⟩;cases(Op.bytesLess s1.data.toList s2.data.toList||s1.data.toList==s2.data.toList) with
   |true=>exact h.2
   |false=>exact h.1
  ·refine⟨_,.bool (!(Op.bytesLess s1.data.toList s2.data.toList)),rfl,by simp only[Rep],?_⟩;cases Op.bytesLess s1.data.toList s2.data.toList with
   |true=>exact h.2
   |false=>exact h.1
  ·refine⟨_,.str ⟨⟨s1.data.toList++s2.data.toList⟩⟩,bBb h.h rfl,?_,h.t _ (by simp) ⟨rfl⟩⟩;simp only[Rep];refine⟨trivial,?_⟩;have:=h.h;show(s1.data.toList++s2.data.toList).length<=maxLen;rw[List.length_append];exact this
  ·exact h.elim
 ·rename_i xs ys;simp only[Rep] at hx hy;obtain⟨us,rfl,hx⟩:=hx;obtain⟨vs,rfl,hy⟩:=hy;split at h
  ·rename_i a b ha hb;have e1:=aBp ha hx;have e2:=aBp hb hy;subst e1;subst e2;exact aVt hT ha hb h.h h.t
  ·exact h.elim
 ·simp only[Rep] at hx hy;obtain⟨N,_,rfl⟩:=hx;subst hy;split at h
  ·rename_i ti qs;obtain⟨w,hw,_,hs⟩:=(hT _ _ qs).und;split at h
   ·rename_i _ e qn;rw[qn] at hs;simp only[cM] at hs;subst hs;exact⟨.bool false,.bool false,by simp only[aQ,hw];rfl,by simp only[Rep],h⟩
   ·rename_i _ e qn;rw[qn] at hs;simp only[cM] at hs;subst hs;exact⟨.bool true,.bool true,by simp only[aQ,hw];rfl,by simp only[Rep],h⟩
   ·exact h.elim
  ·exact h.elim
 ·simp only[Rep] at hx hy;obtain⟨_,p,xs,rfl,_⟩:=hx;subst hy;split at h
  ·rename_i ti qs;obtain⟨w,hw,_,hs⟩:=(hT _ _ qs).und;split at h
   ·rename_i _ e qn;rw[qn] at hs;simp only[cM] at hs;subst hs;exact⟨.bool false,.bool false,by simp only[aQ,hw];rfl,by simp only[Rep],h⟩
   ·rename_i _ e qn;rw[qn] at hs;simp only[cM] at hs;subst hs;exact⟨.bool true,.bool true,by simp only[aQ,hw];rfl,by simp only[Rep],h⟩
   ·exact h.elim
  ·exact h.elim
 ·simp only[Rep] at hx hy;subst hx;subst hy;split at h
  ·rename_i ti qs;obtain⟨w,hw,_,hs⟩:=(hT _ _ qs).und;split at h
   ·rename_i _ e qn;rw[qn] at hs;simp only[cM] at hs;subst hs;exact⟨.bool true,.bool true,by simp only[aQ,hw];rfl,by simp only[Rep],h⟩
   ·rename_i _ e qn;rw[qn] at hs;simp only[cM] at hs;subst hs;exact⟨.bool false,.bool false,by simp only[aQ,hw];rfl,by simp only[Rep],h⟩
   ·exact h.elim
  ·exact h.elim
 ·exact h.elim
theorem xX:∀{l:SL} {n:Nat} {s:SV},atS l n=some s->l[n]?=some s
 |x::r,0,s,h=>by simpa [atS] using h
 |x::r,n+1,s,h=>by simp only[atS] at h;simpa using xX h
 |[],_,_,h=>by simp[atS] at h
theorem aVs:∀{l:KL} {n:Nat} {s:Kd},atK l n=some s->l[n]?=some s
 |x::r,0,s,h=>by simpa [atK] using h
 |x::r,n+1,s,h=>by simp only[atK] at h;simpa using aVs h
 |[],_,_,h=>by simp[atK] at h
theorem nC:∀{n:Nat} {l m:SL},qT n l=some m->m=l.take n/\n<=l.length
 |0,l,m,h=>by grind [qT]
 |n+1,x::r,m,h=>by
  simp only[qT] at h;split at h
  ·rename_i q hq;cases h;have:=nC hq;simp[this.1,this.2]
  ·cases h
 |n+1,[],m,h=>by simp[qT] at h
theorem rA:∀{n:Nat} {l m:SL},uG n l=some m->m=l.drop n/\n<=l.length
 |0,l,m,h=>by grind [uG]
 |n+1,x::r,m,h=>by
  simp only[uG] at h;have:=rA h;simp[this.1,this.2]
 |n+1,[],m,h=>by simp[uG] at h
theorem aCl:∀{n:Nat} {l m:KL},aIi n l=some m->m=l.take n/\n<=l.length
 |0,l,m,h=>by grind [aIi]
 |n+1,x::r,m,h=>by
  simp only[aIi] at h;split at h
  ·rename_i q hq;cases h;have:=aCl hq;simp[this.1,this.2]
  ·cases h
 |n+1,[],m,h=>by simp[aIi] at h
theorem dQ:∀l:SL,fV l=l.length
 |[]=>rfl
 |_::r=>by simp[fV,dQ r]
theorem nK:∀{l:SL} {o:Nat} {ys m:SL},qB l o ys=some m->m=l.take o++(ys++l.drop (o+ys.length))/\o+ys.length<=l.length
 |r,0,[],m,h=>by
  grind [qB]
 |x::r,0,y::ys,m,h=>by
  simp only[qB] at h;split at h
  ·rename_i q hq;cases h;have:=nK hq
   simp_all
  ·cases h
 |x::r,n+1,ys,m,h=>by
  simp only[qB] at h;split at h
  ·rename_i q hq;cases h;have:=nK hq
   grind
  ·cases h
 |[],0,y::ys,m,h=>by simp[qB] at h
 |[],n+1,ys,m,h=>by simp[qB] at h
theorem rW{c:SV}:∀m,gD m [c]=List.replicate m c
 |0=>rfl
 |m+1=>by simp only[gD,rW m,List.replicate_succ,List.singleton_append]
theorem aSc{cs r:SL}{o m k:Nat}{c:SV}(h1:uG o cs=some (c::r))(h2:qT m (c::r)=some (gD m [c]))(hk:k<m):cs[o+k]?=some c:=by
 have a:=(rA h1).1;have b:=(nC h2).1;have e:((cs.drop o).take m)[k]?=some c:=by rw[<-a,<-b,rW,List.getElem?_replicate,if_pos hk]
 simp_all
theorem Reps.spl{ss ys:SL}{us vs:VL}{o:Nat}(h:Reps ρ A H ss us)(k:Reps ρ A H ys vs):Reps ρ A H (ss.take o++(ys++ss.drop (o+ys.length))) (us.take o++(vs++us.drop (o+vs.length))):=by
 rw[k.len];exact h.take.app (k.app h.drop)
theorem nF(hT:dA E T){nb:Bool}{t:TY}{cs:SL}{vs:VL}{o:Nat}{K:SP}(h:kV T nb t cs o K)(hr:Reps ρ A H cs vs):
 ∃s v,K s/\Rep ρ A H s v/\∃dd,E.und t=some dd/\((cW dd=false/\vs[o]?=some v)\/(cW dd=true/\∃ii xs,E.inf t=some ii/\o+ii.size<=vs.length/\(vs.drop o).take ii.size=xs/\v=.agg ⟨xs⟩)):=by
 unfold kV at h;split at h
 ·rename_i ti qs;obtain⟨u,hu,yn,_⟩:=(hT _ _ qs).und;obtain⟨z,hi,_⟩:=(hT _ _ qs).inf;split at h
  ·rename_i ha;split at h
   ·rename_i cs' ya;have q0:=rA ya;split at h
    ·rename_i m hm;have q:=nC hm;have hl:=hr.len;refine⟨_,.agg ⟨(vs.drop o).take ti.size⟩,cJ h,?_,u,hu,.inr ⟨by rw[yn,ha],_,_,hi,?_,rfl,rfl⟩⟩
     ·simp only[Rep];refine⟨_,rfl,?_⟩;rw[q.1,q0.1];exact hr.drop.take
     grind
    ·exact h.elim
   ·exact h.elim
  ·rename_i ha;split at h
   ·rename_i s hs;obtain⟨y,h1,h2⟩:=hr.at (xX hs)
    grind [jS,rP]
   ·exact h.elim
 ·exact h.elim
end
end Go.AM
namespace Go.AM
open Go.RowKit
variable [σ:Sg]
variable [γ:Gam]
theorem aBc:∀{n:Nat} {l m:KL},aIt n l=some m->m=l.drop n/\n<=l.length
 |0,l,m,h=>by grind [aIt]
 |n+1,x::r,m,h=>by
  simp only[aIt] at h;have:=aBc h;simp[this.1,this.2]
 |n+1,[],m,h=>by simp[aIt] at h
section
variable {P:PG}{E:Env P}{T:TTb}{ρ:RM}{A:NQ}{H:AH}
omit [γ:Gam] in
def CellsAt(E:Env P)(t:TY)(vs:VL)(o:Nat)(v:Value):Prop:=∃dd,E.und t=some dd/\((cW dd=false/\vs[o]?=some v)\/(cW dd=true/\∃ii xs,E.inf t=some ii/\o+ii.size<=vs.length/\(vs.drop o).take ii.size=xs/\v=.agg ⟨xs⟩))
theorem aQm(hT:dA E T){t:TY}{ks:KL}{c:CL}{xs:VL}{o:Nat}{K:SP}(h:wEl T t ks c o K)(hr:CellsA A H ks xs c):∃s v,K s/\Rep ρ A H s v/\CellsAt E t xs o v:=by
 have R:Reps ρ A H (aN ks c 0) xs:=hr.reps rfl;have hl:=hr.len.1;unfold wEl at h;split at h
 ·rename_i ti qs;obtain⟨u,hu,yn,_⟩:=(hT _ _ qs).und;obtain⟨z,hi,_⟩:=(hT _ _ qs).inf;split at h
  ·rename_i ha;split at h
   ·rename_i k1 oq;have q0:=aBc oq;split at h
    ·rename_i k2 wc;have q:=aCl wc;refine⟨_,.agg ⟨(xs.drop o).take ti.size⟩,mL h,?_,u,hu,.inr ⟨by rw[yn,ha],_,_,hi,?_,rfl,rfl⟩⟩
     ·simp only[Rep];refine⟨_,rfl,?_⟩;have:=R.drop (n:=o);have:=this.take (n:=ti.size);rw[sO,Nat.zero_add] at this
      simp_all
     grind
    ·exact h.elim
   ·exact h.elim
  ·rename_i ha;split at h
   ·rename_i k hk;have:=nA (c:=c) (j:=0) (aVs hk);rw[Nat.zero_add] at this;obtain⟨y,h1,h2⟩:=R.at this;exact⟨_,y,rP (fD (K:=fun o=>aKa (kSV k c o) K) h),h2,u,hu,.inl ⟨by rw[yn,ha],h1⟩⟩
   ·exact h.elim
 ·exact h.elim
theorem CellsAt.data{S H0:AH}{A0:NQ}{L:OL}{t:TY}{xs:VL}{o m:Nat}{v:Value}{p:Addr}(h:CellsAt E t xs o v)(hp:InA A p.block)(hl:aloads H0 p m=some xs):cZ E S H0 A0 A L t (p.add o) v:=by
 obtain⟨dd,hu,⟨ha,hv⟩|⟨ha,ii,ys,hi,qf,hy,rfl⟩⟩:=h
 ·grind [gC,lt_of_getElem?,jH,InA.add,aNt,trans]
 ·have qe:=gC hl;subst hy;exact vR hu ha hi rfl (InA.add hp) (aHw hl (by omega))
theorem CellsAt.own{S H0:AH}{A0:NQ}{L:OL}{t:TY}{xs:VL}{o N sz:Nat}{ex:Bool}{v:Value}(h:CellsAt E t xs o v)(hm:(N,AObj.cells xs sz ex)∈L):cZ E S H0 A0 A L t ⟨2*N+1,o,none⟩ v:=by
 obtain⟨dd,hu,⟨ha,hv⟩|⟨ha,ii,ys,hi,qf,hy,rfl⟩⟩:=h
 ·grind [lJ]
 ·exact aBg hu ha hi rfl hm qf hy
theorem CellsAt.elem{t:TY}{cs:VL}{q m o:Nat}{v:Value}(h:CellsAt E t ((cs.drop q).take m) o v)(hl:q+m<=cs.length):CellsAt E t cs (q+o) v:=by
 obtain⟨dd,hu,⟨ha,hv⟩|⟨ha,ii,ys,hi,qf,hy,rfl⟩⟩:=h
 ·refine⟨dd,hu,.inl ⟨ha,?_⟩⟩
  grind
 ·refine⟨dd,hu,.inr ⟨ha,ii,_,hi,?_,rfl,?_⟩⟩
  ·grind
  grind [List.length_take,List.length_drop,List.drop_take,List.drop_drop,Nat.min_eq_left]
end
section
variable {P:PG}{E:Env P}{T:TTb}{G:RG}{ri:RI}{i n d nx:Nat}{r:OL2}{Q:FQ}{t:Tr Value}{l:LV}{H0:AH}{A:NQ}{ρ:RM}{fs:FR}{hp:HP}{PS:PSs}{L0:OL}
 {ty:TY}{ps:String}{af:Array Edge}{gd:OB}{x y:Operand}
theorem RiOk.dl{K:Prop}(h:RiOk G ri PS L0 nx A H0)(k:wdl ri i K){ta:TY}{a:Addr}{v:Value}(hl:∀{S A0 L},cZ E S H0 A0 A L ta a v):K/\(cZ E G.S (qH G H0) G.A0 (qA G A) (qL G (flt PS++L0)) ta a v\/(fF (bef G.ops) G.ms i=true/\cZ E G.S H0 G.A0 A (flt PS++L0) ta a v)):=by
 unfold wdl at k;rw[h.d,h.ops,h.ms] at k;cases hD:G.D with
 |false=>
  rw[hD,QF] at k;refine⟨k,.inl ?_⟩;unfold qH qA qL
  simp_all
 |true=>
  rw[hD,QT] at k;cases hg:ri.G with
  |false=>
   rw[hg,QF] at k;refine⟨k,.inl ?_⟩;obtain⟨e1,e2⟩:=h.gr hD hg;unfold qH qA qL
   simp_all
  |true=>
   rw[hg,QT] at k;exact⟨k.t,.inr ⟨k.h,hl⟩⟩
theorem RiOk.ld{K:Prop}{id:Nat}{X Y:PSs}{La:OL}{M:Nat}{ob:AObj}(h:RiOk G ri PS L0 nx A H0)(k:wld ri i id K)(qq:PS=X++(id,La)::Y)(hm:(M,ob)∈La){ta:TY}{a:Addr}{v:Value}(hl:∀{S H0 A0 A L},(M,ob)∈L->cZ E S H0 A0 A L ta a v):
 K/\(cZ E G.S (qH G H0) G.A0 (qA G A) (qL G (flt PS++L0)) ta a v\/(fF (bef G.ops) G.ms i=true/\cZ E G.S H0 G.A0 A (flt PS++L0) ta a v)):=by
 have yg:(M,ob)∈flt PS++L0:=by
  grind [bN,flt,List.mem_append_left,List.mem_append_right]
 unfold wld at k;rw[h.d,h.ops,h.ms] at k;cases hD:G.D with
 |false=>
  rw[hD,QF] at k;refine⟨k,.inl ?_⟩;unfold qH qA qL
  simp_all
 |true=>
  rw[hD,QT] at k;cases hg:aJ id ri.st with
  |true=>
   rw[hg,QT] at k;refine⟨k,.inl ?_⟩;unfold qH qA qL;rw[hD,QT,QT,QT,<-h.lw hD];refine hl ?_;rw[qq,gO];simp only[fA,hg,QT]
   simp_all
  |false=>
   rw[hg,QF] at k;exact⟨k.t,.inr ⟨k.h,hl yg⟩⟩
theorem OwS.pos{b:Nat}{ks:KL}{r:LX}{x:Value}{La:OL}(h:OwS A H0 b ks r x La){j:Int}(h0:0<=j/\j<((r.length:Nat):Int)):∃M cs ex,x=.slice (some ⟨2*M+1,0,none⟩) r.length r.length/\La=[(M,.cells cs ks.length ex)]/\Typd A H0 ks r cs:=by
 obtain⟨o1,o2,⟨rfl,rfl,rfl⟩|h⟩:=h
 ·simp at h0;omega
 ·exact h
theorem kT{K:NQ}{j:Int}{n:Nat}(h:yO j n K):0<=j/\j<((n:Nat):Int)/\K j.toNat:=by
 unfold yO at h;split at h
 ·simp_all
 ·exact h.elim
theorem aQn(hT:dA E T)(hD:Den E ρ nx fs hp PS A H0 l)(hR:RiOk G ri PS L0 nx A H0){ta:TY}{s:SV}{u:Value}{K:SP}(h:aQw T ri i ta s hp K)(hx:Rep ρ A H0 s u):
 ∃s' v a,K s'/\Rep ρ A H0 s' v/\u=.pointer (some a)/\(cZ E G.S (qH G H0) G.A0 (qA G A) (qL G (flt PS++L0)) ta a v\/(fF (bef G.ops) G.ms i=true/\cZ E G.S H0 G.A0 A (flt PS++L0) ta a v)):=by
 unfold aQw at h;split at h
 ·rename_i g o;simp only[Rep] at hx;subst hx;split at h
  ·rename_i m' k F ti hb qs;obtain⟨w,hw,ha,hs⟩:=(hT _ _ qs).und;split at h
   ·rename_i k' qn;rw[qn] at hs;simp only[cM] at hs;subst hs;cases ek:kEq k k' with
    |false=>simp_all
    |true=>
     rw[ek,QT] at h;have ho:=h.h;obtain⟨hg,hF⟩:=hR.tb.1.2.2 _ _ _ _ hb;obtain⟨z,hz,hr⟩:=hg o ho;have q:K (.int k z):=by
      have q:=gZ h.t z hr.1 hr.2
      grind
     refine⟨.int k z,.int k z,_,q,by simp only[Rep];exact⟨trivial,kP hr.1 hr.2⟩,rfl,.inl fun H hH=>?_⟩;simp only[eA,hw,cW,QF,aload,show 2*g%2=0 by omega,show Nat.beq 0 0=true from rfl,QT,show 2*g / 2=g by omega,HS.w0' hH];rw[show(G.S.w0).cell? ⟨g,o,none⟩=some (.int k z) from hz];rfl
   ·exact h.elim
  ·exact h.elim
 ·rename_i id o;simp only[Rep] at hx;obtain⟨N,e1,rfl⟩:=hx;split at h
  ·rename_i bt cs hg;obtain⟨L,X,Y,qq,⟨N',vs,r1,r2,r3⟩,_⟩:=hD.hp.get hg;rw[e1] at r1;simp only[Option.some.injEq,Value.pointer.injEq,Addr.mk.injEq] at r1;have eN:N'=N:=by omega
   subst eN;subst r2
   -- the cells first
   have key:∀k:kV T ri.nb ta cs o K,∃s' v,K s'/\Rep ρ A H0 s' v/\CellsAt E ta vs o v:=fun k=>nF hT k r3;by_cases hk:kV T ri.nb ta cs o K
   ·obtain⟨s',v,k1,k2,k3⟩:=key hk;have:=hR.ld h qq (List.mem_cons_self ..) (fun hm=>k3.own hm)
    grind
   ·exfalso;apply hk;unfold wld at h
    revert h
    cases ri.D<;>cases aJ id ri.st<;>intro h<;>first|exact h|exact h.t
  ·exact h.elim
 ·rename_i id o m;simp only[Rep] at hx;obtain⟨N,k,e1,hk,rfl⟩:=hx;split at h
  ·rename_i bt cs ti hg qs;obtain⟨w,hw,ha,hs⟩:=(hT _ _ qs).und;split at h
   ·rename_i k' qn;rw[qn] at hs;simp only[cM] at hs;subst hs;split at h
    ·rename_i lo hi rr hd;cases ek:kEq .i64 k' with
     |false=>simp_all
     |true=>
      rw[ek,QT] at h;obtain⟨L,X,Y,qq,⟨N',vs,r1,r2,r3⟩,_⟩:=hD.hp.get hg;rw[e1] at r1;simp only[Option.some.injEq,Value.pointer.injEq,Addr.mk.injEq] at r1;have eN:N'=N:=by omega
      subst eN;subst r2;obtain⟨v,v1,v2⟩:=r3.at (aSc hd h.h hk);simp only[Rep] at v2;obtain⟨z,rfl,z1,z2,z3⟩:=v2;have zz:=cD z1;have hq:∀z:Int,lo<=z->z<=hi-> -9223372036854775808<=z->z<=9223372036854775807->K (.int .i64 z):=by
       have h:=h.t;unfold wld at h
       revert h
       cases ri.D<;>cases aJ id ri.st<;>intro h<;>first|exact h|exact h.t
      have ca:CellsAt E ta vs (o+k) (.int .i64 z):=⟨_,hw,.inl ⟨rfl,v1⟩⟩;have:=hR.ld h.t qq (List.mem_cons_self ..) (fun hm=>ca.own hm);exact⟨_,.int .i64 z,_,hq z z2 z3 (by grind [IntKind.min,IntKind.bits,IntKind.signed]) (by simp_all),by simp only[Rep];exact⟨trivial,z1⟩,rfl,this.2⟩
    ·exact h.elim
   ·exact h.elim
  ·exact h.elim
 ·rename_i ks c o;simp only[Rep] at hx;obtain⟨p,xs,rfl,r1,r2,r3⟩:=hx;have hk:wEl T ta ks c o K:=by
   unfold wdl at h
   revert h
   cases ri.D<;>cases ri.G<;>intro h<;>first|exact h|exact h.t
  obtain⟨s',v,k1,k2,k3⟩:=aQm (ρ:=ρ) hT hk r3;have:=hR.dl h (fun {S A0 L}=>k3.data (L:=L) r1 r2)
  grind
 ·rename_i b ks c o sl;simp only[Rep] at hx;obtain⟨el,p,xs,rfl,r1,r2,r3⟩:=hx;cases eb:Nat.ble b o with
  |false=>simp_all
  |true=>?_
  rw[eb,QT] at h;have eb:=QL eb;have hk:kV T ri.nb ta sl (o - b) K:=by
   unfold wdl at h
   revert h
   cases ri.D<;>cases ri.G<;>intro h<;>first|exact h|exact h.t
  obtain⟨s',v,k1,k2,k3⟩:=nF (ρ:=ρ) hT hk (el▸r3.reps rfl);have k3:CellsAt E ta xs (o - b) v:=k3;have:=hR.dl h (fun {S A0 L}=>k3.data (L:=L) (by rw[aMx];exact r1) r2);rw[jP,show b+(o - b)=o by omega] at this
  grind
 ·rename_i id j o m;simp only[Rep] at hx;obtain⟨M,ln,cp,e1,rfl⟩:=hx;split at h
  ·rename_i b ks r hg;cases em:Nat.beq m ks.length with
   |false=>simp_all
   |true=>
    rw[em,QT] at h;have em:=QN em;subst em;obtain⟨L,X,Y,qq,⟨x',r1,r2⟩,_⟩:=hD.hp.get hg;have hk:Ob (0<=j/\j<((r.length:Nat):Int)) (∀c,elC r j=c->wEl T ta ks c o K):=by
     have h':=h;unfold wld at h'
     revert h'
     cases ri.D<;>cases aJ id ri.st<;>intro h'<;>first|exact h'|exact h'.t
    obtain⟨M',cs,ex,q1,q2,q3⟩:=r2.pos hk.h;rw[e1] at r1;rw[q1] at r1;simp only[Option.some.injEq,Value.slice.injEq,Addr.mk.injEq] at r1;have eM:M'=M:=by omega
    subst eM;subst q2;obtain⟨g1,g2⟩:=q3.el j hk.h.1 hk.h.2;obtain⟨s',v,k1,k2,k3⟩:=aQm (ρ:=ρ) hT (hk.t _ rfl) g2;have k4:=k3.elem g1;have:=hR.ld h qq (List.mem_cons_self ..) (fun hm=>k4.own hm)
    grind
  ·rename_i b ks r j' id2 hg;split at h
   ·rename_i ti qs;obtain⟨w,hw,ha,hs⟩:=(hT _ _ qs).und;cases ea:ti.agg with
    |true=>simp_all
    |false=>
     rw[ea,QF] at h;cases em:Nat.beq m 1 with
     |false=>simp_all
     |true=>
      rw[em,QT] at h;cases eo:Nat.beq o 0 with
      |false=>simp_all
      |true=>
       rw[eo,QT] at h;have em:=QN em;have eo:=QN eo;subst em;subst eo;obtain⟨L,X,Y,qq,⟨x',y,r1,r2,o1,o2,o3,o4,o5,o6,M',cs,ex,q1,q2,q3⟩,_⟩:=hD.hp.get hg;have hk:Ob (j=j') (K (.ow id2)):=by
        have h':=h;unfold wld at h'
        revert h'
        cases ri.D<;>cases aJ id ri.st<;>intro h'<;>first|exact h'|exact h'.t
       have ej:=hk.h;subst ej;rw[e1] at r1;rw[q1] at r1;simp only[Option.some.injEq,Value.slice.injEq,Addr.mk.injEq] at r1;have eM:M'=M:=by omega
       subst eM;subst q2;have qm:j.toNat*ks.length+0<=cs.length:=by rw[q3.1,o5];omega
       have ca:CellsAt E ta (cs.take (j.toNat*ks.length+0)++([y]++cs.drop (j.toNat*ks.length+0+[y].length))) (j.toNat*1+0) y:=by
        refine⟨_,hw,.inl ⟨by rw[ha,ea],?_⟩⟩
        simp_all
       have:=hR.ld h qq (List.mem_cons_self ..) (fun hm=>ca.own hm);exact⟨.ow id2,y,_,hk.t,by grind [Rep],rfl,this.2⟩
   ·exact h.elim
  ·rename_i cs hg;split at h
   ·rename_i ti qs;obtain⟨w,hw,ha,hs⟩:=(hT _ _ qs).und;cases ea:ti.agg with
    |true=>simp_all
    |false=>
     rw[ea,QF] at h;cases em:Nat.beq m 1 with
     |false=>simp_all
     |true=>
      rw[em,QT] at h;cases eo:Nat.beq o 0 with
      |false=>simp_all
      |true=>
       rw[eo,QT] at h;have em:=QN em;have eo:=QN eo;subst em;subst eo;obtain⟨L,X,Y,qq,⟨M',vs,ex,q1,q2,q3⟩,_⟩:=hD.hp.get hg
       have hk:yO j (fV cs) fun a=>(match atS cs a with
        |some v=>K v
        |none=>False):=by
        have h':=h;unfold wld at h'
        revert h'
        cases ri.D<;>cases aJ id ri.st<;>intro h'<;>first|exact h'|exact h'.t
       obtain⟨_,_,hk⟩:=kT hk;split at hk
       ·rename_i v hv;obtain⟨y,y1,y2⟩:=q3.at (xX hv);rw[e1] at q1;simp only[Option.some.injEq,Value.slice.injEq,Addr.mk.injEq] at q1;have eM:M'=M:=by omega
        subst eM;subst q2;have ca:CellsAt E ta vs (j.toNat*1+0) y:=⟨_,hw,.inl ⟨by rw[ha,ea],by simp_all⟩⟩;have:=hR.ld h qq (List.mem_cons_self ..) (fun hm=>ca.own hm)
        grind
       ·exact hk.elim
   ·exact h.elim
  ·exact h.elim
 ·exact h.elim
theorem aWs{a:Addr}{ta:TY}{L:OL}{v:Value}(hw:gok G.ops l gd=true)(qd:Nat.ble (d+1) n=true)(hx:opv l x=some (.pointer (some a)))(hl:cZ E G.S (qH G H0) G.A0 (qA G A) (qL G L) ta a v\/(fF (bef G.ops) G.ms i=true/\cZ E G.S H0 G.A0 A L ta a v))(h:SO E G (i+1) r Q (fr n t ((d,v)::l)) H0 A L):
 SO E G i (⟨some d,.load ta x,ty,ps,af,gd⟩::r) Q (fr n t l) H0 A L:=by
 grind [gK,aQj]
theorem aPj(hT:dA E T){ta:TY}{s:SV}{u:Value}{f:Nat}{K:SP}(h:aGz T ta s f K)(hx:Rep ρ A H0 s u):∃s' v,K s'/\Rep ρ A H0 s' v/\eQ E ta u f=some v:=by
 unfold aGz at h;split at h
 ·rename_i ti qs;split at h
  ·rename_i fs' qn;obtain⟨w,hw,_,hs⟩:=(hT _ _ qs).und;rw[qn] at hs;obtain⟨F,rfl,_,hF⟩:=hs;split at h
   ·rename_i o' ft sz hf;obtain⟨fd,ii,f1,f2,f3,f4,f5⟩:=hF _ _ _ _ hf;have key:∀{a:Addr},eQ E ta (.pointer (some a)) f=some (.pointer (some (a.add o'))):=by
     intro a;simp only[eQ,hw,f1,f3,f4,f5,QF,f2]
    split at h
    ·rename_i id o;simp only[Rep] at hx;obtain⟨N,e1,rfl⟩:=hx;exact⟨_,_,h,by simp only[Rep];exact⟨N,e1,rfl⟩,by rw[key,gJ]⟩
    ·rename_i ks c o;simp only[Rep] at hx;obtain⟨p,xs,rfl,r1,r2,r3⟩:=hx;exact⟨_,_,h,by simp only[Rep];exact⟨p,xs,rfl,r1,r2,r3⟩,by rw[key,jP]⟩
    ·rename_i b ks c o sl;simp only[Rep] at hx;obtain⟨el,p,xs,rfl,r1,r2,r3⟩:=hx;exact⟨_,_,h,by simp only[Rep];exact⟨el,p,xs,rfl,r1,r2,r3⟩,by rw[key,jP]⟩
    ·rename_i id j o m;simp only[Rep] at hx;obtain⟨M,ln,cp,e1,rfl⟩:=hx;exact⟨_,_,h,by simp only[Rep];exact⟨M,ln,cp,e1,rfl⟩,by rw[key,gJ,Nat.add_assoc]⟩
    ·exact h.elim
   ·exact h.elim
  ·exact h.elim
 ·exact h.elim
theorem dP{kk:IntKind}{j:Int}{m:Nat}(h0:0<=j)(h1:j<((m:Nat):Int)):nZ (.int kk j) m=some j.toNat:=by
 simp only[nZ];simp_all
theorem qP{K:NQ}:∀{n a:Nat} {j:Int},aKn n a j K->((a:Nat):Int)<=j->j<((a+n:Nat):Int)->K j.toNat
 |0,a,j,_,h1,h2=>by omega
 |n+1,a,j,h,h1,h2=>by
  by_cases e:j=((a:Nat):Int)
  ·have:=h.1 e
   simp_all
  ·exact qP h.2 (by omega) (by omega)
theorem aJf(hT:dA E T)(hD:Den E ρ nx fs hp PS A H0 l){ta:TY}{s s2:SV}{u u2:Value}{lit:Bool}{K:SP}(h:aCu T ta s s2 hp lit K)(hx:Rep ρ A H0 s u)(hy:Rep ρ A H0 s2 u2):∃s' v,K s'/\Rep ρ A H0 s' v/\bJ E ta u u2=some v:=by
 unfold aCu at h;split at h
 ·rename_i kk j;simp only[Rep] at hy;obtain⟨rfl,hj⟩:=hy
  replace h:=gZ h (cD hj).1 (cD hj).2
  split at h
  ·rename_i ti qs;obtain⟨w,hw,_,hs⟩:=(hT _ _ qs).und;split at h
   ·-- a row of data
    rename_i b ks r;split at h
    ·rename_i e qn;rw[qn] at hs;simp only[cM] at hs;subst hs;split at h
     ·rename_i te zw;obtain⟨z,hi,_⟩:=(hT _ _ zw).inf;cases es:Nat.beq te.size ks.length with
      |false=>simp_all
      |true=>
       rw[es,QT] at h;have es:=QN es;simp only[Rep] at hx;obtain⟨r',a,cap,er,rfl,rx⟩:=hx.rowD;cases er;have q:=h rx.len;obtain⟨p,xs,e1,ix,lx,kx⟩:=rx.el j q.h.1 q.h.2;subst e1;refine⟨_,.pointer (some ((p.add (j.toNat*ks.length)).add 0)),q.t _ rfl,?_,?_⟩
       ·simp only[Rep];grind
       ·simp only[bJ,hw,hi,dP q.h.1 q.h.2,es,jP,Nat.add_zero]
     ·exact h.elim
    ·exact h.elim
   ·-- an own row
    rename_i id;split at h
    ·rename_i b ks r hg;split at h
     ·rename_i e qn;rw[qn] at hs;simp only[cM] at hs;subst hs;split at h
      ·rename_i te zw;obtain⟨z,hi,_⟩:=(hT _ _ zw).inf;cases es:Nat.beq te.size ks.length with
       |false=>simp_all
       |true=>
        rw[es,QT] at h;obtain⟨L,X,Y,qq,⟨x',r1,r2⟩,_⟩:=hD.hp.get hg;have q:=h r2.1;obtain⟨M,cs,ex,q1,q2,q3⟩:=r2.pos q.h;simp only[Rep] at hx;rw[r1] at hx;cases hx;subst q1;refine⟨_,.pointer (some ⟨2*M+1,j.toNat*te.size+0,none⟩),q.t,?_,?_⟩
        ·simp only[Rep];grind
        ·simp only[bJ,hw,hi,dP q.h.1 q.h.2,gJ,Nat.zero_add,Nat.add_zero]
      ·exact h.elim
     ·exact h.elim
    ·rename_i b ks r j' id2 hg;split at h
     ·rename_i e qn;rw[qn] at hs;simp only[cM] at hs;subst hs;split at h
      ·rename_i te zw;obtain⟨z,hi,_⟩:=(hT _ _ zw).inf;cases es:Nat.beq te.size 1 with
       |false=>simp_all
       |true=>
        rw[es,QT] at h;have es:=QN es;obtain⟨L,X,Y,qq,⟨x',y,r1,r2,o1,o2,o3,o4,o5,o6,M',cs,ex,q1,q2,q3⟩,_⟩:=hD.hp.get hg;simp only[Rep] at hx;rw[r1] at hx;cases hx;subst q1;refine⟨_,.pointer (some ⟨2*M'+1,j.toNat*te.size+0,none⟩),h.t,?_,?_⟩
        ·grind [Rep]
        ·simp only[bJ,hw,hi,dP h.h.1 h.h.2,gJ,Nat.zero_add,Nat.add_zero]
      ·exact h.elim
     ·exact h.elim
    ·rename_i cs hg;split at h
     ·rename_i e qn;rw[qn] at hs;simp only[cM] at hs;subst hs;split at h
      ·rename_i te zw;obtain⟨z,hi,_⟩:=(hT _ _ zw).inf;cases es:Nat.beq te.size 1 with
       |false=>simp_all
       |true=>
        rw[es,QT] at h;have es:=QN es;obtain⟨L,X,Y,qq,⟨M',vs,ex,q1,q2,q3⟩,_⟩:=hD.hp.get hg;obtain⟨h0,h1,hk⟩:=kT h;rw[dQ,<-q3.len] at h1;simp only[Rep] at hx;rw[q1] at hx;cases hx;refine⟨_,.pointer (some ⟨2*M'+1,j.toNat*te.size+0,none⟩),hk,?_,?_⟩
        ·grind [Rep]
        ·simp only[bJ,hw,hi,dP h0 h1,gJ,Nat.zero_add,Nat.add_zero]
      ·exact h.elim
     ·exact h.elim
    ·exact h.elim
   ·-- an array in a variable
    rename_i id o;split at h
    ·rename_i m e qn;rw[qn] at hs;simp only[cM] at hs;subst hs;split at h
     ·rename_i te zw;obtain⟨z,hi,_⟩:=(hT _ _ zw).inf;simp only[Rep] at hx;obtain⟨N,e1,rfl⟩:=hx
      have fin:(0<=j/\j<((m:Nat):Int)/\K (.ptr id (o+j.toNat*te.size)))->∃s' v,K s'/\Rep ρ A H0 s' v/\bJ E ta (.pointer (some ⟨2*N+1,o,none⟩)) (.int kk j)=some v:=fun key=>
       ⟨_,.pointer (some ⟨2*N+1,o+j.toNat*te.size,none⟩),key.2.2,by simp only[Rep];exact⟨N,e1,rfl⟩,by simp only[bJ,hw,hi,dP key.1 key.2.1,gJ]⟩
      split at h
      ·grind [kT]
      ·rcases h.h with h|h
       rotate_left
       ·grind [kT]
       cases e16:Nat.blt 16 m with
       |true=>
        rw[e16,QT] at h;cases es:Nat.beq te.size 1 with
        |false=>simp_all
        |true=>
         rw[es,QT] at h;have es:=QN es;refine⟨_,.pointer (some ⟨2*N+1,o+j.toNat*te.size,none⟩),h.t,?_,by simp only[bJ,hw,hi,dP h.h.1 h.h.2,gJ]⟩;simp only[Rep];exact⟨N,j.toNat,e1,by have:=h.h;omega,by rw[es,Nat.mul_one]⟩
       |false=>
        rw[e16,QF] at h;exact fin ⟨h.h.1,h.h.2,qP (K:=fun a=>K (.ptr id (o+a*te.size))) h.t (by have:=h.h;omega) (by have:=h.h;omega)⟩
     ·exact h.elim
    ·exact h.elim
   ·rename_i id jj o mm;split at h
    ·rename_i m e qn;rw[qn] at hs;simp only[cM] at hs;subst hs;split at h
     ·rename_i te zw;obtain⟨z,hi,_⟩:=(hT _ _ zw).inf;simp only[Rep] at hx;obtain⟨M,nn,cc,e1,rfl⟩:=hx;have key:0<=j/\j<((m:Nat):Int)/\K (.op id jj (o+j.toNat*te.size) mm):=by
       split at h
       ·exact kT (K:=fun a=>K (.op id jj (o+a*te.size) mm)) h
       ·exact⟨h.h.1,h.h.2,qP (K:=fun a=>K (.op id jj (o+a*te.size) mm)) h.t (by have:=h.h;omega) (by have:=h.h;omega)⟩
      exact⟨_,.pointer (some ⟨2*M+1,jj.toNat*mm+o+j.toNat*te.size,none⟩),key.2.2,by grind [Rep,Nat.add_assoc],by simp only[bJ,hw,hi,dP key.1 key.2.1,gJ]⟩
     ·exact h.elim
    ·exact h.elim
   ·rename_i ks c o;split at h
    ·rename_i m e qn;rw[qn] at hs;simp only[cM] at hs;subst hs;split at h
     ·rename_i te zw;obtain⟨z,hi,_⟩:=(hT _ _ zw).inf;simp only[Rep] at hx;obtain⟨p,xs,rfl,q1,q2,q3⟩:=hx;have key:0<=j/\j<((m:Nat):Int)/\K (.el ks c (o+j.toNat*te.size)):=by
       split at h
       ·exact kT (K:=fun a=>K (.el ks c (o+a*te.size))) h
       ·exact⟨h.h.1,h.h.2,qP (K:=fun a=>K (.el ks c (o+a*te.size))) h.t (by have:=h.h;omega) (by have:=h.h;omega)⟩
      exact⟨_,.pointer (some (p.add (o+j.toNat*te.size))),key.2.2,by simp only[Rep];grind,by simp only[bJ,hw,hi,dP key.1 key.2.1,jP]⟩
     ·exact h.elim
    ·exact h.elim
   ·exact h.elim
  ·exact h.elim
 ·exact h.elim
end
end Go.AM
namespace Go.AM
open Go.RowKit
variable [σ:Sg]
theorem tI(v:Value):(ext v).cells.toList=extL v.cells.toList:=by
 cases v with
 |agg cs=>cases cs with|mk l=>simp[ext,Value.cells]
 |pointer a=>cases a<;>simp[ext,Value.cells,extL]
 |slice a l c=>cases a<;>simp[ext,Value.cells,extL]
 |map a=>cases a<;>simp[ext,Value.cells,extL]
 |chan a=>cases a<;>simp[ext,Value.cells,extL]
 |_=>simp[ext,Value.cells,extL]
section
variable {P:PG}{E:Env P}{T:TTb}{ρ:RM}{A:NQ}{H:AH}
def isK(k:Kd)(s:SV):Prop:=match k with
 |.int k=>∃n,s=.int k n
 |.bool=>∃b,s=.bool b
 |.str=>∃b,s=.str b
 |.row b ks=>∃l,s=.row b ks l
theorem aHx{k:Kd}{s:SV}{v:Value}{K:SP}(h:coK k s K)(hr:Rep ρ A H s v):∃s',K s'/\isK k s'/\Rep ρ A H s' v/\CellA A H k v (cSV s'):=by
 unfold coK at h;split at h
 ·rename_i k k' n;cases e:kEq k k' with
  |false=>simp_all
  |true=>
   rw[e,QT] at h;have:=fR e;subst this;refine⟨_,h,⟨n,rfl⟩,hr,?_⟩;simp only[Rep] at hr;obtain⟨rfl,hn⟩:=hr;exact .mkI hn
 ·rename_i b;refine⟨_,h,⟨b,rfl⟩,hr,?_⟩;simp only[Rep] at hr;subst hr;exact .mkB
 ·rename_i b;refine⟨_,h,⟨b,rfl⟩,hr,?_⟩;simp only[Rep] at hr;obtain⟨rfl,hb⟩:=hr;exact .mkS hb
 ·rename_i b ks;simp only[Rep] at hr;subst hr;exact⟨_,h,⟨_,rfl⟩,by grind [Rep,uT],uT⟩
 ·rename_i b ks b' ks' r;cases e1:Nat.beq b b' with
  |false=>simp_all
  |true=>
   rw[e1,QT] at h;cases e2:kdsEq ks ks' with
   |false=>simp_all
   |true=>
    rw[e2,QT] at h;have e1:=QN e1;have e2:=kdsEq_ok e2;subst e1;subst e2;exact⟨_,h,⟨_,rfl⟩,hr,by simp only[Rep] at hr;exact hr⟩
 ·exact h.elim
inductive AreK:KL->List SV->Prop
 |nil:AreK [] []
 |cons {k:Kd} {s:SV} {ks:KL} {ss:SL} (h:isK k s) (t:AreK ks ss):AreK (k::ks) (s::ss)
theorem lC:∀{ks:KL} {ss:SL} {vs:VL} {K:SL->Prop},oC ks ss K->Reps ρ A H ss vs->∃ss',K ss'/\ss'=aN ks (ss'.map cSV) 0/\Reps ρ A H ss' vs/\CellsA A H ks vs (ss'.map cSV):=by
 intro ks;have gen:∀(ks:KL) (ss:SL) (vs:VL) (K:SL->Prop),oC ks ss K->Reps ρ A H ss vs->∃ss',K ss'/\AreK ks ss'/\Reps ρ A H ss' vs/\CellsA A H ks vs (ss'.map cSV):=by
  intro ks
  induction ks with
  |nil=>
   intro ss vs K h hr;cases ss with
   |nil=>
    cases vs with
    |nil=>exact⟨[],h,.nil,by simp only[Reps],by simp[CellsA]⟩
    |cons _ _=>simp only[Reps] at hr
   |cons _ _=>grind [vD,aBb,aBz,sE]
  |cons k ks ih=>
   intro ss vs K h hr;cases ss with
   |nil=>grind [vD,aBb,aBz,sE]
   |cons s ss=>
    cases vs with
    |nil=>simp only[Reps] at hr
    |cons v vs=>
     simp only[Reps] at hr;simp only[vD,aBb,aBz,sE] at h;obtain⟨s',h1,h2,h3,h4⟩:=aHx h hr.1;obtain⟨ss',q1,q2,q3,q4⟩:=ih ss vs _ h1 hr.2;exact⟨s'::ss',q1,.cons h2 q2,by grind [Reps],by grind [CellsA]⟩
 have form:∀(ks:KL) (ss pre:SL),AreK ks ss->ss=aN ks ((pre++ss).map cSV) pre.length:=by
  intro ks
  induction ks with
  |nil=>intro ss pre h;cases h;rfl
  |cons k ks ih=>
   intro ss pre h;cases h with
   | @cons _ s _ r h1 h2=>
     have i:=ih r (pre++[s]) h2;simp only[QA,List.singleton_append,List.length_append,List.length_cons,List.length_nil,Nat.zero_add] at i;simp only[aN];rw[<-i];congr 1;have hc:((pre++s::r).map cSV)[pre.length]?=some (cSV s):=by simp
     cases k with
     |int k=>obtain⟨n,rfl⟩:=h1;grind [kSV,cI,cV,cSV]
     |bool=>obtain⟨n,rfl⟩:=h1;grind [kSV,cB,cV,cSV]
     |str=>obtain⟨n,rfl⟩:=h1;grind [kSV,cS,cV,cSV]
     |row b ks=>obtain⟨n,rfl⟩:=h1;grind [kSV,cR,cSV]
 intro ss vs K h hr;obtain⟨ss',h1,h2,h3,h4⟩:=gen ks ss vs K h hr;exact⟨ss',h1,form ks ss' [] h2,h3,h4⟩
mutual
theorem aVj{i b:Nat}{ks:KL}{r:LX}{x:Value}(hx:ρ i=some x)(hc:CellA A H (.row b ks) x (.row r)):∀{s:SV} {v:Value},Rep ρ A H s v->Rep ρ A H (sbS i b ks r s) v
 |.ow j,v,h=>by
  simp only[sbS];cases e:Nat.beq j i with
  |false=>exact h
  |true=>
   have:=QN e;subst this;simp only[Rep] at h;rw[hx] at h;cases h;simp only[QT,Rep];exact hc
 |.agg l,v,h=>by simp only[Rep,sbS] at h ⊢;obtain⟨vs,h1,h2⟩:=h;exact⟨vs,h1,sbL_ok hx hc h2⟩
 |.tup l,v,h=>by simp only[Rep,sbS] at h ⊢;obtain⟨vs,h1,h2⟩:=h;exact⟨vs,h1,sbL_ok hx hc h2⟩
 |.fn g l,v,h=>by simp only[Rep,sbS] at h ⊢;obtain⟨vs,h1,h2⟩:=h;exact⟨vs,h1,sbL_ok hx hc h2⟩
 |.undef,v,h=>h
 |.int _ _,v,h=>h
 |.bool _,v,h=>h
 |.str _,v,h=>h
 |.nil,v,h=>h
 |.pnil,v,h=>h
 |.row _ _ _,v,h=>h
 |.el _ _ _,v,h=>h
 |.ptr _ _,v,h=>h
 |.op _ _ _ _,v,h=>h
 |.gp _ _,v,h=>h
 |.rng _ _,v,h=>h
 |.any,v,h=>h
 |.yl _,v,h=>h
 |.xp _ _ _,v,h=>h
 |.ep _ _ _ _ _,v,h=>h
theorem sbL_ok{i b:Nat}{ks:KL}{r:LX}{x:Value}(hx:ρ i=some x)(hc:CellA A H (.row b ks) x (.row r)):∀{s:SL} {v:VL},Reps ρ A H s v->Reps ρ A H (sbL i b ks r s) v
 |[],[],h=>by simp only[sbL,Reps]
 |s::t,v::vs,h=>by simp only[sbL,Reps] at h ⊢;exact⟨aVj hx hc h.1,sbL_ok hx hc h.2⟩
 |[],_::_,h=>by simp only[Reps] at h
 |_::_,[],h=>by simp only[Reps] at h
end
theorem aDg{i b:Nat}{ks:KL}{r:LX}{x:Value}(hx:ρ i=some x)(hc:CellA A H (.row b ks) x (.row r)):∀{fr:FR} {l:LV} {K:FR->Prop},sbF i b ks r fr K->RepF ρ A H fr l->∃fr',K fr'/\RepF ρ A H fr' l
 |[],l,K,h,hr=>⟨[],h,hr⟩
 |(j,s)::q,l,K,h,⟨v,l',h1,h2,h3⟩=>by
  simp only[aUk] at h;obtain⟨fr',q1,q2⟩:=aDg hx hc (jS h) h3;exact⟨_,q1,v,l',h1,aVj hx hc h2,q2⟩
theorem pP{i b:Nat}{ks:KL}{r:LX}{x:Value}(hx:ρ i=some x)(hc:CellA A H (.row b ks) x (.row r)):∀{hp:HP} {PS:PSs} {K:HP->Prop},sbH i b ks r hp K->RepH E ρ A H hp PS->∃qc,K qc/\RepH E ρ A H qc PS
 |[],PS,K,h,hr=>⟨[],h,hr⟩
 |(j,.box t cs)::q,PS,K,h,⟨L,PS',h1,⟨N,vs,k1,k2,k3⟩,h3⟩=>by
  simp only[aYm] at h;obtain⟨qc,q1,q2⟩:=pP hx hc (cJ h) h3;exact⟨_,q1,L,PS',h1,⟨N,vs,k1,k2,sbL_ok hx hc k3⟩,q2⟩
 |(j,.row b' ks' l')::q,PS,K,h,⟨L,PS',h1,h2,h3⟩=>by
  simp only[aZo] at h;obtain⟨qc,q1,q2⟩:=pP hx hc h h3;exact⟨_,q1,L,PS',h1,h2,q2⟩
 |(j,.oth o)::q,PS,K,h,⟨L,PS',h1,h2,h3⟩=>by
  cases o with
  |vals us cs=>
   rw[aSd] at h;obtain⟨qc,q1,q2⟩:=pP hx hc (cJ h) h3;obtain⟨x',e1,e2,e3⟩:=h2;exact⟨_,q1,L,PS',h1,⟨x',e1,e2,sbL_ok hx hc e3⟩,q2⟩
  |_=>
   rw[aZt (fun us cs e=>by cases e)] at h;obtain⟨qc,q1,q2⟩:=pP hx hc h h3;exact⟨_,q1,L,PS',h1,h2,q2⟩
theorem aCc{zs:SL}{us:VL}(h:Reps ρ A H zs us):∀n,Reps ρ A H (gD n zs) (List.replicate n us).flatten
 |0=>by simp[gD,Reps]
 |n+1=>by simp only[gD,List.replicate_succ,List.flatten_cons];exact h.app (aCc h n)
theorem qI(hρ:∀i v,ρ i=some v->v.oneCell'=true){place:Nat->Option (Nat×Nat)}:∀{parts:List (Nat×SV)} {vs:LV} {cells out:SL} {us:VL},aDz place cells parts=some out->Reps ρ A H cells us->RepF ρ A H parts vs->∃os,oN place us vs=some os/\Reps ρ A H out os
 |[],vs,cells,out,us,h,hr,hp=>by
  simp only[aDz,Option.some.injEq] at h;subst h;cases hp;exact⟨us,rfl,hr⟩
 |(i,s)::rest,vs,cells,out,us,h,hr,⟨v,l',h1,h2,h3⟩=>by
  subst h1;simp only[aDz] at h;simp only[oN];split at h
  ·cases h
  ·rename_i off size r9;split at h
   ·cases h
   ·rename_i l hl;cases e:Nat.beq (fV l) size with
    |false=>rw[e] at h;cases h
    |true=>
     rw[e,QT] at h;split at h
     ·cases h
     ·rename_i c2 xt;have q:=nK xt;have r1:=(Rep.one hρ h2 hl).1;have r2:=r1.len;have r3:=hr.len;have e1:=QN e;rw[dQ] at e1;have c1:(Nat.beq v.cells.toList.length size&&Nat.ble (off+v.cells.toList.length) us.length)=true:=by
       simp_all
      have c2':Reps ρ A H c2 (splice us off v.cells.toList):=by
       rw[q.1];unfold splice;exact hr.spl r1
      obtain⟨os,k1,k2⟩:=qI hρ h c2' h3
      grind
theorem aMf:∀ks:KL,aKc ks=ks.length
 |[]=>rfl
 |_::r=>by simp[aKc,aMf r]
theorem aKk{ks:KL}(hk:ks≠[]):∀{n:Nat} {cells:SL} {us:VL} {K:List SL->Prop},aRa n ks cells K->Reps ρ A H cells us->∃r l,K r/\l.length=n/\Typd A H ks l us/\l=(r.map fun x=>x.map cSV)
 |0,[],us,K,h,hr=>by
  cases us with
  |nil=>exact⟨[],[],h,rfl,Typd.nil,rfl⟩
  |cons _ _=>simp only[Reps] at hr
 |0,_::_,us,K,h,hr=>by grind [aZw]
 |n+1,cells,us,K,h,hr=>by
  simp only[aOf] at h;split at h
  ·rename_i l hl;have q:=nC hl;rw[aMf] at q h;obtain⟨ss,h1,_,_,h4⟩:=lC h (q.1▸hr.take (n:=ks.length));obtain⟨r,l2,k1,k2,k3,k6⟩:=aKk hk h1 (hr.drop (n:=ks.length));refine⟨_,ss.map cSV::l2,k1,by simp[k2],?_,by rw[k6];rfl⟩;have:=(Typd.one h4).app k3
   rwa [List.take_append_drop] at this
  ·exact h.elim
end
end Go.AM
namespace Go.AM
open Go.RowKit
variable [σ:Sg]
variable [γ:Gam]
omit [γ:Gam] in
def isP(p:PK)(s:SV):Prop:=match p with
 |.sc k=>isK k s
 |.ag ks=>∃c,s=.agg (aN ks c 0)
 |.pt b ks=>∃c,s=.ep b ks c 0 (aN ks c 0)
omit [γ:Gam] in
inductive AreP:List PK->List SV->Prop
 |nil:AreP [] []
 |cons {p:PK} {s:SV} {ps:List PK} {ss:SL} (h:isP p s) (t:AreP ps ss):AreP (p::ps) (s::ss)
omit [γ:Gam] in
def noR:RM:=fun _=>none
omit [γ:Gam] in
def CtrOk(P:PG)(tb:TBs)(g:FuncId)(c:Ctr):Prop:=∀(S H0:AH) (A0 A:NQ) (L0:OL) (ss:SL) (vs:VL),aVb S.w0 tb->AreP c.ps ss->Reps noR A H0 ss vs->c.pre ss->∀H,HS S H0 A0 A L0 H->XCall P g vs H fun u H'=>
 ∃H1 A1,Gr A H0 A1 H1/\HS S H1 A0 A1 L0 H'/\∃rs us,AreP c.rs rs/\Reps noR A1 H1 rs us/\u=bG us/\c.post ss rs
omit [γ:Gam] in
def extN:Nat->String
 |1=> "math/bits.Add64"
 |2=> "internal/bytealg.IndexByteString"
 |_=> "internal/bytealg.CountString"
omit [γ:Gam] in
def aAj(P:PG)(g:FuncId)(k:Nat):Prop:=∃F,P.funcs[g]?=some F/\F.body=none/\F.origin= ""/\F.name=extN k
theorem HS.shrink{S H0 H1 H:AH}{A0 A A1:NQ}{L:OL}(h:HS S H1 A0 A1 L H)(g:Gr A H0 A1 H1):HS S H0 A0 A L H:=
 ⟨h.kept,fun j hj=>(h.base j (g.sub j hj)).trans (g.get j hj),g.w0.symm.trans h.w0,fun j hj=>h.sub j (g.sub j hj),fun j hj=>h.lt j (g.sub j hj),fun p hp=>by
  obtain⟨a,b,c,d⟩:=h.own p hp;exact⟨a,b,c,fun hj=>d (g.sub _ hj)⟩,h.dist⟩
section
variable {ρ ρ':RM}{A A':NQ}{H H':AH}
theorem bBg{k:Kd}{c:CL}{j:Nat}{v:Value}(h:Rep ρ A H (kSV k c j) v):Rep ρ' A H (kSV k c j) v:=by
 cases k<;>grind [kSV,Rep]
theorem aEd:∀{ks:KL} {c:CL} {j:Nat} {vs:VL},Reps ρ A H (aN ks c j) vs->Reps ρ' A H (aN ks c j) vs
 |[],c,j,[],h=>by simp only[aN,Reps]
 |k::ks,c,j,v::vs,h=>by simp only[aN,Reps] at h ⊢;exact⟨bBg h.1,aEd h.2⟩
 |[],c,j,_::_,h=>by grind [aN,Reps]
 |_::_,c,j,[],h=>by grind [aN,Reps]
theorem uR{p:PK}{s:SV}{v:Value}(hp:isP p s)(h:Rep ρ A H s v):Rep ρ' A H s v:=by
 cases p with
 |sc k=>
  cases k with
  |int k=>obtain⟨n,rfl⟩:=hp;grind [Rep]
  |bool=>obtain⟨n,rfl⟩:=hp;grind [Rep]
  |str=>obtain⟨n,rfl⟩:=hp;grind [Rep]
  |row b ks=>obtain⟨n,rfl⟩:=hp;grind [Rep]
 |ag ks=>obtain⟨c,rfl⟩:=hp;grind [Rep,aEd]
 |pt b ks=>obtain⟨c,rfl⟩:=hp;grind [Rep]
theorem mY:∀{ps:List PK} {ss:SL} {vs:VL},AreP ps ss->Reps ρ A H ss vs->Reps ρ' A H ss vs
 |_,_,[],.nil,_=>by simp only[Reps]
 |_,_,v::vs,.cons h t,k=>by simp only[Reps] at k ⊢;exact⟨uR h k.1,mY t k.2⟩
 |_,_,_::_,.nil,k=>by simp only[Reps] at k
 |_,_,[],.cons h t,k=>by simp only[Reps] at k
theorem uO:∀{ks:KL} {c:CL} {j:Nat} {vs:VL},tG ks=true->Reps ρ A H (aN ks c j) vs->Reps ρ' A' H' (aN ks c j) vs
 |[],c,j,[],_,h=>by simp only[aN,Reps]
 |k::ks,c,j,v::vs,hf,h=>by
  simp only[aN,Reps] at h ⊢;cases k with
  |row b q=>simp[tG] at hf
  |int k=>exact⟨by grind [kSV,Rep],uO (by simpa [tG] using hf) h.2⟩
  |bool=>exact⟨by grind [kSV,Rep],uO (by simpa [tG] using hf) h.2⟩
  |str=>exact⟨by grind [kSV,Rep],uO (by simpa [tG] using hf) h.2⟩
 |[],c,j,_::_,_,h=>by grind [aN,Reps]
 |_::_,c,j,[],_,h=>by grind [aN,Reps]
theorem nX:∀{ps:List PK} {ss:SL} {vs:VL},pW ps=true->AreP ps ss->Reps ρ A H ss vs->Reps ρ' A' H' ss vs
 |_,_,[],_,.nil,_=>by simp only[Reps]
 |p::_,_::_,v::vs,hf,.cons h t,k=>by
  simp only[Reps] at k ⊢;cases p with
  |sc kk=>
   simp only[pW] at hf;cases kk with
   |row b q=>simp[tG] at hf
   |int kk=>obtain⟨n,rfl⟩:=h;exact⟨by grind [Rep],nX (by simpa [tG] using hf) t k.2⟩
   |bool=>obtain⟨n,rfl⟩:=h;exact⟨by grind [Rep],nX (by simpa [tG] using hf) t k.2⟩
   |str=>obtain⟨n,rfl⟩:=h;exact⟨by grind [Rep],nX (by simpa [tG] using hf) t k.2⟩
  |ag ks=>
   simp only[pW] at hf;cases e:tG ks with
   |false=>rw[e] at hf;cases hf
   |true=>
    rw[e,QT] at hf;obtain⟨c,rfl⟩:=h;refine⟨?_,nX hf t k.2⟩
    grind [Rep,uO]
  |pt b ks=>simp[pW] at hf
 |_,_,_::_,_,.nil,k=>by simp only[Reps] at k
 |_,_,[],_,.cons h t,k=>by simp only[Reps] at k
theorem tB{p:PK}{s:SV}{v:Value}{K:SP}(h:coP p s K)(hr:Rep ρ A H s v):∃s',K s'/\isP p s'/\Rep ρ A H s' v:=by
 unfold coP at h;split at h
 ·obtain⟨s',h1,h2,h3,_⟩:=aHx h hr;exact⟨s',h1,h2,h3⟩
 ·simp only[Rep] at hr;obtain⟨vs,rfl,hr⟩:=hr;obtain⟨ss,h1,h2,h3,_⟩:=lC h hr;exact⟨_,h1,⟨_,by rw[<-h2]⟩,by simp only[Rep];exact⟨vs,rfl,h3⟩⟩
 ·rename_i b ks b' ks' c o l;cases e0:Nat.beq b b' with
  |false=>simp_all
  |true=>?_
  rw[e0,QT] at h;have e0:=QN e0;subst e0;cases e1:kdsEq ks ks' with
  |false=>simp_all
  |true=>
   rw[e1,QT] at h;cases e2:Nat.beq o 0 with
   |false=>simp_all
   |true=>
    rw[e2,QT] at h;have e1:=kdsEq_ok e1;have e2:=QN e2;subst e1;subst e2;have sf:=hr;simp only[Rep] at sf;obtain⟨rfl,_⟩:=sf;exact⟨_,h,⟨c,rfl⟩,hr⟩
 ·exact h.elim
theorem aCx:∀{ps:List PK} {ss:SL} {vs:VL} {K:SL->Prop},xC ps ss K->Reps ρ A H ss vs->∃ss',K ss'/\AreP ps ss'/\Reps ρ A H ss' vs
 |[],[],[],K,h,_=>⟨[],h,.nil,by simp only[Reps]⟩
 |p::ps,s::ss,v::vs,K,h,hr=>by
  simp only[Reps] at hr;simp only[aPb] at h;obtain⟨s',h1,h2,h3⟩:=tB h hr.1;obtain⟨ss',q1,q2,q3⟩:=aCx h1 hr.2;exact⟨s'::ss',q1,.cons h2 q2,by grind [Reps]⟩
 |[],_::_,_,K,h,_=>by grind [aMl,aLn]
 |_::_,[],_,K,h,_=>by grind [aMl,aLn]
 |[],[],_::_,K,_,h=>by simp only[Reps] at h
 |_::_,_::_,[],K,_,h=>by simp only[Reps] at h
theorem aYc{k:Kd}{s:SV}{K:SP}(h:allK k K)(hs:isK k s):K s:=by
 cases k with
 |int k=>obtain⟨n,rfl⟩:=hs;exact h n
 |bool=>
  obtain⟨b,rfl⟩:=hs;cases b with
  |true=>exact h.1
  |false=>exact h.2
 |str=>obtain⟨n,rfl⟩:=hs;exact h n
 |row b ks=>obtain⟨n,rfl⟩:=hs;exact h n
theorem aVf{k:Kd}{s:SV}{K:SP}(h:bCs k K)(hs:isK k s):K s:=by
 cases k<;>(obtain⟨n,rfl⟩:=hs;exact h n)
theorem aCh{p:PK}{s:SV}{K:SP}(h:aZf p K)(hs:isP p s):K s:=by
 cases p with
 |sc k=>exact aYc h hs
 |ag ks=>obtain⟨c,rfl⟩:=hs;exact mL (h c)
 |pt b ks=>obtain⟨c,rfl⟩:=hs;exact mL (K:=fun l=>K (.ep b ks c 0 l)) (h c)
theorem qJ:∀{ps:List PK} {ss:SL} {K:SL->Prop},aAr ps K->AreP ps ss->K ss
 |[],_,K,h,.nil=>h
 |_::ps,_::ss,K,h,.cons hp t=>qJ (ps:=ps) (ss:=ss) (K:=fun vs=>K (_::vs)) (aCh h hp) t
theorem pU:∀{ks:KL} {c:CL} {j:Nat} {xs:VL},Reps ρ A H (aN ks c j) xs->CellsA A H ks xs ((aN ks c j).map cSV)
 |[],c,j,[],h=>by simp[aN,CellsA]
 |[],c,j,_::_,h=>by grind [aN,Reps]
 |_::_,c,j,[],h=>by grind [aN,Reps]
 |k::ks,c,j,x::xs,h=>by
  simp only[aN,Reps] at h;simp only[aN,List.map_cons,CellsA];refine⟨?_,pU h.2⟩;have h1:=h.1;cases k with
  |int k=>simp only[kSV,Rep] at h1;obtain⟨rfl,hn⟩:=h1;exact .mkI hn
  |bool=>simp only[kSV,Rep] at h1;subst h1;exact .mkB
  |str=>simp only[kSV,Rep] at h1;obtain⟨rfl,hb⟩:=h1;exact .mkS hb
  |row b q=>simp only[kSV,Rep] at h1;exact h1
theorem rB{ss:SL}{vs:VL}(h:Reps ρ A H ss vs):Rep ρ A H (oB ss) (bG vs):=by
 match ss,vs,h with
 |[],[],_=>simp only[oB,Rep];exact⟨[],rfl,by simp only[Reps]⟩
 |[s],[v],h=>grind [Reps,oB,bG]
 |a::b::r,v::w::q,h=>simp only[oB,Rep];exact⟨_,rfl,h⟩
 |[],_::_,h=>simp only[Reps] at h
 |_::_,[],h=>simp only[Reps] at h
 |[_],_::_::_,h=>grind [Reps]
 |_::_::_,[_],h=>grind [Reps]
end
omit [γ:Gam] in
def lO(ρ:RM)(i:Nat)(x:Value):RM:=fun j=>if j=i then some x else ρ j
theorem fH{ρ:RM}{i:Nat}{x:Value}(h:ρ i=none):RMle ρ (lO ρ i x):=fun j v e=>by
 unfold lO
 grind
section
variable {P:PG}{E:Env P}{T:TTb}{C:CTb}{G:RG}{ri:RI}{i n d nx:Nat}{r:OL2}{Q:FQ}{t:Tr Value}{l:LV}{H0:AH}{A:NQ}{ρ:RM}{fs:FR}{hp:HP}{PS:PSs}{L0:OL}
 {ty:TY}{ps:String}{af:Array Edge}{gd:OB}{x y:Operand}
theorem Den.push(h:Den E ρ nx fs hp PS A H0 l){x:Value}(hx:x.oneCell'=true){o:SJ}{La:OL}(ho:∀{ρ'},RMle ρ ρ'->ρ' nx=some x->RepO E ρ' A H0 nx o La):Den E (lO ρ nx x) (nx+1) fs ((nx,o)::hp) ((nx,La)::PS) A H0 l:=by
 have qf:RMle ρ (lO ρ nx x):=fH (h.no nx (Nat.le_refl _));refine⟨fun j hj=>?_,fun j v e=>?_,RepF.mono qf (Gr.refl _ _) h.fr,La,PS,rfl,ho qf (if_pos rfl),RepH.mono qf (Gr.refl _ _) h.hp⟩
 ·unfold lO;rw[if_neg (by omega)];exact h.no j (by omega)
 ·unfold lO at e;by_cases hj:j=nx
  ·simp_all
  ·rw[if_neg hj] at e;exact h.one j v e
def KV(E:Env P)(G:RG)(ri:RI)(L0:OL)(i n d:Nat)(r:OL2)(Q:FQ)(t:Tr Value)(l:LV)(ρ:RM)(A:NQ)(H0:AH)(K:SV->FR->HP->Nat->Prop):Prop:=
 ∀s fs' qc nx',K s fs' qc nx'->∀ρ' PS' A' H' u,Den E ρ' nx' fs' qc PS' A' H' l->RiOk G ri PS' L0 nx' A' H'->RMle ρ ρ'->Gr A H0 A' H'->Rep ρ' A' H' s u->SO E G (i+1) r Q (fr n t ((d,u)::l)) H' A' (flt PS'++L0)
def KVx(E:Env P)(G:RG)(ri:RI)(L0:OL)(i n d:Nat)(r:OL2)(Q:FQ)(t:Tr Value)(l:LV)(ρ:RM)(A:NQ)(H0:AH)(K:SV->FR->HP->Nat->Prop):Prop:=
 ∀s fs' qc nx',K s fs' qc nx'->∀ρ' PS' A' H' u,Den E ρ' nx' fs' qc PS' A' H' l->RiOk G ri PS' L0 nx' A' H'->FxR ri.fx ρ ρ'->Gr A H0 A' H'->Rep ρ' A' H' s u->SO E G (i+1) r Q (fr n t ((d,u)::l)) H' A' (flt PS'++L0)
theorem KVx.kv{K:SV->FR->HP->Nat->Prop}(h:KVx E G ri L0 i n d r Q t l ρ A H0 K):KV E G ri L0 i n d r Q t l ρ A H0 K:=fun s fs' qc nx' k ρ' PS' A' H' u a b c e f=>h s fs' qc nx' k ρ' PS' A' H' u a b c.fx e f
theorem KV.here{K:SV->FR->HP->Nat->Prop}(hK:KV E G ri L0 i n d r Q t l ρ A H0 K)(hD:Den E ρ nx fs hp PS A H0 l)(hR:RiOk G ri PS L0 nx A H0){s:SV}{u:Value}(h:K s fs hp nx)(hu:Rep ρ A H0 s u):SO E G (i+1) r Q (fr n t ((d,u)::l)) H0 A (flt PS++L0):=
 hK _ _ _ _ h _ _ _ _ _ hD hR (RMle.refl _) (Gr.refl _ _) hu
theorem KV.new{K:SV->FR->HP->Nat->Prop}(hK:KV E G ri L0 i n d r Q t l ρ A H0 K)(hD:Den E ρ nx fs hp PS A H0 l)(hR:RiOk G ri PS L0 nx A H0){s:SV}{o:SJ}{qc:HP}{PS':PSs}{La:OL}{x:Value}(hx:x.oneCell'=true)(qo:Den E ρ nx fs qc PS' A H0 l)(mi:RiOk G ri PS' L0 nx A H0)(ho:∀{ρ'},RMle ρ ρ'->ρ' nx=some x->RepO E ρ' A H0 nx o La)
 (h:K s fs ((nx,o)::qc) (nx+1))(hu:∀{ρ'},RMle ρ ρ'->ρ' nx=some x->Rep ρ' A H0 s x):SO E G (i+1) r Q (fr n t ((d,x)::l)) H0 A (La++(flt PS'++L0)):=by
 have:=hK _ _ _ _ h _ _ _ _ x (qo.push hx ho) (mi.push La) (fH (hD.no nx (Nat.le_refl _))) (Gr.refl _ _) (hu (fH (hD.no nx (Nat.le_refl _))) (if_pos rfl))
 grind [flt,QA]
theorem OwS.one'{b:Nat}{ks:KL}{rr:LX}{x:Value}{La:OL}(h:OwS A H0 b ks rr x La):x.oneCell'=true:=by
 obtain⟨_,_,⟨_,rfl,_⟩|⟨M,cs,ex,rfl,_⟩⟩:=h<;>rfl
theorem KV.row{K:SV->FR->HP->Nat->Prop}(hK:KV E G ri L0 i n d r Q t l ρ A H0 K)(hD:Den E ρ nx fs hp PS A H0 l){qc:HP}{PS':PSs}{La:OL}{x:Value}(qo:Den E ρ nx fs qc PS' A H0 l)(mi:RiOk G ri PS' L0 nx A H0){b:Nat}{ks:KL}{rr:LX}(ow:OwS A H0 b ks rr x La)
 (h:K (.ow nx) fs ((nx,.row b ks rr)::qc) (nx+1)):SO E G (i+1) r Q (fr n t ((d,x)::l)) H0 A (La++(flt PS'++L0)):=by
 have qf:=fH (x:=x) (hD.no nx (Nat.le_refl _));have:=hK _ _ _ _ h _ _ _ _ x (qo.push (o:=.row b ks rr) (La:=La) ow.one' (fun _ hr=>⟨x,hr,ow⟩)) (mi.push La) qf (Gr.refl _ _) (by simp only[Rep];exact if_pos rfl)
 grind [flt,QA]
theorem aKp{ops:OL2}{f:Fr}{id:Nat}{K:Nat->List Kd->List CL->FR->HP->Prop}(hD:Den E ρ nx fs hp PS A H0 l)(hR:RiOk G ri PS L0 nx A H0)(h:aRb ri id fs hp K)
 (hK:∀b ks rr fs' qc PS' A1 H1,K b ks rr fs' qc->Den E ρ nx fs' qc PS' A1 H1 l->RiOk G ri PS' L0 nx A1 H1->Gr A H0 A1 H1->(∀{s v},Reps ρ A H0 s v->Reps ρ A1 H1 (sbL id b ks rr s) v)->SO E G i ops Q f H1 A1 (flt PS'++L0)):SO E G i ops Q f H0 A (flt PS++L0):=by
 unfold aRb at h;split at h
 ·rename_i b ks rr hg;obtain⟨La,X,Y,qq,⟨x,r1,r2⟩,_,_,xc⟩:=hD.hp.get hg;have hG:(G.D=true->ri.G=true)/\wns ri id (lR id hp fun hp=>sbF id b ks rr fs fun fr=>sbH id b ks rr hp fun hp=>K b ks rr fr hp):=by
   unfold wgr at h;rw[hR.d] at h
   grind
  obtain⟨qv,h⟩:=hR.ns hG.2;obtain⟨zx,h,hh⟩:=xc _ h;subst qq;refine aPs (L':=flt (X++Y)++L0) r2 (by grind [bN,flt,QA,Takes.ow]) (fun qw=>(hR.del qv).sub qw) ?_;rintro H1 A1 a g rfl rx;have hc:CellA A1 H1 (.row b ks) (.slice a rr.length rr.length) (.row rr):=rx.cell;obtain⟨fs1,h,k1⟩:=aDg r1 hc h (RepF.mono (RMle.refl _) g hD.fr);obtain⟨ze,h,k2⟩:=pP r1 hc h (RepH.mono (RMle.refl _) g hh);exact hK b ks rr fs1 ze _ _ _ h ⟨hD.no,hD.one,k1,k2⟩ ((hR.del qv).grow hG.1) g fun hr=>sbL_ok r1 hc (Reps.mono (RMle.refl _) g hr)
 ·exact h.elim
theorem vM{ops:OL2}{f:Fr}:∀{m:Nat} {ss:SL} {us:VL} {fs:FR} {hp:HP} {PS:PSs} {A:NQ} {H0:AH} {K:SL->FR->HP->Prop},Den E ρ nx fs hp PS A H0 l->RiOk G ri PS L0 nx A H0->Reps ρ A H0 ss us->aEa m ri ss fs hp K->
 (∀ss' fs' qc PS' A1 H1,K ss' fs' qc->Den E ρ nx fs' qc PS' A1 H1 l->RiOk G ri PS' L0 nx A1 H1->Gr A H0 A1 H1->Reps ρ A1 H1 ss' us->SO E G i ops Q f H1 A1 (flt PS'++L0))->SO E G i ops Q f H0 A (flt PS++L0)
 |0,ss,us,fs,hp,PS,A,H0,K,hD,hR,hr,h,hK=>hK _ _ _ _ _ _ h hD hR (Gr.refl _ _) hr
 |m+1,ss,us,fs,hp,PS,A,H0,K,hD,hR,hr,h,hK=>by
  simp only[aIr] at h;split at h
  ·grind [Gr.refl]
  ·refine aKp hD hR h fun b ks rr fs' qc PS' A1 H1 k zk wg g hs=>?_;exact vM zk wg (hs hr) (cJ k) fun ss' fs2 ze PS2 A2 H2 k2 yr xk g2 vq=>hK _ _ _ _ _ _ k2 yr xk (g.trans g2) vq
theorem aGh(hρ:∀i v,ρ i=some v->v.oneCell'=true):∀{ss:SL} {us:VL},scS ss=true->Reps ρ A H0 ss us->aZ us=true
 |[],[],_,_=>rfl
 |q::ss,u::us,hs,h=>by
  simp only[Reps] at h;have e:∃q',cX q=some [q']/\u.oneCell'=true/\scS ss=true:=by
   cases q<;>first|(simp[scS] at hs;done)|exact⟨_,rfl,(Rep.one hρ h.1 rfl).2,hs⟩
  obtain⟨q',e1,e2,e3⟩:=e;have:=aGh hρ e3 h.2
  simp_all [aZ]
 |[],_::_,_,h=>by simp only[Reps] at h
 |_::_,[],_,h=>by simp only[Reps] at h
end
end Go.AM
