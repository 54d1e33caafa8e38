/-
  An abstract machine that runs a program of the given form, and its soundness, part 4.
-/
import Derived.Test.YtfcmggoiphphnaaGreatDoorAb3
import Derived.LoopNIn
import Derived.Carry
import GoSem.ClaimChange
set_option linter.unusedVariables false
set_option linter.unusedSimpArgs false
set_option linter.unusedSectionVars false
noncomputable section
namespace Go.AM
open Go.RowKit
variable [σ:Sg]
section
variable [γ:Gam]{P:PG}{Q:AQ}{f:Fr}{H:AH}
theorem aNm [Pins]{φ:PL}{w0:Base}{y:Code}{Q:AQ}{e:Exit}{a:Act}{w:World}{R:AQ}
 (hn:∀f H,R .normal f H->ACode P y Q f H)(ho:∀e f H,e≠.normal->R e f H->Q e f H){ro:Option Nat}(hg:γ.ok ‹Pins› ro φ)(h:iZ φ w0 R e a w):Exit.then (y.wpIn (cL ro) 0 P (iZ φ w0 Q)) (iZ φ w0 Q) e a w:=by
 obtain⟨φ',f,H,h1,h2,h3,h4,h5⟩:=h;cases e with
 |normal=>
  refine wpIn_mono (hn f H h5 _ ro φ' a w (γ.mono h1 hg) h2 h3) fun e a w k=>?_;rw[h4] at k;exact kR h1 k
 |_=>exact⟨φ',f,H,h1,h2,h3,h4,ho _ f H (by simp) h5⟩
theorem ACode.mono{c:Code}{Q':AQ}(h:ACode P c Q f H)(hq:∀e f H,Q e f H->Q' e f H):ACode P c Q' f H:=
 fun π ro φ a w hg hf hR=>wpIn_mono (h _ ro φ a w hg hf hR) fun _ _ _ ⟨φ',f,H,h1,h2,h3,h4,h5⟩=>⟨φ',f,H,h1,h2,h3,h4,hq _ _ _ h5⟩
theorem ACode.here{c:Code}{e:Exit}(hw:∀{ro:Option Nat} {R:Exit->Act->World->Prop} {a:Act} {w:World},R e a w->c.wpIn (cL ro) 0 P R a w)(h:Q e f H):ACode P c Q f H:=
 fun π ro φ _ _ hg hf hR=>hw ⟨φ,f,H,List.prefix_refl _,hf,hR,rfl,h⟩
theorem ACode.skip(h:Q .normal f H):ACode P .skip Q f H:=ACode.here (fun k=>wpIn_skip k) h
theorem ACode.label{l:Nat}(h:Q .normal f H):ACode P (.label l) Q f H:=ACode.here (fun k=>wpIn_label k) h
theorem ACode.exit{i:Nat}(h:Q (.exit i) f H):ACode P (.exit i) Q f H:=ACode.here (fun k=>wpIn_exit k) h
theorem ACode.ret(h:Q .ret f H):ACode P .ret Q f H:=ACode.here (fun k=>wpIn_ret k) h
theorem ACode.seq{x y:Code}{R:AQ}(h:ACode P x R f H)(hn:∀f H,R .normal f H->ACode P y Q f H)(ho:∀e f H,e≠.normal->R e f H->Q e f H):ACode P (.seq x y) Q f H:=
 fun π ro φ a w hg hf hR=>wpIn_seq (wpIn_mono (h _ ro φ a w hg hf hR) fun _ _ _ k=>aNm hn ho hg k)
theorem ACode.cond{c:Operand}{x y:Code}{b:Bool}(hc:aK f c=.bool b)(h:ACode P (if b then x else y) Q f H):ACode P (.cond c x y) Q f H:=by
 intro π ro φ a w hg hf hR;have hv:=hf.eval c;rw[hc] at hv;generalize zd:a.eval c=cc at hv;cases hv;exact wpIn_cond zd (h _ ro φ a w hg hf hR)
theorem ACode.block{i:Nat}{c:Code}(h:ACode P c (fun e f H=>match e with|.exit j=>if j=i then Q .normal f H else Q (.exit j) f H|e=>Q e f H) f H):ACode P (.block i c) Q f H:=by
 intro π ro φ a w hg hf hR;refine wpIn_block (wpIn_mono (h _ ro φ a w hg hf hR) ?_);rintro e a w ⟨φ',f,H,h1,h2,h3,h4,h5⟩;cases e with
 |exit j=>
  simp only[Exit.inBlock];simp only at h5;split
  ·rename_i e;rw[if_pos e] at h5;exact⟨φ',f,H,h1,h2,h3,h4,h5⟩
  ·rename_i e;rw[if_neg e] at h5;exact⟨φ',f,H,h1,h2,h3,h4,h5⟩
 |_=>exact⟨φ',f,H,h1,h2,h3,h4,h5⟩
theorem ACode.region{i:Nat}{ops:OA}(h:AOps P ops (List.range ops.size) Q f H):ACode P (.region i ops false) Q f H:=fun π ro φ a w hg hf hR=>wpIn_region (h _ ro φ a w hg hf hR)
end
def aIn:VL->Nat->Tr Value->Tr Value
 |[],_,t=>t
 |v::r,i,t=>aIn r (i+1) (t.set i (some v))
def rC(args:VL)(ntmps:Nat):Fr:=⟨args.length+(ntmps - args.length),aIn args 0 .nil⟩
theorem aUq:∀(l:VL) (i:Nat) (t:Tr Value) (j:Nat),(aIn l i t).get j=if j<i then t.get j else if j<i+l.length then l[j - i]? else t.get j:=by
 intro l
 induction l with
 |nil=>
  intro i t j;simp only[aIn,List.length_nil,Nat.add_zero];by_cases h:j<i
  ·rw[if_pos h]
  ·rw[if_neg h,if_neg h]
 |cons v r ih=>
  intro i t j;simp only[aIn,ih,Tr.get_set,List.length_cons];by_cases h1:j<i
  ·rw[if_pos (by omega),if_neg (by omega),if_pos h1]
  ·rw[if_neg h1];by_cases h2:j=i
   ·subst h2;simp
   ·rw[if_neg (by omega),if_neg h2];by_cases h3:j<i+1+r.length
    ·rw[if_pos h3,if_pos (by omega),show j - i=(j - (i+1))+1 by omega];simp
    ·rw[if_neg h3,if_neg (by omega)]
theorem aDb [π:Pins]{φ:PL}{args args':VL}(h:VRs φ args args')(n:Nat): @FRel σ ⟨⟨π.pin,[]⟩⟩ φ (rC args n) {tmps:=⟨args'⟩++Array.replicate (n - (⟨args'⟩:Array Value).size) undef,defers:=[]}:=by
 refine⟨rfl,by simp[rC,h.1],fun t=>?_⟩;simp only[aK,rC,aUq,Nat.not_lt_zero,if_false,Nat.zero_add,Nat.sub_zero];by_cases ht:t<args.length
 ·rw[if_pos ht];have pv:t<args'.length:=h.1▸ht;simp only[ht,List.getElem?_eq_getElem];have:(⟨args'⟩++Array.replicate (n - (⟨args'⟩:Array Value).size) undef).getD t undef=args'[t]:=by
   simp[Array.getD_eq_getD_getElem?,Array.getElem?_append,pv]
  rw[this];exact h.2 t _ _ (by simp[ht]) (by simp[pv])
 ·rw[if_neg ht];have pv:¬t<args'.length:=h.1▸ht;have:(⟨args'⟩++Array.replicate (n - (⟨args'⟩:Array Value).size) undef).getD t undef=undef:=by
   simp only[Array.getD_eq_getD_getElem?,Array.getElem?_append,List.size_toArray,pv,if_false,Array.getElem?_replicate];split<;>rfl
  rw[this];exact VR.undef φ
section
variable {P:PG}(E:Env P)
def rK(f:Fr)(H:AH):ResultVar->Option Value
 |.tmp t=>some (aK f (.tmp t))
 |.cell a t=>(match aK f (.tmp a) with
  |.pointer (some p)=>eA E t p H
  |_=>none)
def bS(f:Fr)(H:AH):List ResultVar->Option VL
 |[]=>some []
 |r::l=>(match rK E f H r,bS f H l with
  |some v,some vs=>some (v::vs)
  |_,_=>none)
def bG:VL->Value
 |[v]=>v
 |vs=>.tuple ⟨vs⟩
theorem aDt [Pins]{φ:PL}{f:Fr}{H:AH}{a:Act}{w:World}(hf:FRel φ f a)(R:Rel φ H w):∀(rs:List ResultVar) (vs:VL),bS E f H rs=some vs->
 ∃vs',VRs φ vs vs'/\(rs.mapM (fun|.tmp t=>pure (a.tmps.getD t undef)|.cell p t=>do loadVar t (<-asAddr (a.tmps.getD p undef))):Sem VL).run P w=.ok vs' w:=by
 intro rs
 induction rs with
 |nil=>intro vs h;simp[bS] at h;subst h;exact⟨[],VRs.nil φ,by simp⟩
 |cons r rs ih=>
  intro vs h;simp only[bS] at h;split at h
  ·rename_i v vs2 hv me;cases h;obtain⟨vs',h1,h2⟩:=ih vs2 me;cases r with
   |tmp t=>
    simp only[rK] at hv;cases hv;exact⟨_::vs',VRs.cons (hf.2.2 t) h1,by simp only[List.mapM_cons,Sem.run_bind,Sem.run_pure,Result.andThen_ok,h2]⟩
   |cell p t=>
    simp only[rK] at hv;split at hv
    ·rename_i q hq;have hr:=hf.2.2 p;rw[hq] at hr;generalize zd:a.tmps.getD p undef=cc at hr;cases hr with
     |ptr hA=>
      obtain⟨v',q1,q2⟩:=lZ E R hA hv;have dg:∀w,(asAddr (a.tmps.getD p undef)).run P w=.ok _ w:=fun w=>by rw[zd];rfl
      exact⟨v'::vs',VRs.cons q2 h1,by simp only[List.mapM_cons,Sem.run_bind,dg,Sem.run_pure,Result.andThen_ok,q1,h2]⟩
    ·cases hv
  ·cases h
theorem mW [Pins]{φ:PL}{f:Fr}{H:AH}{a:Act}{w:World}(hf:FRel φ f a)(R:Rel φ H w){F:Func}{rs:List ResultVar}(hF:F.results.toList=rs){vs:VL}(h:bS E f H rs=some vs):
 ∃v',VR φ (bG vs) v'/\(results F a.tmps).run P w=.ok v' w:=by
 obtain⟨vs',h1,h2⟩:=aDt E hf R rs vs h;refine⟨if h:(⟨vs'⟩:Array Value).size=1 then(⟨vs'⟩:Array Value)[0] else .tuple ⟨vs'⟩,?_,?_⟩
 ·cases vs with
  |nil=>
   have:vs'=[]:=List.eq_nil_of_length_eq_zero h1.1.symm;subst this;exact VR.tuple' (VRs.nil φ)
  |cons v r=>
   cases vs' with
   |nil=>have:=h1.1;simp at this
   |cons v' r'=>
    cases r with
    |nil=>
     have:r'=[]:=List.eq_nil_of_length_eq_zero (by have:=h1.1;simpa using this.symm);subst this;simpa [bG] using h1.head
    |cons u s=>
     have qr:¬(⟨v'::r'⟩:Array Value).size=1:=by have:=h1.1;simp at this ⊢;intro e;rw[e] at this;simp at this
     rw[dif_neg qr];exact VR.tuple' h1
 ·unfold results;rw[Array.mapM_eq_mapM_toList,hF];simp only[Sem.run_bind,Sem.run_map]
  erw [h2]
  rfl
theorem ACalls.body{g:FuncId}{x:AFn}(hg:E.fn g=some x){args:VL}{H:AH}{Q:Value->AH->Prop}
 (h:ACode P x.body (fun e f H'=>(e=.normal\/e=.ret)/\∃vs,bS E f H' x.results=some vs/\Q (bG vs) H') (rC args x.ntmps) H):ACalls P g args H Q:=by
 intro π φ args' w hv hR;obtain⟨F,hF,hb,hn,hr,_⟩:=E.fn_ok _ _ hg;refine calls_of_wp hF hb ?_;have hf:=aDb hv x.ntmps;rw[hn];have there:∀{φ:PL} {H:AH} {w:World},Rel φ H w->@Rel σ ⟨⟨π.pin,[]⟩⟩ φ H w:=fun R=> @Rel.mk σ ⟨⟨π.pin,[]⟩⟩ _ _ _ R.below R.len R.obj R.inj R.pin R.lt R.ro;refine wp_mono (wpIn_wide.1 (h ⟨⟨π.pin,[]⟩⟩ none φ _ w trivial hf (there hR))) ?_;rintro e a w' ⟨φ',f,H',h1,h2,h3,h4,h5,vs,h6,h7⟩;obtain⟨v',q1,q2⟩:= @mW σ _ E ⟨⟨π.pin,[]⟩⟩ _ _ _ _ _ h2 h3 _ _ hr _ h6;have h3:= @Rel.mk σ π _ _ _ (@Rel.below σ ⟨⟨π.pin,[]⟩⟩ _ _ _ h3) (@Rel.len σ ⟨⟨π.pin,[]⟩⟩ _ _ _ h3) (@Rel.obj σ ⟨⟨π.pin,[]⟩⟩ _ _ _ h3) (@Rel.inj σ ⟨⟨π.pin,[]⟩⟩ _ _ _ h3) (@Rel.pin σ ⟨⟨π.pin,[]⟩⟩ _ _ _ h3) (@Rel.lt σ ⟨⟨π.pin,[]⟩⟩ _ _ _ h3) (@Rel.ro σ ⟨⟨π.pin,[]⟩⟩ _ _ _ h3);rcases h5 with rfl|rfl
 ·exact⟨h2.1,v',q2,φ',_,v',H',h1,rfl,q1,h3,h4,h7⟩
 ·exact⟨h2.1,v',q2,φ',_,v',H',h1,rfl,q1,h3,h4,h7⟩
def tS(body:Fr->AH->Option (Exit×Fr×AH)):Nat->Fr->AH->Option (Exit×Fr×AH)
 |0,_,_=>none
 |n+1,f,H=>(match body f H with
  |some (.normal,f',H')=>tS body n f' H'
  |r=>r)
def pF [γ:Gam](P:PG)(c:Code)(e:Exit)(g:Fr)(K:AH)(f:Fr)(H:AH):Prop:=K.w0=H.w0/\ACode P c (fun e' g' K'=>e'=e/\g'=g/\K'=K) f H
theorem aIz{call:fW}(qh:jV P call){ops:OA}{g:Fr}{K:AH}:∀(l:OL2) (f:Fr) (H:AH),jI E call ops l f H=some (g,K)->K.w0=H.w0:=by
 intro l
 induction l with
 |nil=>intro f H h;simp[jI] at h;rw[h.2]
 |cons o r ih=>
  intro f H h;simp only[jI] at h;split at h
  ·rename_i v H' m hs;split at h
   ·rw[ih _ _ h];rcases cU E hs with⟨_,_,_,rfl⟩|⟨_,_,rfl,_⟩|⟨_,_,h2⟩|⟨_,_,c,args,_,h3⟩
    ·rfl
    ·rfl
    ·exact mT E h2
    ·exact(qh _ _ _ _ _ h3).1
   ·cases h
  ·cases h
theorem aAc{call:fW}(qh:jV P call){ops:OA}:∀(l:OL2) (f:Fr) (H:AH) (L:List fU) (g:Fr) (K:AH),hB E call ops l f H=some (L,g,K)->K.w0=H.w0:=by
 intro l
 induction l with
 |nil=>intro f H L g K h;simp[hB] at h;rw[h.2.2]
 |cons o r ih=>
  intro f H L g K h;simp only[hB] at h;split at h
  ·rename_i v H' m hs;split at h
   ·split at h
    ·rename_i L' x hr;obtain⟨g',K'⟩:=x;cases h;rw[ih _ _ _ _ _ hr];rcases cU E hs with⟨_,_,_,rfl⟩|⟨_,_,rfl,_⟩|⟨_,_,h2⟩|⟨_,_,c,args,_,h3⟩
     ·rfl
     ·rfl
     ·exact mT E h2
     ·exact(qh _ _ _ _ _ h3).1
    ·cases h
   ·cases h
  ·cases h
theorem aQz{c:Code}{body:Fr->AH->Option (Exit×Fr×AH)}(hb:∀f H e g K,body f H=some (e,g,K)->pF P c e g K f H)(n:Nat)(f:Fr)(H:AH)(e:Exit)(g:Fr)(K:AH)(h:tS body n f H=some (e,g,K)):pF P (.loop c) e g K f H:=by
 have zj:∀(n:Nat) (f:Fr) (H:AH),tS body n f H=some (e,g,K)->K.w0=H.w0:=by
  intro n
  induction n with
  |zero=>intro f H h;cases h
  |succ n ih=>
   intro f H h;simp only[tS] at h;split at h
   ·rename_i f' H' xn;rw[ih f' H' h,(hb _ _ _ _ _ xn).1]
   ·exact(hb _ _ _ _ _ h).1
 refine⟨zj n f H h,?_⟩;intro π ro;have key:∀(n:Nat) (f:Fr) (H:AH),tS body n f H=some (e,g,K)->∀φ a w,FRel φ f a->Rel φ H w->Code.roundsIn (cL ro) 0 P c (iZ φ H.w0 fun e' g' K'=>e'=e/\g'=g/\K'=K) n a w:=by
  intro n
  induction n with
  |zero=>intro f H h;cases h
  |succ n ih=>
   intro f H h φ a w hf hR;rw[roundsIn_succ];simp only[tS] at h
   have fin:∀{e2 g2 K2},body f H=some (e2,g2,K2)->(e2=.normal->tS body n g2 K2=some (e,g,K))->(e2≠.normal->e2=e/\g2=g/\K2=K)->
    c.wpIn (cL ro) 0 P (Exit.then (Code.roundsIn (cL ro) 0 P c (iZ φ H.w0 fun e' g' K'=>e'=e/\g'=g/\K'=K) n) (iZ φ H.w0 fun e' g' K'=>e'=e/\g'=g/\K'=K)) a w:=by
    intro e2 g2 K2 xn h1 h2;refine wpIn_mono ((hb _ _ _ _ _ xn).2 _ ro φ a w trivial hf hR) ?_;rintro e3 a3 w3 ⟨φ',f',H',q1,q2,q3,q4,rfl,rfl,rfl⟩;cases e3 with
    |normal=>
     have:=ih _ _ (h1 rfl) φ' a3 w3 q2 q3;rw[q4] at this;have mono:∀(n:Nat) (a:Act) (w:World),Code.roundsIn (cL ro) 0 P c (iZ φ' H.w0 fun e' g' K'=>e'=e/\g'=g/\K'=K) n a w->Code.roundsIn (cL ro) 0 P c (iZ φ H.w0 fun e' g' K'=>e'=e/\g'=g/\K'=K) n a w:=by
      intro n
      induction n with
      |zero=>intro a w k;exact k
      |succ n ihn=>
       intro a w k;rw[roundsIn_succ] at k ⊢;refine wpIn_mono k fun e4 a4 w4 k4=>?_;cases e4 with
       |normal=>exact ihn _ _ k4
       |_=>
        simp only[Exit.then] at k4 ⊢;exact kR q1 k4
     exact mono n a3 w3 this
    |_=>exact⟨φ',f',H',q1,q2,q3,q4,h2 (by simp)⟩
   cases xn:body f H with
   |none=>rw[xn] at h;cases h
   |some r=>
    obtain⟨e2,g2,K2⟩:=r;rw[xn] at h;refine fin xn (fun he=>?_) (fun he=>?_)
    ·subst he;exact h
    ·cases e2 with
     |normal=>exact absurd rfl he
     |_=>simp only[Option.some.injEq,Prod.mk.injEq] at h;exact h
 intro φ a w _ hf hR;exact wpIn_loop_rounds n (key n f H h φ a w hf hR)
end
end Go.AM
namespace Go.AM
open Go.RowKit
variable [σ:Sg]
def look(k:Nat):LV->Option Value
 |[]=>none
 |(d,v)::r=>bif Nat.beq d k then some v else look k r
def tv(t:Tr Value)(k:Nat):Value:=
 match t.get k with
 |some v=>v
 |none=>undef
def fr(n:Nat)(t:Tr Value):LV->Fr
 |[]=>⟨n,t⟩
 |(d,v)::r=>⟨n,(fr n t r).tr.set d (some v)⟩
theorem aBw(n:Nat)(t:Tr Value)(l:LV):(fr n t l).n=n:=by cases l<;>rfl
theorem aLm(n:Nat)(t:Tr Value)(k:Nat):∀l:LV,tv (fr n t l).tr k=match look k l with|some v=>v|none=>tv t k
 |[]=>rfl
 |(d,v)::r=>by
  simp only[fr,tv,look,Tr.get_set];by_cases e:k=d
  ·simp_all
  ·rw[if_neg e,show Nat.beq d k=false by grind [Nat.beq,absurd,QN],QF];exact aLm n t k r
theorem wY(n:Nat)(t:Tr Value)(l:LV)(k:Nat):aK (fr n t l) (.tmp k)=match look k l with|some v=>v|none=>tv t k:=aLm n t k l
theorem qW(n:Nat)(t:Tr Value)(l:LV)(k:Nat):bX (fr n t l) k=match look k l with|some v=>v|none=>tv t k:=aLm n t k l
theorem sC(f:Fr)(g:FuncId):aK f (.func g)=.func (.func g) ⟨[]⟩ ⟨[]⟩:=rfl
theorem mM{n d:Nat}(h:d<n)(t:Tr Value)(l:LV)(v:Value):(fr n t l).put (some d) v=some (fr n t ((d,v)::l)):=by
 grind [Fr.put,aBw,fr,Nat.ble_eq_true_of_le]
theorem ACode.congr [γ:Gam]{P:PG}{c:Code}{Q:AQ}{f g:Fr}{H:AH}(hn:f.n=g.n)(hs:∀k,bX f k=bX g k)(h:ACode P c Q g H):ACode P c Q f H:=
 fun π ro φ a w hg hf hR=>h _ ro φ a w hg ⟨hf.1,by rw[hf.2.1,hn],fun t=>by have:=hf.2.2 t;rw[show aK f (.tmp t)=aK g (.tmp t) from hs t] at this;exact this⟩ hR
structure Kept (N:Nat) (H H':AH):Prop where
 w0:H'.w0=H.w0
 nx:H.nx<=H'.nx
 get:∀i,i<N->H'.tr.get i=H.tr.get i
theorem Kept.refl(N:Nat)(H:AH):Kept N H H:=⟨rfl,Nat.le_refl _,fun _ _=>rfl⟩
theorem Kept.trans{N:Nat}{A B C:AH}(h:Kept N A B)(k:Kept N B C):Kept N A C:=⟨k.w0.trans h.w0,Nat.le_trans h.nx k.nx,fun i hi=>(k.get i hi).trans (h.get i hi)⟩
theorem Kept.mono{N N':Nat}{A B:AH}(h:Kept N A B)(hN:N'<=N):Kept N' A B:=⟨h.w0,h.nx,fun i hi=>h.get i (by omega)⟩
theorem Kept.new{N:Nat}(H:AH)(o:AObj)(hN:N<=H.nx):Kept N H (dC H o):=⟨rfl,Nat.le_succ _,fun i hi=>by grind [dC,Tr.get_set_ne]⟩
theorem Kept.set{N i:Nat}(H:AH)(o:Option AObj)(hN:N<=i):Kept N H {H with tr:=H.tr.set i o}:=⟨rfl,Nat.le_refl _,fun j hj=>by grind [Tr.get_set_ne]⟩
theorem bBa(H:AH)(o:AObj):(dC H o).tr.get H.nx=some o:=by grind [dC,Tr.get_set_same]
section
variable {H:AH}{N:Nat}{cs:VL}{sz:Nat}{ex:Bool}
theorem dR(N:Nat):Nat.beq ((2*N+1)%2) 0=false:=by
 have:(2*N+1)%2=1:=by omega
 rw[this];rfl
theorem eL(N:Nat):(2*N+1) / 2=N:=by omega
theorem aOh(hg:H.tr.get N=some (.cells cs sz ex))(off:Nat)(s:Option Nat):aload H ⟨2*N+1,off,s⟩=cs[off]?:=by
 unfold aload;simp only[dR,QF,eL,hg]
theorem dH(hg:H.tr.get N=some (.cells cs sz ex))(off n:Nat)(s:Option Nat)(h:off+n<=cs.length):aloads H ⟨2*N+1,off,s⟩ n=some ((cs.drop off).take n):=by
 unfold aloads;by_cases hn:n=0
 ·subst hn;simp
 ·rw[show Nat.beq n 0=false by(cases n with|zero=>exact absurd rfl hn|succ n=>rfl),QF];simp only[dR,QF,eL,hg];rw[Nat.ble_eq_true_of_le h];rfl
theorem aFy(hg:H.tr.get N=some (.cells cs sz ex))(off:Nat)(s:Option Nat){vs:VL}(h:off+vs.length<=cs.length)(h1:aZ vs=true):
 fJ H ⟨2*N+1,off,s⟩ vs=some {H with tr:=H.tr.set N (some (.cells (cs.take off++(vs++cs.drop (off+vs.length))) sz ex))}:=by
 unfold fJ;simp only[dR,QF,eL,hg]
 grind [Nat.ble_eq_true_of_le]
end
def bCq(w:World)(a:Addr)(l:VL):Prop:=∀(i:Nat) v,l[i]?=some v->w.cell? (a.add i)=some v
theorem jP(a:Addr)(n m:Nat):(a.add n).add m=a.add (n+m):=by
 unfold Addr.add
 grind
theorem aEo(a:Addr)(n:Nat):(bZ a).add n=bZ (a.add n):=by
 grind [Addr.add,bZ]
theorem aDl(a:Addr):Nat.beq ((bZ a).block%2) 0=true:=by
 have:(bZ a).block%2=0:=by simp[bZ]
 rw[this];rfl
theorem aCf(a:Addr):(⟨(bZ a).block / 2,(bZ a).off,(bZ a).spot⟩:Addr)=a:=by
 cases a;simp[bZ]
theorem yY{w:World}{a:Addr}:∀(n i:Nat) (l:VL),(∀j v,l[j]?=some v->w.cell? (a.add (i+j))=some v)->l.length=n->aX w a i n=some (extL l):=by
 intro n
 induction n with
 |zero=>
  grind [List.eq_nil_of_length_eq_zero,aX,extL]
 |succ n ih=>
  intro i l h hl;cases l with
  |nil=>simp at hl
  |cons v r=>
   have h0:=h 0 v rfl;rw[Nat.add_zero] at h0;have hr:=ih (i+1) r (fun j u hu=>by have:=h (j+1) u (by simpa using hu);grind) (by simpa using hl)
   grind [aX,extL]
theorem aJd{H:AH}{a:Addr}{l:VL}(h:bCq H.w0.toWorld a l):aloads H (bZ a) l.length=some (extL l):=by
 unfold aloads;by_cases hn:l.length=0
 ·have:l=[]:=List.eq_nil_of_length_eq_zero hn;subst this;simp[extL]
 ·rw[show Nat.beq l.length 0=false by(cases hq:l.length with|zero=>exact absurd hq hn|succ m=>rfl),QF,aDl,QT,aCf];exact yY _ 0 l (fun j v hj=>by rw[Nat.zero_add];exact h j v hj) rfl
section
variable [γ:Gam]{P:PG}{ops:OA}{Q:AQ}{H:AH}{n:Nat}{t:Tr Value}{l:LV}{rest:NL}{i:Nat}{o:Oper}
theorem op1(E:Env P)(ho:ops[i]?=some o)(hg:o.guard=none){d:Nat}(hd:o.dst=some d)(qd:d<n){v:Value}{H':AH}(qg:aop E (aK (fr n t l)) o.op H=some (v,H'))(h:AOps P ops rest Q (fr n t ((d,v)::l)) H'):
 AOps P ops (i::rest) Q (fr n t l) H:=AOps.op E ho (by simp[aM,hg]) qg (by grind [mM]) h
end
section
variable [γ:Gam]{P:PG}{Q:AQ}{f:Fr}{H:AH}
theorem loopn{c:Code}(I:Nat->Fr->AH->Prop)(k:Nat)(h0:I k f H)(round:∀k f H,I k f H->∀K:AQ,(∀k' f' H',k'<k->I k' f' H'->K .normal f' H')->(∀e f' H',e≠.normal->Q e f' H'->K e f' H')->ACode P c K f H):ACode P (.loop c) Q f H:=by
 intro π ro φ a w hg hf hR;refine wpIn_loop_rounds (k+1) ?_;have key:∀m n f H φ' a w,n<m->I n f H->φ <+: φ'->FRel φ' f a->Rel φ' H w->∀w0,H.w0=w0->Code.roundsIn (cL ro) 0 P c (iZ φ w0 Q) m a w:=by
  intro m
  induction m with
  |zero=>omega
  |succ m ih=>
   intro n f H φ' a w qm hI hφ hf hR w0 zj;have hr:=round n f H hI (fun e f' H'=>(e=.normal->∃k'<n,I k' f' H')/\(e≠.normal->Q e f' H')) (fun k' f' H' hk kp=>⟨fun _=>⟨k',hk,kp⟩,fun hn=>absurd rfl hn⟩) (fun e f' H' hn hq=>⟨fun h=>absurd h hn,fun _=>hq⟩);rw[roundsIn_succ];refine wpIn_mono (hr _ ro φ' a w (γ.mono hφ hg) hf hR) ?_;rintro e a₁ w₁ ⟨φ2,f2,H2,q1,q2,q3,q4,q5⟩;have wx:H2.w0=w0:=q4.trans zj;cases e with
   |normal=>
    obtain⟨k',ui,kp⟩:=q5.1 rfl;exact ih k' f2 H2 φ2 a₁ w₁ (by omega) kp (hφ.trans q1) q2 q3 w0 wx
   |_=>exact⟨φ2,f2,H2,hφ.trans q1,q2,q3,wx,q5.2 (by simp)⟩
 grind
end
def aHo(w:World):Base:={w with rd:=fun _=>none,em:=false}
def start(w:World):AH:=⟨aHo w,0,.nil⟩
abbrev oU:Pins:=⟨⟨fun _=>none,[]⟩⟩
theorem Rel.start(w:World): @Rel σ oU [] (start w) w:= @Rel.mk σ oU _ _ _ (Below.refl _ _) rfl (fun i o h=>by simp[AM.start,Tr.get_nil] at h) (fun i j o o' p q h=>by simp_all) (fun b x h=>by cases h) (fun i p h=>by simp at h) (fun i c h=>by cases h)
def Flat(P:PG)(g:FuncId)(args:VL)(w:World)(r:Value):Prop:=ACalls P g (extL args) (start w) fun v _=>v=r
def vK:Value->Bool
 |.tuple ⟨vs⟩=>vs.all flat
 |v=>flat v
theorem aVv{φ ψ:PL}{v v':Value}(h:VR φ v v')(hf:vK v=true):VR ψ v v':=by
 have one:∀{u u':Value},VR φ u u'->flat u=true->VR ψ u u':=by
  intro u u' hu ax;cases hu with
  |agg ha hv=>
   refine .agg ha fun i x x' hx zc=>?_;have rl:=hv i x x' hx zc;have ib:rV x=true:=by
    have zh:∀(l:VL),kO l=true->∀y∈l,rV y=true:=by
     intro l
     induction l with
     |nil=>intro _ y hy;cases hy
     |cons z l ih=>
      intro hl y hy;simp only[kO,QB] at hl
      grind
    exact zh _ ax x (List.mem_of_getElem? hx)
   cases rl<;>first|(simp[rV] at ib;done)|constructor
  |bool b=>exact .bool b
  |int k n=>exact .int k n
  |string s=>exact .string s
  |_=>simp[flat,rV] at ax
 cases h with
 |tuple ha hv=>
  refine .tuple ha fun i x x' hx zc=>one (hv i x x' hx zc) ?_
  grind [vK,List.all_eq_true,List.mem_of_getElem?]
 |_=>exact one (by constructor<;>assumption) hf
theorem Rel.later [Pins]{φ:PL}{H:AH}{w w':World}(R:Rel φ H w)(hb:Below w.heap.size w w'):Rel φ H w':=by
 refine⟨⟨hb.os.trans R.below.os,hb.tape.trans R.below.tape,hb.output.trans R.below.output,Nat.le_trans R.below.size hb.size,fun k hk=>?_⟩,R.len,fun i o hi=>?_,R.inj,fun b x h=>⟨(hb.block b (alt_of_getElem? (R.pin b x h).1)).trans (R.pin b x h).1,(R.pin b x h).2⟩,fun i p h=>Nat.lt_of_lt_of_le (R.lt i p h) hb.size,R.ro⟩
 ·rw[hb.block k (by have:=R.below.size;omega),R.below.block k hk]
 ·obtain⟨p,hp,hN,hO⟩:=R.obj i o hi;refine⟨p,hp,hN,?_⟩;have qm:p.blk<w.heap.size:=by
   cases o with
   |cells cs s e=>obtain⟨C,e,lo,hi,hx,_⟩:=hO;grind
   |map es c=>obtain⟨es',hx,_⟩:=hO;grind
   |iter s q=>exact alt_of_getElem? hO
  rw[hb.block _ qm];exact hO
theorem ACalls.flat{P:PG}{g:FuncId}{args:VL}{H:AH}{r:Value}(hr:vK r=true)(h:∀(π:Pins) φ args' w,VRs φ args args'->Rel φ H w->Flat P g args' w r):ACalls P g args H fun v H'=>v=r/\H'=H:=by
 intro π φ args' w hv hR;refine(h _ φ args' w hv hR oU [] args' w (VRs.ext [] args') (Rel.start w)).mono ?_;rintro e w' ⟨φ',v,v',H',h1,rfl,h3,h4,h5,rfl⟩;have hb:Below w.heap.size w w':=by have:= @Rel.below σ oU _ _ _ h4;rw[h5] at this;exact this
 exact⟨φ,v,v',H,List.prefix_refl _,rfl,aVv h3 hr,hR.later hb,rfl,rfl,rfl⟩
theorem Flat.calls{P:PG}{g:FuncId}{args:VL}{w:World}{r:Value}(h:Flat P g args w r)(hr:vK r=true):Calls P g ⟨args⟩ w fun e w'=>e=.returned r/\Below w.heap.size w w':=by
 refine(h oU [] args w (VRs.ext [] args) (Rel.start w)).mono ?_;rintro e w' ⟨φ',v,v',H',h1,rfl,h3,h4,h5,rfl⟩;have hb:Below w.heap.size w w':=by have:= @Rel.below σ oU _ _ _ h4;rw[h5] at this;exact this
 refine⟨?_,hb⟩;congr 1;have one:∀{u u':Value},VR φ' u u'->AM.flat u=true->u'=u:=fun hu hf=>aBe hu hf;cases h3 with
 |tuple ha hv=>
  congr 2;simp only[vK,List.all_eq_true] at hr;apply List.ext_getElem?
  grind
 |_=>exact one (by constructor<;>assumption) hr
end Go.AM
namespace Go.AM
open Go.RowKit
variable [σ:Sg]
section
variable {T:Type}{enc:TypeId×Value->T}{P:PG}{W:World}{t:TY}{cs:VL}{fuel:Nat}
def Reads(enc:TypeId×Value->T)(P:PG)(W:World)(t:TY)(cs:VL):Prop:=∃fuel x,DataW.trod enc P W 0 (fun _=>true) true fuel t cs=some x
theorem Reads.int{k:IntKind}(hu:P.underlying t=some (.int k))(h:Reads enc P W t cs):∃n,cs=[.int k n]/\(Lit.int k n).wf=true:=by
 obtain⟨fuel,x,h⟩:=h;cases fuel with
 |zero=>simp[DataW.trod] at h
 |succ fuel=>
  unfold DataW.trod at h;rw[hu] at h;split at h<;>(try (rename_i h1 _;cases h1;done))<;>(try (rename_i h1;cases h1;done))
  ·rename_i k1 k2 n h1;cases h1;split at h
   ·rename_i hc;exact⟨n,by rw[hc.1],hc.2⟩
   ·cases h
  ·cases h
theorem Reads.bool(hu:P.underlying t=some .bool)(h:Reads enc P W t cs):∃b,cs=[.bool b]:=by
 obtain⟨fuel,x,h⟩:=h;cases fuel with
 |zero=>simp[DataW.trod] at h
 |succ fuel=>
  unfold DataW.trod at h;rw[hu] at h;split at h<;>(try (rename_i h1 _;cases h1;done))<;>(try (rename_i h1;cases h1;done))
  ·rename_i b h1;exact⟨b,rfl⟩
  ·cases h
theorem Reads.string(hu:P.underlying t=some .string)(h:Reads enc P W t cs):∃s,cs=[.string s]/\s.size<=maxLen:=by
 obtain⟨fuel,x,h⟩:=h;cases fuel with
 |zero=>simp[DataW.trod] at h
 |succ fuel=>
  unfold DataW.trod at h;rw[hu] at h;split at h<;>(try (rename_i h1 _;cases h1;done))<;>(try (rename_i h1;cases h1;done))
  ·rename_i s h1;split at h
   ·rename_i hc;exact⟨s,rfl,hc⟩
   ·cases h
  ·cases h
theorem cells?_read{a:Addr}{n:Nat}{l:VL}(h:W.cells? 0 a n=some l):l.length=n/\bCq W a l:=by
 unfold World.cells? at h;rw[if_pos (Nat.zero_le _)] at h;have key:∀(is:NL) (l:VL),(is.mapM fun i=>W.cell? (a.add i))=some l->l.length=is.length/\∀(j:Nat) i v,is[j]?=some i->l[j]?=some v->W.cell? (a.add i)=some v:=by
  intro is
  induction is with
  |nil=>intro l h;simp at h;subst h;exact⟨rfl,fun j i v h=>by simp at h⟩
  |cons i is ih=>
   intro l h;simp only[List.mapM_cons,Option.bind_eq_bind,Option.pure_def] at h;cases hc:W.cell? (a.add i) with
   |none=>rw[hc] at h;simp at h
   |some v=>
    cases hr:(is.mapM fun i=>W.cell? (a.add i)) with
    |none=>rw[hc,hr] at h;simp at h
    |some r=>
     rw[hc,hr] at h;simp at h;subst h;obtain⟨h1,h2⟩:=ih r hr;refine⟨by simp[h1],fun j i' v' hj hv=>?_⟩;cases j with
     |zero=>simp at hj hv;subst hj;subst hv;exact hc
     |succ j=>simp at hj hv;exact h2 j i' v' hj hv
 obtain⟨h1,h2⟩:=key _ _ h;refine⟨by simpa using h1,fun i v hv=>h2 i i v ?_ hv⟩;have hi:=lt_of_getElem? hv;rw[List.length_range] at h1;rw[List.getElem?_range (by omega)]
end
theorem aRo{T:Type}{enc:TypeId×Value->T}{P:PG}{f:Func}{s:ChangeSpec}{tb:TY}(laidOut:laidOutB P=true)(dh:f.resultTypes= #[tb])(hb:P.underlying tb=some .bool)(rm:s.vars=[])
 (kq:∀t∈f.params.toList,P.readableRec t=true/\t<P.types.size)(hs:∀(ds:List (DataW T)),ds.length=f.params.size->(s.fn T (ds++[])).results=[.lit (.bool true)]/\(s.fn T (ds++[])).args=ds/\(s.fn T (ds++[])).vars=[])
 {W W':World}{args:Array Value}{ds gs:List (DataW T)}{before:List MemPlace}(hW:DataW.Whole enc P f.params.toList s.vars false W args.toList ds gs before)(bel:Below W.heap.size W W'):
 s.post enc P f false true false false W args (.bool true) W':=by
 have gu:=hW;obtain⟨p,q,hA,hV,rfl,fj,pr⟩:=hW;have qm:∀x∈p++q,x.block<W.heap.size:=fun x hx=>gu.lt x hx;rw[rm] at hV;have ic:gs=[]/\q=[]:=by
  cases gs with
  |nil=>exact⟨rfl,hV⟩
  |cons g gs=>exact hV.elim
 obtain⟨rfl,rfl⟩:=ic;have qe:ds.length=f.params.size:=by
  have key:∀(ts:List TypeId) (vs:VL) (ds:List (DataW T)) (ps:List MemPlace),DataW.TrodAll enc P W 0 (fun _=>true) true ts vs ds ps->ds.length=ts.length:=by
   intro ts
   induction ts with
   |nil=>
    intro vs ds ps h;cases vs with
    |nil=>cases ds with
     |nil=>rfl
     |cons _ _=>exact h.elim
    |cons _ _=>cases ds<;>exact h.elim
   |cons t ts ih=>
    intro vs ds ps h;cases vs with
    |nil=>cases ds<;>exact h.elim
    |cons v vs=>
     cases ds with
     |nil=>exact h.elim
     |cons d ds=>
      obtain⟨p1,q1,_,h2,_⟩:=h;simp[ih vs ds q1 h2]
  rw[key _ _ _ _ hA,Array.length_toList]
 obtain⟨r1,r2,r3⟩:=hs ds qe;have qj:DataW.TrodAll enc P W' 0 (fun b=>decide (b<W.heap.size)) true f.params.toList args.toList ds p:=by
  have key:∀(ts:List TypeId) (vs:VL) (ds:List (DataW T)) (ps:List MemPlace),(∀t∈ts,P.readableRec t=true/\t<P.types.size)->(∀x∈ps,x.block<W.heap.size)->DataW.TrodAll enc P W 0 (fun _=>true) true ts vs ds ps->
   DataW.TrodAll enc P W' 0 (fun b=>decide (b<W.heap.size)) true ts vs ds ps:=by
   intro ts
   induction ts with
   |nil=>
    intro vs ds ps _ _ h;cases vs with
    |nil=>cases ds with
     |nil=>exact h
     |cons _ _=>exact h.elim
    |cons _ _=>cases ds<;>exact h.elim
   |cons t ts ih=>
    intro vs ds ps hr hl h;cases vs with
    |nil=>cases ds<;>exact h.elim
    |cons v vs=>
     cases ds with
     |nil=>exact h.elim
     |cons d ds=>
      obtain⟨p1,q1,h1,h2,rfl⟩:=h;exact⟨p1,q1,Below.trod laidOut (hr t (List.mem_cons_self ..)).1 (hr t (List.mem_cons_self ..)).2 h1 bel (fun x hx=>hl x (List.mem_append_left _ hx)),ih vs ds q1 (fun t ht=>hr t (List.mem_cons_of_mem _ ht)) (fun x hx=>hl x (List.mem_append_right _ hx)) h2,rfl⟩
  exact key _ _ _ _ kq (fun x hx=>qm x (by simpa using hx)) hA
 refine⟨ds,[],p++[],[],p,[],gu,?_,?_,?_,bel.frame _,fun h=>by cases h⟩
 ·rw[r1,dh];refine⟨[],[],⟨1,?_⟩,rfl,rfl⟩;simp[DataW.trod,hb,Value.resultList,Value.cells]
 ·rw[r2];exact qj
 ·rw[rm,r3];rfl
end Go.AM
namespace Go.AM
open Go.RowKit
variable [σ:Sg]
section
variable [γ:Gam]{P:PG}{Q:AQ}{f:Fr}{H:AH}
def XC(P:PG)(c:Code)(Q:AQ)(f:Fr)(H:AH):Prop:=∃e g K,Q e g K/\pF P c e g K f H
def xV(P:PG)(y:Code)(Q:AQ):AQ:=fun e f H=>(e=.normal/\XC P y Q f H)\/(e≠.normal/\Q e f H)
def mC(i:Nat)(Q:AQ):AQ:=fun e f H=>match e with
 |.exit j=>if j=i then Q .normal f H else Q (.exit j) f H
 |e=>Q e f H
theorem XC.skip(h:Q .normal f H):XC P .skip Q f H:=⟨_,_,_,h,rfl,ACode.skip ⟨rfl,rfl,rfl⟩⟩
theorem XC.label{l:Nat}(h:Q .normal f H):XC P (.label l) Q f H:=⟨_,_,_,h,rfl,ACode.label ⟨rfl,rfl,rfl⟩⟩
theorem XC.exit{i:Nat}(h:Q (.exit i) f H):XC P (.exit i) Q f H:=⟨_,_,_,h,rfl,ACode.exit ⟨rfl,rfl,rfl⟩⟩
theorem XC.ret(h:Q .ret f H):XC P .ret Q f H:=⟨_,_,_,h,rfl,ACode.ret ⟨rfl,rfl,rfl⟩⟩
theorem XC.seq{x y:Code}(h:XC P x (xV P y Q) f H):XC P (.seq x y) Q f H:=by
 obtain⟨e,g,K,hk,w1,c1⟩:=h;rcases hk with⟨rfl,e2,g2,K2,q2,w2,c2⟩|⟨qr,hq⟩
 ·refine⟨e2,g2,K2,q2,w2.trans w1,ACode.seq c1 ?_ ?_⟩
  ·simp_all
  simp_all
 ·refine⟨e,g,K,hq,w1,ACode.seq c1 ?_ ?_⟩
  ·grind
  simp_all
theorem XC.cond{c:Operand}{x y:Code}{b:Bool}(hc:aK f c=.bool b)(h:XC P (if b then x else y) Q f H):XC P (.cond c x y) Q f H:=by
 obtain⟨e,g,K,hk,w1,c1⟩:=h;exact⟨e,g,K,hk,w1,ACode.cond hc c1⟩
theorem XC.block{i:Nat}{c:Code}(h:XC P c (mC i Q) f H):XC P (.block i c) Q f H:=by
 obtain⟨e,g,K,hk,w1,c1⟩:=h;cases e with
 |exit j=>
  simp only[mC] at hk;by_cases hj:j=i
  ·rw[if_pos hj] at hk;refine⟨.normal,g,K,hk,w1,ACode.block (c1.mono ?_)⟩
   simp_all
  ·rw[if_neg hj] at hk;refine⟨.exit j,g,K,hk,w1,ACode.block (c1.mono ?_)⟩
   simp_all
 |_=>
  refine⟨_,g,K,hk,w1,ACode.block (c1.mono ?_)⟩
  simp_all
inductive Chain (P:PG) (c:Code) (e:Exit) (g:Fr) (K:AH):Nat->Fr->AH->Prop
 |last {f:Fr} {H:AH} (hn:e≠.normal) (h:pF P c e g K f H):Chain P c e g K 0 f H
 |next {f f1:Fr} {H H1:AH} {n:Nat} (h:pF P c .normal f1 H1 f H) (r:Chain P c e g K n f1 H1):Chain P c e g K (n+1) f H
theorem Chain.says{c:Code}{e:Exit}{g:Fr}{K:AH}{n:Nat}(h:Chain P c e g K n f H):pF P (.loop c) e g K f H:=by
 have hw:K.w0=H.w0:=by
  induction h with
  |last hn h=>exact h.1
  |next h r ih=>exact ih.trans h.1
 refine⟨hw,loopn (Chain P c e g K) n h ?_⟩;intro k f H hI K' hn ho;cases hI with
 |last qr h=>
  refine h.2.mono ?_
  grind
 |next h r=>
  refine h.2.mono ?_
  grind
theorem XC.loop{c:Code}{σ:Type}(μ:σ->Nat)(I:σ->Fr->AH->Prop)
 (round:∀s f H,I s f H->XC P c (fun e f' H'=>(e=.normal/\∃s',μ s'<μ s/\I s' f' H')\/(e≠.normal/\Q e f' H')) f H)(s:σ)(h0:I s f H):XC P (.loop c) Q f H:=by
 have key:∀m s f H,μ s=m->I s f H->∃e g K n,Q e g K/\Chain P c e g K n f H:=by
  intro m
  induction m using Nat.strongRecOn with
  |_ m ih=>
   intro s f H hm hI;obtain⟨e,g,K,hk,hs⟩:=round s f H hI;rcases hk with⟨rfl,s',qm,kp⟩|⟨qr,hq⟩
   ·obtain⟨e2,g2,K2,n,q,ch⟩:=ih _ (hm▸qm) s' g K rfl kp;exact⟨e2,g2,K2,n+1,q,.next hs ch⟩
   ·exact⟨e,g,K,0,hq,.last qr hs⟩
 obtain⟨e,g,K,n,hq,ch⟩:=key _ s f H rfl h0;exact⟨e,g,K,hq,ch.says⟩
end
def fF(bs ms:NL)(i:Nat):Bool:=ms.all fun j=>(Nat.blt j i&&(bs.getD i 0).testBit j)||(Nat.blt i j&&(bs.getD j 0).testBit i)
section
variable [γ:Gam]{P:PG}(E:Env P)(D:Bool)(ops:OA)(ms:NL)(W:AH->Prop)
def SD(i:Nat)(o:Oper)(f:Fr)(H:AH)(v:Value)(H':AH)(m:Bool):Prop:=
 (aM ops (bX f) o=false/\v=undef/\m=false/\H'=H)\/
 (aM ops (bX f) o=true/\m=false/\H'=H/\(bY E o.op=true/\aop E (aK f) o.op H=some (v,H))/\(D=true->(dS E o.op=true\/fF (bef ops) ms i=true\/∀H',W H'->aop E (aK f) o.op H'=some (v,H'))))\/
 (aM ops (bX f) o=true/\m=true/\(D=true->i∈ms/\W H')/\aop E (aK f) o.op H=some (v,H'))\/
 (aM ops (bX f) o=true/\m=true/\(D=true->i∈ms/\W H')/\H'.w0=H.w0/\((∃g args,bM E (aK f) o.op=some (g,args)/\ACalls P g args H fun u K=>u=v/\K=H')\/(D=false/\AYield P o f H v H')))
inductive RunD:Nat->List Oper->Fr->AH->List fU->Fr->AH->Prop
 |nil {i:Nat} {f:Fr} {H:AH}:RunD i [] f H [] f H
 |cons {i:Nat} {o:Oper} {l:OL2} {f f' g:Fr} {H H' K:AH} {v:Value} {m:Bool} {L:List fU} (hs:SD E D ops ms W i o f H v H' m) (hp:f.put o.dst v=some f') (r:RunD (i+1) l f' H' L g K):RunD i (o::l) f H ((f,H,v,m)::L) g K
variable {E D ops ms W}
theorem RunD.w0{i:Nat}{l:OL2}{f g:Fr}{H K:AH}{L:List fU}(h:RunD E D ops ms W i l f H L g K):K.w0=H.w0:=by
 induction h with
 |nil=>rfl
 |cons hs hp r ih=>
  rw[ih];rcases hs with⟨_,_,_,rfl⟩|⟨_,_,rfl,_⟩|⟨_,_,_,h⟩|⟨_,_,_,h,_⟩
  ·rfl
  ·rfl
  ·exact mT E h
  ·exact h
theorem RunD.opsOk{i:Nat}{l:OL2}{f g:Fr}{H K:AH}{L:List fU}(h:RunD E D ops ms W i l f H L g K)(hl:∀j,l[j]?=ops[i+j]?){Q:AQ}(hQ:Q .normal g K):AOps P ops (List.range' i l.length) Q f H:=by
 induction h with
 |nil=>exact AOps.nil hQ
 | @cons i o l f f' g H H' K v m L hs hp r ih=>
   have ho:ops[i]?=some o:=by have:=hl 0;simpa using this.symm
   have hr:=ih (fun j=>by have:=hl (j+1);grind) hQ;rw[List.length_cons,List.range'_succ];rcases hs with⟨h1,rfl,_,rfl⟩|⟨h1,_,rfl,⟨_,h2⟩,_⟩|⟨h1,_,_,h2⟩|⟨h1,_,_,zj,⟨c,args,h2,h3⟩|⟨_,h2⟩⟩
   ·grind [AOps.skip]
   ·grind [AOps.op]
   ·grind [AOps.op]
   ·refine AOps.call E ho h1 h2 (h3.mono ?_)
    simp_all
   grind [AOps.yield]
theorem RunD.region{f g:Fr}{H K:AH}{L:List fU}(h:RunD E D ops ms W 0 ops.toList f H L g K)(id:Nat):pF P (.region id ops false) .normal g K f H:=by
 refine⟨h.w0,ACode.region ?_⟩;have:=h.opsOk (fun j=>by simp) (Q:=fun e' g' K'=>e'=.normal/\g'=g/\K'=K) ⟨rfl,rfl,rfl⟩
 grind [Array.length_toList,List.range_eq_range']
theorem RunD.at{i:Nat}{l:OL2}{f g:Fr}{H K:AH}{L:List fU}(h:RunD E D ops ms W i l f H L g K):
 L.length=l.length/\(∃s,(L++[(g,K,undef,false)])[0]?=some s/\s.1=f/\s.2.1=H)/\
 ∀(j:Nat) (o:Oper) (s:fU),l[j]?=some o->L[j]?=some s->∃s',(L++[(g,K,undef,false)])[j+1]?=some s'/\SD E D ops ms W (i+j) o s.1 s.2.1 s.2.2.1 s'.2.1 s.2.2.2/\s.1.put o.dst s.2.2.1=some s'.1:=by
 induction h with
 |nil=>simp_all
 | @cons i o l f f' g H H' K v m L hs hp r ih=>
   obtain⟨h1,⟨s1,hh1,hh2,ay⟩,h2⟩:=ih;refine⟨by simp[h1],⟨_,rfl,rfl,rfl⟩,fun j o' s hj wq=>?_⟩
   grind
end
def XCall(P:PG)(g:FuncId)(args:VL)(H:AH)(R:Value->AH->Prop):Prop:=∃v H',R v H'/\H'.w0=H.w0/\ACalls P g args H fun u K=>u=v/\K=H'
theorem XCall.mono{P:PG}{g:FuncId}{args:VL}{H:AH}{R R':Value->AH->Prop}(h:XCall P g args H R)(hr:∀v H',H'.w0=H.w0->R v H'->R' v H'):XCall P g args H R':=by
 obtain⟨v,H',h1,h2,h3⟩:=h;exact⟨v,H',hr _ _ h2 h1,h2,h3⟩
theorem XCall.calls{P:PG}{g:FuncId}{args:VL}{H:AH}{R:Value->AH->Prop}(h:XCall P g args H R):ACalls P g args H R:=by
 obtain⟨v,H',h1,h2,h3⟩:=h;refine h3.mono ?_
 simp_all
def uE{P:PG}(E:Env P)(rs:List ResultVar)(R:Value->AH->Prop):AQ:=fun e f H=>(e=.normal\/e=.ret)/\∃vs,bS E f H rs=some vs/\R (bG vs) H
theorem XCall.body{P:PG}(E:Env P){g:FuncId}{x:AFn}(hg:E.fn g=some x){args:VL}{H:AH}{R:Value->AH->Prop}(h:XC P x.body (uE E x.results R) (rC args x.ntmps) H):XCall P g args H R:=by
 obtain⟨e,f,K,⟨h1,vs,h2,h3⟩,h4,h5⟩:=h;refine⟨bG vs,K,h3,h4,ACalls.body E hg (h5.mono ?_)⟩
 simp_all
end Go.AM
namespace Go.AM
open Go.RowKit
variable [σ:Sg]
variable [γ:Gam]
omit [γ:Gam] in
abbrev OL:=List (Nat×AObj)
omit [γ:Gam] in
structure HS (S H0:AH) (A0 A:NQ) (L:OL) (H:AH):Prop where
 kept:Kept S.nx S H
 base:∀j,A j->H.tr.get j=H0.tr.get j
 w0:H0.w0=H.w0
 sub:∀j,A j->A0 j\/S.nx<=j
 lt:∀j,A j->j<H.nx
 own:∀p∈L,H.tr.get p.1=some p.2/\S.nx<=p.1/\p.1<H.nx/\¬A p.1
 dist:L.Pairwise (fun p q=>p.1≠q.1)
omit [γ:Gam] in
structure Gr (A:NQ) (H0:AH) (A':NQ) (H':AH):Prop where
 sub:∀j,A j->A' j
 get:∀j,A j->H'.tr.get j=H0.tr.get j
 w0:H'.w0=H0.w0
theorem Gr.refl(A:NQ)(H:AH):Gr A H A H:=⟨fun _ h=>h,fun _ _=>rfl,rfl⟩
theorem Gr.trans{A B C:NQ}{H K M:AH}(h:Gr A H B K)(k:Gr B K C M):Gr A H C M:=⟨fun j a=>k.sub j (h.sub j a),fun j a=>(k.get j (h.sub j a)).trans (h.get j a),k.w0.trans h.w0⟩
theorem HS.gr{S H0 H:AH}{A0 A:NQ}{L:OL}(h:HS S H0 A0 A L H):Gr A H0 A H:=⟨fun _ h=>h,h.base,h.w0.symm⟩
section
variable {S H0 H H':AH}{A0 A:NQ}{L L':OL}
theorem HS.start(hA:∀j,A0 j->j<S.nx):HS S S A0 A0 [] S:=⟨Kept.refl _ _,fun _ _=>rfl,rfl,fun _ h=>.inl h,hA,(fun p hp=>by cases hp),List.Pairwise.nil⟩
theorem HS.subl(h:HS S H0 A0 A L H)(hs:L'.Sublist L):HS S H0 A0 A L' H:=⟨h.kept,h.base,h.w0,h.sub,h.lt,fun p hp=>h.own p (hs.subset hp),h.dist.sublist hs⟩
theorem HS.later(h:HS S H0 A0 A L H)(k:Kept H.nx H H'):HS S H0 A0 A L H':=
 ⟨h.kept.trans (k.mono h.kept.nx),fun j hj=>(k.get j (h.lt j hj)).trans (h.base j hj),h.w0.trans k.w0.symm,h.sub,fun j hj=>Nat.lt_of_lt_of_le (h.lt j hj) k.nx,
  fun p hp=>by obtain⟨h1,h2,h3,h4⟩:=h.own p hp;exact⟨(k.get _ h3).trans h1,h2,Nat.lt_of_lt_of_le h3 k.nx,h4⟩,h.dist⟩
theorem HS.push(h:HS S H0 A0 A L H)(o:AObj):HS S H0 A0 A ((H.nx,o)::L) (dC H o):=by
 have k:=h.later (Kept.new H o (Nat.le_refl _));refine⟨k.kept,k.base,k.w0,k.sub,k.lt,fun p hp=>?_,List.Pairwise.cons (fun q hq=>?_) h.dist⟩
 ·rcases List.mem_cons.1 hp with rfl|hp
  ·exact⟨bBa H o,h.kept.nx,Nat.lt_succ_self _,fun hA=>Nat.lt_irrefl _ (h.lt _ hA)⟩
  ·exact k.own p hp
 ·have:=(h.own q hq).2.2.1;simp only;omega
omit [γ:Gam] in
inductive Upd (N:Nat) (o o':AObj):OL->OL->Prop
 |zero {r:OL}:Upd N o o' ((N,o)::r) ((N,o')::r)
 |succ {x:Nat×AObj} {r r':OL} (h:Upd N o o' r r'):Upd N o o' (x::r) (x::r')
theorem Upd.mem{N:Nat}{o o':AObj}{L L':OL}(h:Upd N o o' L L'):(N,o)∈L:=by
 induction h with
 |zero=>simp_all
 |succ _ ih=>simp_all
theorem Upd.keys{N:Nat}{o o':AObj}{L L':OL}(h:Upd N o o' L L'):L'.map (·.1)=L.map (·.1):=by
 induction h with
 |zero=>rfl
 |succ _ ih=>simp[ih]
theorem Upd.cases{N:Nat}{o o':AObj}{L L':OL}(h:Upd N o o' L L')(hd:L.Pairwise (fun p q=>p.1≠q.1)):∀p∈L',p=(N,o')\/(p∈L/\p.1≠N):=by
 induction h with
 |zero=>
  intro p hp;rw[List.pairwise_cons] at hd
  grind
 | @succ x r r' h ih=>
   intro p hp;rw[List.pairwise_cons] at hd;rcases List.mem_cons.1 hp with rfl|hp
   ·exact .inr ⟨List.mem_cons_self ..,fun e=>hd.1 _ h.mem e⟩
   grind
theorem Upd.pairwise{N:Nat}{o o':AObj}{L L':OL}(h:Upd N o o' L L')(hd:L.Pairwise (fun p q=>p.1≠q.1)):L'.Pairwise (fun p q=>p.1≠q.1):=by
 have e:(L.map (·.1)).Pairwise (fun a b=>a≠b):=List.pairwise_map.2 hd;rw[<-h.keys] at e
 grind
theorem HS.set{N:Nat}{o o':AObj}(h:HS S H0 A0 A L H)(hu:Upd N o o' L L'):HS S H0 A0 A L' {H with tr:=H.tr.set N (some o')}:=by
 obtain⟨q1,q2,q3,q4⟩:=h.own _ hu.mem;refine⟨h.kept.trans (Kept.set H _ q2),fun j hj=>?_,h.w0,h.sub,h.lt,fun p hp=>?_,hu.pairwise h.dist⟩
 ·simp only;rw[Tr.get_set_ne _ _ (fun(e:j=N)=>q4 (by rw[<-e];exact hj))];exact h.base j hj
 ·rcases hu.cases h.dist p hp with rfl|⟨e1,e2⟩
  ·grind [Tr.get_set_same]
  ·obtain⟨r1,r2,r3,r4⟩:=h.own p e1
   grind [Tr.get_set_ne]
omit [γ:Gam] in
inductive Rem (N:Nat) (o:AObj):OL->OL->Prop
 |zero {r:OL}:Rem N o ((N,o)::r) r
 |succ {x:Nat×AObj} {r r':OL} (h:Rem N o r r'):Rem N o (x::r) (x::r')
theorem Rem.mem{N:Nat}{o:AObj}{L L':OL}(h:Rem N o L L'):(N,o)∈L:=by
 induction h with
 |zero=>simp_all
 |succ _ ih=>simp_all
theorem Rem.sub{N:Nat}{o:AObj}{L L':OL}(h:Rem N o L L'):L'.Sublist L:=by
 induction h with
 |zero=>simp_all
 |succ _ ih=>exact ih.cons_cons _
theorem Rem.ne{N:Nat}{o:AObj}{L L':OL}(h:Rem N o L L')(hd:L.Pairwise (fun p q=>p.1≠q.1)):∀p∈L',p.1≠N:=by
 induction h with
 |zero=>grind [List.pairwise_cons]
 | @succ x r r' h ih=>
   intro p hp;rw[List.pairwise_cons] at hd;rcases List.mem_cons.1 hp with rfl|hp
   ·exact fun e=>hd.1 _ h.mem e
   ·exact ih hd.2 p hp
theorem HS.kill{N:Nat}{o:AObj}(h:HS S H0 A0 A L H)(hu:Rem N o L L'):HS S H0 A0 A L' {H with tr:=H.tr.set N none}:=by
 obtain⟨q1,q2,q3,q4⟩:=h.own _ hu.mem;refine⟨h.kept.trans (Kept.set H _ q2),fun j hj=>?_,h.w0,h.sub,h.lt,fun p hp=>?_,h.dist.sublist hu.sub⟩
 ·simp only;rw[Tr.get_set_ne _ _ (fun(e:j=N)=>q4 (by rw[<-e];exact hj))];exact h.base j hj
 ·obtain⟨r1,r2,r3,r4⟩:=h.own p (hu.sub.subset hp);exact⟨by simp only;rw[Tr.get_set_ne _ _ (hu.ne h.dist p hp)];exact r1,r2,r3,r4⟩
theorem HS.freeze{N:Nat}{o:AObj}(h:HS S H0 A0 A L H)(hu:Rem N o L L'):HS S H A0 (fun j=>A j\/j=N) L' H:=by
 obtain⟨q1,q2,q3,q4⟩:=h.own _ hu.mem;refine⟨h.kept,fun _ _=>rfl,rfl,fun j hj=>?_,fun j hj=>?_,fun p hp=>?_,h.dist.sublist hu.sub⟩
 ·rcases hj with hj|rfl
  ·exact h.sub j hj
  ·exact .inr q2
 ·rcases hj with hj|rfl
  ·exact h.lt j hj
  ·exact q3
 ·obtain⟨r1,r2,r3,r4⟩:=h.own p (hu.sub.subset hp);exact⟨r1,r2,r3,fun hj=>hj.elim r4 (hu.ne h.dist p hp)⟩
end
omit [γ:Gam] in
def opv(l:LV):Operand->Option Value
 |.tmp k=>look k l
 |.const (.bool b)=>some (.bool b)
 |.const (.int k n)=>some (.int k n)
 |.const (.string s)=>some (.string s)
 |.const (.pointer none)=>some (.pointer none)
 |.const (.slice none l c)=>some (.slice none l c)
 |.const (.map none)=>some (.map none)
 |.const v=>some (ext v)
 |.func g=>some (.func (.func g) ⟨[]⟩ ⟨[]⟩)
 |_=>none
theorem aG{n:Nat}{t:Tr Value}{l:LV}{x:Operand}{v:Value}(h:opv l x=some v):aK (fr n t l) x=v:=by
 unfold opv at h;split at h
 ·rw[wY,h]
 all_goals first|(cases h;rfl)|(cases h;simp only[aK,ext];done)|(cases h)
omit [γ:Gam] in
def opvs(l:LV):List Operand->Option VL
 |[]=>some []
 |x::r=>(match opv l x,opvs l r with
  |some v,some vs=>some (v::vs)
  |_,_=>none)
omit [γ:Gam] in
inductive Opvs (l:LV):List Operand->List Value->Prop
 |nil:Opvs l [] []
 |cons {x:Operand} {v:Value} {r:List Operand} {vs:VL} (h:opv l x=some v) (k:Opvs l r vs):Opvs l (x::r) (v::vs)
theorem Opvs.ok{n:Nat}{t:Tr Value}{l:LV}{xs:List Operand}{vs:VL}(h:Opvs l xs vs):xs.map (aK (fr n t l))=vs:=by
 induction h with
 |nil=>rfl
 |cons h k ih=>rw[List.map_cons,aG h,ih]
omit [γ:Gam] in
inductive Opps (l:LV):List (Nat×Operand)->List (Nat×Value)->Prop
 |nil:Opps l [] []
 |cons {i:Nat} {x:Operand} {v:Value} {r:List (Nat×Operand)} {vs:LV} (h:opv l x=some v) (k:Opps l r vs):Opps l ((i,x)::r) ((i,v)::vs)
theorem Opps.ok{n:Nat}{t:Tr Value}{l:LV}{xs:List (Nat×Operand)}{vs:LV}(h:Opps l xs vs):xs.map (fun x=>(x.1,aK (fr n t l) x.2))=vs:=by
 induction h with
 |nil=>rfl
 |cons h k ih=>rw[List.map_cons,aG h,ih]
omit [γ:Gam] in
def gok(ops:OA)(l:LV):OB->Bool
 |none=>true
 |some (j,want)=>(match ops[j]? with
  |some oj=>(match oj.dst with
   |some d=>(match look d l with
    |some (.bool b)=>b==want
    |_=>false)
   |none=>false)
  |none=>false)
omit [γ:Gam] in
def gsk(ops:OA)(l:LV):OB->Bool
 |none=>false
 |some (j,want)=>(match ops[j]? with
  |some oj=>(match oj.dst with
   |some d=>(match look d l with
    |some (.bool b)=>!(b==want)
    |some (.tuple _)=>true
    |_=>false)
   |none=>false)
  |none=>false)
theorem cT{ops:OA}{n:Nat}{t:Tr Value}{l:LV}{o:Oper}(h:gok ops l o.guard=true):aM ops (bX (fr n t l)) o=true:=by
 unfold aM
 grind [gok,qW]
theorem vN{ops:OA}{n:Nat}{t:Tr Value}{l:LV}{o:Oper}(h:gsk ops l o.guard=true):aM ops (bX (fr n t l)) o=false:=by
 unfold aM
 grind [gsk,qW]
section
variable {P:PG}{c x y:Code}{K:AQ}{f:Fr}{S H0:AH}{A0 A:NQ}{L:OL}{n:Nat}{t:Tr Value}{l:LV}
def SX(P:PG)(c:Code)(K:AQ)(f:Fr)(S:AH)(A0:NQ)(H0:AH)(A:NQ)(L:OL):Prop:=∀H,HS S H0 A0 A L H->XC P c K f H
omit [γ:Gam] in
def SK(K:AQ)(e:Exit)(f:Fr)(S:AH)(A0:NQ)(H0:AH)(A:NQ)(L:OL):Prop:=∀H,HS S H0 A0 A L H->K e f H
theorem qE(h:SK K .normal f S A0 H0 A L):SX P .skip K f S A0 H0 A L:=fun H hH=>XC.skip (h H hH)
theorem aVw{i:Nat}(h:SK K .normal f S A0 H0 A L):SX P (.label i) K f S A0 H0 A L:=fun H hH=>XC.label (h H hH)
theorem pC(h:SK K .ret f S A0 H0 A L):SX P .ret K f S A0 H0 A L:=fun H hH=>XC.ret (h H hH)
theorem uW{i:Nat}(h:SK K (.exit i) f S A0 H0 A L):SX P (.exit i) K f S A0 H0 A L:=fun H hH=>XC.exit (h H hH)
theorem aP(h:SX P x (xV P y K) f S A0 H0 A L):SX P (.seq x y) K f S A0 H0 A L:=fun H hH=>XC.seq (h H hH)
theorem iW{i:Nat}(h:SX P c (mC i K) f S A0 H0 A L):SX P (.block i c) K f S A0 H0 A L:=fun H hH=>XC.block (h H hH)
theorem nW{o:Operand}(hc:opv l o=some (.bool true))(h:SX P x K (fr n t l) S A0 H0 A L):SX P (.cond o x y) K (fr n t l) S A0 H0 A L:=fun H hH=>XC.cond (b:=true) (aG hc) (h H hH)
theorem iS{o:Operand}(hc:opv l o=some (.bool false))(h:SX P y K (fr n t l) S A0 H0 A L):SX P (.cond o x y) K (fr n t l) S A0 H0 A L:=fun H hH=>XC.cond (b:=false) (aG hc) (h H hH)
theorem eK(h:SX P y K f S A0 H0 A L):SK (xV P y K) .normal f S A0 H0 A L:=fun H hH=>.inl ⟨rfl,h H hH⟩
theorem kU{j:Nat}(h:SK K (.exit j) f S A0 H0 A L):SK (xV P y K) (.exit j) f S A0 H0 A L:=fun H hH=>.inr ⟨by simp,h H hH⟩
theorem qD{i:Nat}(h:SK K .normal f S A0 H0 A L):SK (mC i K) .normal f S A0 H0 A L:=h
theorem gH{i:Nat}(h:SK K .normal f S A0 H0 A L):SK (mC i K) (.exit i) f S A0 H0 A L:=fun H hH=>by simp only[mC,if_true];exact h H hH
theorem tH{i j:Nat}(hj:Nat.beq j i=false)(h:SK K (.exit j) f S A0 H0 A L):SK (mC i K) (.exit j) f S A0 H0 A L:=fun H hH=>by
 have:¬j=i:=fun e=>by simp_all
 simp only[mC,this,if_false];exact h H hH
omit [γ:Gam] in
inductive Picks (l:LV):LV->Prop
 |nil:Picks l []
 |cons {k:Nat} {v:Value} {r:LV} (h:look k l=some v) (p:Picks l r):Picks l ((k,v)::r)
theorem Picks.look{l l':LV}(h:Picks l l')(k:Nat):AM.look k l'=none\/AM.look k l'=AM.look k l:=by
 induction h with
 |nil=>exact .inl rfl
 | @cons d v r h p ih=>
   simp only[AM.look];cases e:Nat.beq d k with
   |true=>
    simp_all
   |false=>simp_all
theorem Picks.frame{l l':LV}(h:Picks l l')(n:Nat)(t:Tr Value)(k:Nat):bX (fr n t l) k=bX (fr n (fr n t l).tr l') k:=by
 rw[qW n (fr n t l).tr l'];rcases h.look k with e|e
 ·rw[e];rfl
 grind [qW,AM.look,aLm]
theorem XC.congr{f g:Fr}{H:AH}(hn:f.n=g.n)(hs:∀k,bX f k=bX g k)(h:XC P c K g H):XC P c K f H:=by
 obtain⟨e,g',K',h1,h2,h3⟩:=h;exact⟨e,g',K',h1,h2,ACode.congr hn hs h3⟩
omit [γ:Gam] in
def LI{σ:Type}(n:Nat)(live:σ->List (Nat×Value))(S:AH)(A0:NQ)(h0:σ->AH)(AA:σ->Nat->Prop)(LL:σ->OL)(J:σ->Prop)(s:σ)(f:Fr)(H:AH):Prop:=
 J s/\∃t,f.n=n/\(∀k,bX f k=bX (fr n t (live s)) k)/\HS S (h0 s) A0 (AA s) (LL s) H
omit [γ:Gam] in
def aLl{σ:Type}(μ:σ->Nat)(I:σ->Fr->AH->Prop)(s:σ)(Q:AQ):AQ:=fun e f' H'=>(e=.normal/\∃s',μ s'<μ s/\I s' f' H')\/(e≠.normal/\Q e f' H')
theorem rM{τ:Type}(μ:τ->Nat)(live:τ->List (Nat×Value))(h0:τ->AH)(AA:τ->Nat->Prop)(LL:τ->OL)(J:τ->Prop)
 (s:τ)(hJ:J s)(hp:Picks l (live s))(hh:h0 s=H0)(hA:AA s=A)(hL:(LL s).Sublist L)
 (round:∀s,J s->∀t,SX P c (aLl μ (LI n live S A0 h0 AA LL J) s K) (fr n t (live s)) S A0 (h0 s) (AA s) (LL s)):SX P (.loop c) K (fr n t l) S A0 H0 A L:=by
 subst hh;subst hA;intro H hH;refine XC.loop μ (LI n live S A0 h0 AA LL J) ?_ s ⟨hJ,(fr n t l).tr,aBw ..,hp.frame n t,hH.subl hL⟩;rintro s f H ⟨hJ,t,hn,hf,hH⟩;exact XC.congr (by rw[hn,aBw]) hf (round s hJ t H hH)
theorem jY{σ:Type}{μ:σ->Nat}{live:σ->List (Nat×Value)}{h0:σ->AH}{AA:σ->Nat->Prop}{LL:σ->OL}{J:σ->Prop}{s:σ}(s':σ)(qm:μ s'<μ s)(hJ:J s')(hp:Picks l (live s'))(hh:h0 s'=H0)(hA:AA s'=A)(hL:(LL s').Sublist L):
 SK (aLl μ (LI n live S A0 h0 AA LL J) s K) .normal (fr n t l) S A0 H0 A L:=by
 subst hh;subst hA;intro H hH;exact .inl ⟨rfl,s',qm,hJ,(fr n t l).tr,aBw ..,hp.frame n t,hH.subl hL⟩
theorem kZ{σ:Type}{μ:σ->Nat}{I:σ->Fr->AH->Prop}{s:σ}{j:Nat}(h:SK K (.exit j) f S A0 H0 A L):SK (aLl μ I s K) (.exit j) f S A0 H0 A L:=fun H hH=>.inr ⟨by simp,h H hH⟩
end
omit [γ:Gam] in
structure RG where
 D:Bool
 ops:Array Oper
 ms:List Nat
 S:AH
 A0:Nat->Prop
 Hw:AH
 Aw:Nat->Prop
 Lw:OL
omit [γ:Gam] in
def DSub(G:RG)(H0:AH)(A:NQ)(L:OL):Prop:=
 G.D=true->(∀p∈G.Lw,p∈L)/\G.Lw.Pairwise (fun p q=>p.1≠q.1)/\(∀j,G.Aw j->A j/\H0.tr.get j=G.Hw.tr.get j)/\G.Hw.w0=H0.w0
theorem HS.weak{G:RG}{H0 H:AH}{A:NQ}{L:OL}(h:HS G.S H0 G.A0 A L H)(hd:DSub G H0 A L)(hD:G.D=true):HS G.S G.Hw G.A0 G.Aw G.Lw H:=by
 obtain⟨d1,d2,d3,d4⟩:=hd hD
 exact⟨h.kept,fun j hj=>(h.base j (d3 j hj).1).trans (d3 j hj).2,d4.trans h.w0,fun j hj=>h.sub j (d3 j hj).1,fun j hj=>h.lt j (d3 j hj).1,
  fun p hp=>by obtain⟨h1,h2,h3,h4⟩:=h.own p (d1 p hp);grind,d2⟩
section
variable {P:PG}(E:Env P)
def SO(G:RG)(i:Nat)(l:OL2)(Q:FQ)(f:Fr)(H0:AH)(A:NQ)(L:OL):Prop:=
 DSub G H0 A L->∀H,HS G.S H0 G.A0 A L H->∃Ls g K,RunD E G.D G.ops G.ms (HS G.S G.Hw G.A0 G.Aw G.Lw) i l f H Ls g K/\Q g K
variable {E}{G:RG}{i n:Nat}{r:OL2}{o:Oper}{Q:FQ}{t:Tr Value}{l:LV}{S H0:AH}{A0 A:NQ}{L L':OL}{v:Value}{d:Nat}{K:AQ}
theorem aF{ops:OA}{id:Nat}{f:Fr}(h:SO E ⟨false,ops,[],S,A0,H0,A,L⟩ 0 ops.toList (fun f H=>K .normal f H) f H0 A L):SX P (.region id ops false) K f S A0 H0 A L:=by
 intro H hH;obtain⟨Ls,g,K',hr,hq⟩:=h (fun hD=>by cases hD) H hH;exact⟨.normal,g,K',hq,hr.region id⟩
theorem gA{D:Bool}{ops:OA}{ms:NL}{Hw:AH}{Aw:NQ}{Lw:OL}{f:Fr}(h:SK K .normal f S A0 H0 A L):SO E ⟨D,ops,ms,S,A0,Hw,Aw,Lw⟩ i [] (fun f H=>K .normal f H) f H0 A L:=fun _ H hH=>⟨[],f,H,.nil,h H hH⟩
theorem aO{D:Bool}{ops:OA}{ms:NL}{Hw:AH}{Aw:NQ}{Lw:OL}{f:Fr}{y:Code}(h:SX P y K f S A0 H0 A L):SO E ⟨D,ops,ms,S,A0,Hw,Aw,Lw⟩ i [] (fun f H=>xV P y K .normal f H) f H0 A L:=gA (K:=xV P y K) (eK h)
theorem aYr(hw:gsk G.ops l o.guard=true)(hd:o.dst=some d)(qd:Nat.ble (d+1) n=true)(h:SO E G (i+1) r Q (fr n t ((d,undef)::l)) H0 A L):SO E G i (o::r) Q (fr n t l) H0 A L:=by
 intro hD H hH;obtain⟨Ls,g,K,hr,hq⟩:=h hD H hH;exact⟨_,g,K,.cons (.inl ⟨vN hw,rfl,rfl,rfl⟩) (by grind [mM,QL,undef]) hr,hq⟩
theorem aVn(hw:gsk G.ops l o.guard=true)(hd:o.dst=none)(h:SO E G (i+1) r Q (fr n t l) H0 A L):SO E G i (o::r) Q (fr n t l) H0 A L:=by
 intro hD H hH;obtain⟨Ls,g,K,hr,hq⟩:=h hD H hH;exact⟨_,g,K,.cons (.inl ⟨vN hw,rfl,rfl,rfl⟩) (by rw[hd];rfl) hr,hq⟩
theorem aHu{op:Op}(h:dS E op=true):bY E op=true:=by
 cases op<;>first|rfl|exact h|(simp only[dS] at h;cases h;done)|skip
 case convert s d x=>
  grind [dS,bY]
 grind [dS,bY]
theorem bL(hw:gok G.ops l o.guard=true)(hd:o.dst=some d)(qd:Nat.ble (d+1) n=true)(hp:dS E o.op=true)(qg:∀H,aop E (aK (fr n t l)) o.op H=some (v,H))(h:SO E G (i+1) r Q (fr n t ((d,v)::l)) H0 A L):SO E G i (o::r) Q (fr n t l) H0 A L:=by
 intro hD H hH;obtain⟨Ls,g,K,hr,hq⟩:=h hD H hH;exact⟨_,g,K,.cons (.inr (.inl ⟨cT hw,rfl,rfl,⟨aHu hp,qg H⟩,fun _=>.inl hp⟩)) (by grind [mM,QL]) hr,hq⟩
omit [γ:Gam] in
def qH(G:RG)(H0:AH):AH:=bif G.D then G.Hw else H0
omit [γ:Gam] in
def qA(G:RG)(A:NQ):NQ:=bif G.D then G.Aw else A
omit [γ:Gam] in
def qL(G:RG)(L:OL):OL:=bif G.D then G.Lw else L
theorem HS.q(hD:DSub G H0 A L){H:AH}(hH:HS G.S H0 G.A0 A L H):HS G.S (qH G H0) G.A0 (qA G A) (qL G L) H:=by
 unfold qH qA qL;cases e:G.D with
 |false=>exact hH
 |true=>exact hH.weak hD e
theorem iU(vd:bY E o.op=true)(hw:gok G.ops l o.guard=true)(hd:o.dst=some d)(qd:Nat.ble (d+1) n=true)(qg:∀H,HS G.S (qH G H0) G.A0 (qA G A) (qL G L) H->aop E (aK (fr n t l)) o.op H=some (v,H))(h:SO E G (i+1) r Q (fr n t ((d,v)::l)) H0 A L):SO E G i (o::r) Q (fr n t l) H0 A L:=by
 intro hD H hH;obtain⟨Ls,g,K,hr,hq⟩:=h hD H hH;refine⟨_,g,K,.cons (.inr (.inl ⟨cT hw,rfl,rfl,⟨vd,qg H (hH.q hD)⟩,fun qw=>.inr (.inr fun H' gv=>qg H' ?_)⟩)) (by grind [mM,QL]) hr,hq⟩
 grind [qH,qA,qL]
theorem vE(vd:bY E o.op=true)(hw:gok G.ops l o.guard=true)(hd:o.dst=some d)(qd:Nat.ble (d+1) n=true)(ho:fF (bef G.ops) G.ms i=true)(qg:∀H,HS G.S H0 G.A0 A L H->aop E (aK (fr n t l)) o.op H=some (v,H))(h:SO E G (i+1) r Q (fr n t ((d,v)::l)) H0 A L):SO E G i (o::r) Q (fr n t l) H0 A L:=by
 intro hD H hH;obtain⟨Ls,g,K,hr,hq⟩:=h hD H hH;exact⟨_,g,K,.cons (.inr (.inl ⟨cT hw,rfl,rfl,⟨vd,qg H hH⟩,fun qw=>.inr (.inl ho)⟩)) (by grind [mM,QL]) hr,hq⟩
theorem dM(hw:gok G.ops l o.guard=true)(hd:o.dst=some d)(qd:Nat.ble (d+1) n=true)(hm:G.D=true->i∈G.ms)
 (h:DSub G H0 A L->∀H,HS G.S H0 G.A0 A L H->∃v H' H1 A1 L1,(aop E (aK (fr n t l)) o.op H=some (v,H')\/(H'.w0=H.w0/\∃g args,bM E (aK (fr n t l)) o.op=some (g,args)/\ACalls P g args H fun u K=>u=v/\K=H'))/\
  HS G.S H1 G.A0 A1 L1 H'/\DSub G H1 A1 L1/\SO E G (i+1) r Q (fr n t ((d,v)::l)) H1 A1 L1):SO E G i (o::r) Q (fr n t l) H0 A L:=by
 intro hD H hH;obtain⟨v,H',H1,A1,L1,qg,hS,zk,hk⟩:=h hD H hH;obtain⟨Ls,g,K,hr,hq⟩:=hk zk H' hS;have hp:(fr n t l).put o.dst v=some (fr n t ((d,v)::l)):=by grind [mM,QL]
 rcases qg with qg|⟨zj,gg,args,hc,ha⟩
 ·exact⟨_,g,K,.cons (.inr (.inr (.inl ⟨cT hw,rfl,fun qw=>⟨hm qw,hS.weak zk qw⟩,qg⟩))) hp hr,hq⟩
 ·exact⟨_,g,K,.cons (.inr (.inr (.inr ⟨cT hw,rfl,fun qw=>⟨hm qw,hS.weak zk qw⟩,zj,.inl ⟨gg,args,hc,ha⟩⟩))) hp hr,hq⟩
theorem aLh(hw:gok G.ops l o.guard=true)(hd:o.dst=none)(hm:G.D=true->i∈G.ms)
 (h:DSub G H0 A L->∀H,HS G.S H0 G.A0 A L H->∃v H' H1 A1 L1,(aop E (aK (fr n t l)) o.op H=some (v,H')\/(H'.w0=H.w0/\∃g args,bM E (aK (fr n t l)) o.op=some (g,args)/\ACalls P g args H fun u K=>u=v/\K=H'))/\
  HS G.S H1 G.A0 A1 L1 H'/\DSub G H1 A1 L1/\SO E G (i+1) r Q (fr n t l) H1 A1 L1):SO E G i (o::r) Q (fr n t l) H0 A L:=by
 intro hD H hH;obtain⟨v,H',H1,A1,L1,qg,hS,zk,hk⟩:=h hD H hH;obtain⟨Ls,g,K,hr,hq⟩:=hk zk H' hS;have hp:(fr n t l).put o.dst v=some (fr n t l):=by rw[hd];rfl
 rcases qg with qg|⟨zj,gg,args,hc,ha⟩
 ·exact⟨_,g,K,.cons (.inr (.inr (.inl ⟨cT hw,rfl,fun qw=>⟨hm qw,hS.weak zk qw⟩,qg⟩))) hp hr,hq⟩
 ·exact⟨_,g,K,.cons (.inr (.inr (.inr ⟨cT hw,rfl,fun qw=>⟨hm qw,hS.weak zk qw⟩,zj,.inl ⟨gg,args,hc,ha⟩⟩))) hp hr,hq⟩
theorem DSub.push(h:DSub G H0 A L)(x:Nat×AObj):DSub G H0 A (x::L):=fun hD=>by
 obtain⟨h1,h2,h3,h4⟩:=h hD
 simp_all
theorem DSub.fresh{H H':AH}{A':NQ}(h:DSub G H0 A L)(g:Gr A H0 A' H'):DSub G H' A' L:=fun hD=>by
 obtain⟨h1,h2,h3,h4⟩:=h hD;exact⟨h1,h2,fun j hj=>⟨g.sub j (h3 j hj).1,(g.get j (h3 j hj).1).trans (h3 j hj).2⟩,h4.trans g.w0.symm⟩
theorem DSub.list{L1:OL}(h:DSub G H0 A L)(hs:G.D=true->G.Lw.Sublist L1):DSub G H0 A L1:=fun hD=>by
 obtain⟨h1,h2,h3,h4⟩:=h hD
 grind
end
end Go.AM
namespace Go.AM
open Go.RowKit
variable [σ:Sg]
inductive Kd where
 |int (k:IntKind)
 |bool
 |str
 |row (b:Nat) (ks:List Kd)
inductive CT where
 |v (u:Value)
 |row (l:List (List CT))
def InA(A:NQ)(b:Nat):Prop:=b%2=0\/A (b / 2)
abbrev LX:=List (List CT)
abbrev CL:=List CT
abbrev KL:=List Kd
theorem InA.own{A:NQ}{N:Nat}(h:A N):InA A (2*N+1):=.inr (by rw[eL];exact h)
def SzA(H:AH)(a:Addr)(n:Nat):Prop:=a.block%2=1->(∃cs ex,H.tr.get (a.block / 2)=some (.cells cs n ex))\/(H.tr.get (a.block / 2)=none/\∃cs,H.w0.rd (a.block / 2)=some (cs,n))
mutual
def CellA(A:NQ)(H:AH):Kd->Value->CT->Prop
 |.int k,x,.v u=>x=u/\∃n,u=.int k n/\(Lit.int k n).wf=true
 |.bool,x,.v u=>x=u/\∃b,u=.bool b
 |.str,x,.v u=>x=u/\∃s,u=.string s/\s.size<=maxLen
 |.row b ks,x,.row l=>l.length<=140737488351232/\l.length*b<=140737488351232/\(((x=.slice none 0 0\/(x=.slice none 0 1/\H.w0.em=true))/\l=[])\/∃a cap,x=.slice (some a) l.length cap/\l.length<=cap/\(InA A a.block/\SzA H a ks.length)/\
  ∀(i:Nat) c,l[i]?=some c->∃xs,aloads H (a.add (i*ks.length)) ks.length=some xs/\CellsA A H ks xs c)
 |_,_,_=>False
def CellsA(A:NQ)(H:AH):KL->List Value->List CT->Prop
 |[],[],[]=>True
 |k::ks,x::xs,c::cs=>CellA A H k x c/\CellsA A H ks xs cs
 |_,_,_=>False
end
theorem gC{H:AH}{p:Addr}{n:Nat}{xs:VL}(h:aloads H p n=some xs):xs.length=n:=by
 unfold aloads at h;by_cases hn:n=0
 ·subst hn;simp at h;rw[h];rfl
 ·rw[show Nat.beq n 0=false by(cases n with|zero=>exact absurd rfl hn|succ n=>rfl),QF] at h;cases hb:Nat.beq (p.block%2) 0 with
  |true=>
   rw[hb,QT] at h;have key:∀(n i:Nat) (w:World) (a:Addr) (l:VL),aX w a i n=some l->l.length=n:=by
    intro n
    induction n with
    |zero=>intro i w a l h;simp[aX] at h;subst h;rfl
    |succ n ih=>
     intro i w a l h;simp only[aX] at h;split at h
     ·split at h
      ·rename_i r hr;cases h;simp[ih _ _ _ _ hr]
      ·cases h
     ·cases h
   exact key _ _ _ _ _ h
  |false=>
   rw[hb,QF] at h;split at h
   ·rename_i cs _ _ _;cases qf:Nat.ble (p.off+n) cs.length with
    |true=>
     rw[qf,QT] at h;cases h;have:=QL qf;simp;omega
    |false=>rw[qf] at h;cases h
   ·split at h
    ·rename_i c _;cases qf:Nat.ble (p.off+n) c.1.length with
     |true=>
      rw[qf,QT] at h;cases h;have:=QL qf;simp;omega
     |false=>rw[qf] at h;cases h
    ·cases h
   ·cases h
theorem wE(p:Addr)(j:Nat):(⟨(p.add j).block / 2,(p.add j).off,(p.add j).spot⟩:Addr)=(⟨p.block / 2,p.off,p.spot⟩:Addr).add j:=by
 unfold Addr.add;by_cases h:j=0
 ·rw[if_pos h,if_pos h]
 ·rw[if_neg h,if_neg h]
theorem tV{w:World}{a:Addr}:∀(n i:Nat) (l:VL),aX w a i n=some l->∀j,j<n->∃v,w.cell? (a.add (i+j))=some v/\l[j]?=some (ext v):=by
 intro n
 induction n with
 |zero=>intro i l _ j hj;omega
 |succ n ih=>
  intro i l h j hj;simp only[aX] at h;split at h
  ·rename_i v hv;split at h
   ·rename_i r hr;cases h;cases j with
    |zero=>exact⟨v,hv,rfl⟩
    |succ j=>
     obtain⟨u,h1,h2⟩:=ih _ _ hr j (by omega);exact⟨u,by rw[<-h1];congr 2;omega,by simpa using h2⟩
   ·cases h
  ·cases h
theorem aBi{w:World}{a:Addr}:∀(n i:Nat) (l:VL),aX w a i n=some l->∀j m,j+m<=n->aX w a (i+j) m=some ((l.drop j).take m):=by
 intro n i l h j m
 induction m generalizing j with
 |zero=>intro _;simp[aX]
 |succ m ih=>
  intro hj;obtain⟨v,h1,h2⟩:=tV n i l h j (by omega);have h3:=ih (j+1) (by omega);simp only[aX,h1];rw[show i+j+1=i+(j+1) by omega,h3];have kr:=lt_of_getElem? h2;rw[List.drop_eq_getElem_cons kr,List.take_succ_cons];rw[List.getElem?_eq_getElem kr] at h2;rw[<-Option.some.inj h2]
theorem mG{w:World}{a:Addr}(k:Nat):∀(m i:Nat),aX w (a.add k) i m=aX w a (k+i) m:=by
 intro m
 induction m with
 |zero=>intro i;rfl
 |succ m ih=>
  intro i;simp only[aX,jP,ih];rfl
theorem aNt{H:AH}{p:Addr}{n:Nat}{xs:VL}(h:aloads H p n=some xs){j:Nat}(hj:j<n):aload H (p.add j)=xs[j]?:=by
 unfold aloads at h;rw[show Nat.beq n 0=false by(cases n with|zero=>omega|succ n=>rfl),QF] at h;unfold aload;rw[bT];cases hb:Nat.beq (p.block%2) 0 with
 |true=>
  rw[hb,QT] at h;obtain⟨v,h1,h2⟩:=tV _ _ _ h j hj;rw[QT];have e:=wE p j;rw[bT] at e;rw[e];rw[Nat.zero_add] at h1;rw[h1,h2]
 |false=>
  rw[hb,QF] at h;rw[QF];split at h
  ·rename_i cs sz ex hg;cases qf:Nat.ble (p.off+n) cs.length with
   |true=>
    rw[qf,QT] at h;cases h;rw[iF,List.getElem?_take,if_pos hj,List.getElem?_drop]
   |false=>rw[qf] at h;cases h
  ·split at h
   ·rename_i c hc;cases qf:Nat.ble (p.off+n) c.1.length with
    |true=>
     rw[qf,QT] at h;cases h;rw[iF,List.getElem?_take,if_pos hj,List.getElem?_drop]
    |false=>rw[qf] at h;cases h
   ·cases h
  ·cases h
theorem aHw{H:AH}{p:Addr}{n:Nat}{xs:VL}(h:aloads H p n=some xs){j m:Nat}(hj:j+m<=n):aloads H (p.add j) m=some ((xs.drop j).take m):=by
 by_cases hm:m=0
 ·subst hm;unfold aloads;simp
 ·unfold aloads at h ⊢;rw[show Nat.beq n 0=false by(cases n with|zero=>omega|succ n=>rfl),QF] at h;rw[show Nat.beq m 0=false by(cases m with|zero=>exact absurd rfl hm|succ n=>rfl),QF,bT];cases hb:Nat.beq (p.block%2) 0 with
  |true=>
   rw[hb,QT] at h;rw[QT];have e:=wE p j;rw[bT] at e;rw[e,mG];have:=aBi _ _ _ h j m hj;rw[Nat.zero_add] at this;rw[Nat.add_zero];exact this
  |false=>
   rw[hb,QF] at h;rw[QF];split at h
   ·rename_i cs sz ex hg;cases qf:Nat.ble (p.off+n) cs.length with
    |true=>
     rw[qf,QT] at h;cases h;have:=QL qf;rw[iF,Nat.ble_eq_true_of_le (by omega),QT,List.drop_take,List.take_take,List.drop_drop,Nat.min_eq_left (by omega)]
    |false=>rw[qf] at h;cases h
   ·split at h
    ·rename_i c hc;cases qf:Nat.ble (p.off+n) c.1.length with
     |true=>
      rw[qf,QT] at h;cases h;have:=QL qf;rw[iF,Nat.ble_eq_true_of_le (by omega),QT,List.drop_take,List.take_take,List.drop_drop,Nat.min_eq_left (by omega)]
     |false=>rw[qf] at h;cases h
    ·cases h
   ·cases h
section
variable {A A':NQ}{H H':AH}
theorem Gr.aload(g:Gr A H A' H'){p:Addr}(hp:InA A p.block):AM.aload H' p=AM.aload H p:=by
 unfold AM.aload;rw[g.w0];cases hb:Nat.beq (p.block%2) 0 with
 |true=>rfl
 |false=>
  simp only[QF];rw[g.get];rcases hp with hp|hp
  ·rw[hp] at hb;cases hb
  ·exact hp
theorem Gr.aloads(g:Gr A H A' H'){p:Addr}(hp:InA A p.block)(n:Nat):AM.aloads H' p n=AM.aloads H p n:=by
 unfold AM.aloads;rw[g.w0];cases hb:Nat.beq (p.block%2) 0 with
 |true=>rfl
 |false=>
  simp only[QF];rw[g.get];rcases hp with hp|hp
  ·rw[hp] at hb;cases hb
  ·exact hp
theorem Gr.szA(g:Gr A H A' H'){a:Addr}{n:Nat}(hp:InA A a.block)(h:SzA H a n):SzA H' a n:=fun ho=>by
 have e:H'.tr.get (a.block / 2)=H.tr.get (a.block / 2):=g.get _ (by
  rcases hp with hp|hp
  ·omega
  ·exact hp)
 rw[e,g.w0];exact h ho
theorem Gr.inA(g:Gr A H A' H'){b:Nat}(h:InA A b):InA A' b:=h.imp id (g.sub _)
mutual
theorem CellA.gr(g:Gr A H A' H'):∀(k:Kd) (x:Value) (c:CT),CellA A H k x c->CellA A' H' k x c
 |.int k,x,.v u,h=>by simp only[CellA] at h ⊢;exact h
 |.bool,x,.v u,h=>by simp only[CellA] at h ⊢;exact h
 |.str,x,.v u,h=>by simp only[CellA] at h ⊢;exact h
 |.row b ks,x,.row l,h=>by
  simp only[CellA] at h ⊢;obtain⟨h1,h2,h3⟩:=h;refine⟨h1,h2,h3.imp (fun q=>⟨q.1.imp id fun e=>⟨e.1,by rw[g.w0];exact e.2⟩,q.2⟩) ?_⟩;rintro⟨a,cap,rfl,q1,q2,q3⟩;refine⟨a,cap,rfl,q1,⟨g.inA q2.1,g.szA q2.1 q2.2⟩,fun i c hc=>?_⟩;obtain⟨xs,r1,r2⟩:=q3 i c hc;exact⟨xs,by rw[g.aloads (by rw[bT];exact q2.1)];exact r1,CellsA.gr g ks xs c r2⟩
 |.int k,x,.row l,h=>by simp only[CellA] at h
 |.bool,x,.row l,h=>by simp only[CellA] at h
 |.str,x,.row l,h=>by simp only[CellA] at h
 |.row b ks,x,.v u,h=>by simp only[CellA] at h
theorem CellsA.gr(g:Gr A H A' H'):∀(ks:KL) (xs:VL) (cs:CL),CellsA A H ks xs cs->CellsA A' H' ks xs cs
 |[],[],[],_=>by simp only[CellsA]
 |k::ks,x::xs,c::cs,h=>by
  simp only[CellsA] at h ⊢;exact⟨CellA.gr g k x c h.1,CellsA.gr g ks xs cs h.2⟩
 |[],[],_::_,h=>by simp only[CellsA] at h
 |[],_::_,_,h=>by simp only[CellsA] at h
 |_::_,[],_,h=>by simp only[CellsA] at h
 |_::_,_::_,[],h=>by simp only[CellsA] at h
end
theorem CellsA.len:∀{ks:KL} {xs:VL} {cs:CL},CellsA A H ks xs cs->xs.length=ks.length/\cs.length=ks.length
 |[],[],[],_=>⟨rfl,rfl⟩
 |k::ks,x::xs,c::cs,h=>by
  simp only[CellsA] at h;have:=CellsA.len h.2;simp[this.1,this.2]
 |[],[],_::_,h=>by simp only[CellsA] at h
 |[],_::_,_,h=>by simp only[CellsA] at h
 |_::_,[],_,h=>by simp only[CellsA] at h
 |_::_,_::_,[],h=>by simp only[CellsA] at h
theorem CellsA.at:∀{ks:KL} {xs:VL} {cs:CL},CellsA A H ks xs cs->∀{i:Nat} {k:Kd} {x:Value} {c:CT},ks[i]?=some k->xs[i]?=some x->cs[i]?=some c->CellA A H k x c
 |[],[],[],_,i,k,x,c,h,_,_=>by simp at h
 |k::ks,x::xs,c::cs,h,i,k',x',c',h1,h2,h3=>by
  simp only[CellsA] at h;cases i with
  |zero=>simp at h1 h2 h3;subst h1;subst h2;subst h3;exact h.1
  |succ i=>simp at h1 h2 h3;exact CellsA.at h.2 h1 h2 h3
 |[],[],_::_,h,_,_,_,_,_,_,_=>by simp only[CellsA] at h
 |[],_::_,_,h,_,_,_,_,_,_,_=>by simp only[CellsA] at h
 |_::_,[],_,h,_,_,_,_,_,_,_=>by simp only[CellsA] at h
 |_::_,_::_,[],h,_,_,_,_,_,_,_=>by simp only[CellsA] at h
theorem CellsA.mk:∀{ks:KL} {xs:VL} {cs:CL},xs.length=ks.length->cs.length=ks.length->(∀(i:Nat) k x c,ks[i]?=some k->xs[i]?=some x->cs[i]?=some c->CellA A H k x c)->CellsA A H ks xs cs
 |[],[],[],_,_,_=>by simp only[CellsA]
 |k::ks,x::xs,c::cs,h1,h2,h=>by
  simp only[CellsA];exact⟨h 0 k x c rfl rfl rfl,CellsA.mk (by simpa using h1) (by simpa using h2) (fun i k x c a b d=>h (i+1) k x c (by simpa using a) (by simpa using b) (by simpa using d))⟩
 |[],[],_::_,_,h,_=>by simp at h
 |[],_::_,_,h,_,_=>by simp at h
 |_::_,[],_,h,_,_=>by simp at h
 |_::_,_::_,[],_,h,_=>by simp at h
theorem CellsA.part{ks:KL}{xs:VL}{cs:CL}(h:CellsA A H ks xs cs)(j m:Nat):CellsA A H ((ks.drop j).take m) ((xs.drop j).take m) ((cs.drop j).take m):=by
 obtain⟨h1,h2⟩:=h.len;refine CellsA.mk (by simp[h1]) (by simp[h2]) fun i k x c a b d=>?_;rw[List.getElem?_take] at a b d;split at a
 ·rename_i hi;rw[if_pos hi,List.getElem?_drop] at b d;rw[List.getElem?_drop] at a;exact h.at a b d
 ·cases a
theorem CellsA.append{ks ks':KL}{xs xs':VL}{cs cs':CL}(h:CellsA A H ks xs cs)(h':CellsA A H ks' xs' cs'):CellsA A H (ks++ks') (xs++xs') (cs++cs'):=by
 obtain⟨h1,h2⟩:=h.len;obtain⟨h3,h4⟩:=h'.len;refine CellsA.mk (by simp[h1,h3]) (by simp[h2,h4]) fun i k x c a b d=>?_;by_cases hi:i<ks.length
 ·rw[List.getElem?_append_left hi] at a;rw[List.getElem?_append_left (by omega)] at b d;exact h.at a b d
 ·rw[List.getElem?_append_right (by omega)] at a;rw[List.getElem?_append_right (by omega),h1] at b;rw[List.getElem?_append_right (by omega),h2] at d;exact h'.at a b d
theorem CellA.row{b:Nat}{ks:KL}{x:Value}{c:CT}(h:CellA A H (.row b ks) x c):∃l,c=.row l/\l.length<=140737488351232/\l.length*b<=140737488351232/\(((x=.slice none 0 0\/(x=.slice none 0 1/\H.w0.em=true))/\l=[])\/∃a cap,x=.slice (some a) l.length cap/\l.length<=cap/\(InA A a.block/\SzA H a ks.length)/\
 ∀(i:Nat) c,l[i]?=some c->∃xs,aloads H (a.add (i*ks.length)) ks.length=some xs/\CellsA A H ks xs c):=by
 cases c with
 |v u=>simp only[CellA] at h
 |row l=>simp only[CellA] at h;exact⟨l,rfl,h⟩
theorem CellA.int{k:IntKind}{x:Value}{c:CT}(h:CellA A H (.int k) x c):∃n,x=.int k n/\c=.v (.int k n)/\(Lit.int k n).wf=true:=by
 cases c with
 |v u=>simp only[CellA] at h;obtain⟨rfl,n,rfl,hn⟩:=h;exact⟨n,rfl,rfl,hn⟩
 |row l=>simp only[CellA] at h
theorem CellA.bool{x:Value}{c:CT}(h:CellA A H .bool x c):∃b,x=.bool b/\c=.v (.bool b):=by
 cases c with
 |v u=>simp only[CellA] at h;obtain⟨rfl,n,rfl⟩:=h;exact⟨n,rfl,rfl⟩
 |row l=>simp only[CellA] at h
theorem CellA.str{x:Value}{c:CT}(h:CellA A H .str x c):∃s,x=.string s/\c=.v (.string s)/\s.size<=maxLen:=by
 cases c with
 |v u=>simp only[CellA] at h;obtain⟨rfl,n,rfl,hn⟩:=h;exact⟨n,rfl,rfl,hn⟩
 |row l=>simp only[CellA] at h
end
section
variable {A:NQ}{H:AH}
end
def cellsOf(n:Nat)(x:Nat->Value):VL:=(List.range n).map x
end Go.AM
namespace Go.AM
open Go.RowKit
variable [σ:Sg]
theorem bV{n i:Nat}{x:Nat->Value}(h:Nat.blt i n=true):(cellsOf n x)[i]?=some (x i):=by
 have:i<n:=QL h;simp[cellsOf,this]
theorem aV(n:Nat)(x:Nat->Value):(cellsOf n x).length=n:=by simp[cellsOf]
theorem eO{m n:Nat}{x:Nat->Value}(h:Nat.ble m n=true):m<=(cellsOf n x).length:=by rw[aV];exact QL h
def aWo(x:Nat->Value)(off:Nat)(v:Value):Nat->Value:=fun i=>bif Nat.beq i off then v else x i
theorem jG{n off:Nat}{x:Nat->Value}{v:Value}(h:Nat.blt off n=true):(cellsOf n x).take off++([v]++(cellsOf n x).drop (off+1))=cellsOf n (aWo x off v):=by
 have qm:off<n:=QL h;apply List.ext_getElem?;intro i;by_cases h1:i<off
 ·rw[List.getElem?_append_left (by simp[cellsOf];omega),List.getElem?_take,if_pos h1,bV (by simp[Nat.blt];omega),bV (by simp[Nat.blt];omega)];rw[aWo,show Nat.beq i off=false by(cases e:Nat.beq i off with|false=>rfl|true=>have:=QN e;omega)];rfl
 ·rw[List.getElem?_append_right (by simp[cellsOf];omega)];simp only[List.length_take,aV,Nat.min_eq_left (Nat.le_of_lt qm)];by_cases h2:i=off
  ·subst h2;rw[bV (by simp[Nat.blt];omega),aWo];simp
  ·rw[List.getElem?_append_right (by simp;omega),List.getElem?_drop];simp only[List.length_singleton];rw[show off+1+(i - off - 1)=i by omega];by_cases h3:i<n
   ·rw[bV (by simp[Nat.blt];omega),bV (by simp[Nat.blt];omega),aWo,show Nat.beq i off=false by(cases e:Nat.beq i off with|false=>rfl|true=>exact absurd (QN e) h2)];rfl
   ·rw[List.getElem?_eq_none (by simp[cellsOf];omega),List.getElem?_eq_none (by simp[cellsOf];omega)]
section
variable {A:NQ}{H:AH}
theorem CellA.one{k:Kd}{x:Value}{c:CT}(h:CellA A H k x c):x.oneCell'=true:=by
 cases k with
 |int k=>obtain⟨n,rfl,_⟩:=h.int;rfl
 |bool=>obtain⟨n,rfl,_⟩:=h.bool;rfl
 |str=>obtain⟨n,rfl,_⟩:=h.str;rfl
 |row b ks=>
  obtain⟨l,rfl,_,_,⟨rfl|⟨rfl,_⟩,_⟩|⟨a,cap,rfl,_⟩⟩:=h.row<;>rfl
theorem CellsA.one:∀{ks:KL} {xs:VL} {cs:CL},CellsA A H ks xs cs->aZ xs=true
 |[],[],[],_=>rfl
 |k::ks,x::xs,c::cs,h=>by
  simp only[CellsA] at h;simp only[aZ,h.1.one,CellsA.one h.2,Bool.and_self]
 |[],[],_::_,h=>by simp only[CellsA] at h
 |[],_::_,_,h=>by simp only[CellsA] at h
 |_::_,[],_,h=>by simp only[CellsA] at h
 |_::_,_::_,[],h=>by simp only[CellsA] at h
end
section
variable {P:PG}{E:Env P}{t:TY}{k:IntKind}{a b:Int}{s u:BA}
theorem iM(h:a<b):aQ E .lss t (.int k a) (.int k b)=some (.bool true):=by simp[aQ,cC,h]
theorem iL(h:b<=a):aQ E .lss t (.int k a) (.int k b)=some (.bool false):=by simp[aQ,cC];omega
theorem aAv(h:a=b):aQ E .eql t (.int k a) (.int k b)=some (.bool true):=by simp[aQ,cC,h]
theorem zR(h:a≠b):aQ E .eql t (.int k a) (.int k b)=some (.bool false):=by simp[aQ,cC,h]
theorem gN{c:Int}(h:k.wrap (a+b)=c):aQ E .add t (.int k a) (.int k b)=some (.int k c):=by simp[aQ,cC,h]
theorem aYz{c:Int}(h:k.wrap (a - b)=c):aQ E .sub t (.int k a) (.int k b)=some (.int k c):=by simp[aQ,cC,h]
theorem bCb{c:Int}(h:k.wrap (a*b)=c):aQ E .mul t (.int k a) (.int k b)=some (.int k c):=by simp[aQ,cC,h]
theorem wH{c:Int}(h0: -9223372036854775808<=c)(h1:c<=9223372036854775807):IntKind.i64.wrap c=c:=by
 rw[IntKind.wrap_i64];omega
theorem sA{m:Nat}(h:m+1<=9223372036854775807):aQ E .add t (.int .i64 (m:Int)) (.int .i64 1)=some (.int .i64 ((m+1:Nat):Int)):=gN (by rw[wH (by omega) (by omega)];omega)
theorem oZ{e:TY}(hu:E.und t=some (.pointer e)):aQ E .eql t (.pointer none) (.pointer none)=some (.bool true):=by simp[aQ,hu,dK]
theorem oW{e:TY}{p:Addr}(hu:E.und t=some (.pointer e)):aQ E .eql t (.pointer (some p)) (.pointer none)=some (.bool false):=by simp[aQ,hu,dK]
end
section
variable {P:PG}{E:Env P}{A:NQ}{H:AH}
end
end Go.AM
