/-
  An abstract machine that runs a program of the given form, and its soundness, part 15.
-/
import Derived.Test.YtfcmggoiphphnaaGreatDoorAb14
set_option linter.unusedVariables false
set_option linter.unusedSimpArgs false
set_option linter.unusedSectionVars false
noncomputable section
namespace Go.AM
open Go.RowKit
variable [σ:Sg]
inductive Fm where
 |code (c:Code)
 |blk (i:Nat)
structure Stt where
 e:Exit
 k:List Fm
 f:Fr
 H:AH
def stackK(P:Program)(Q:AQ):List Fm->AQ
 |[]=>Q
 |.code c::k=>fun e f H=>(e=.normal/\ACode P c (stackK P Q k) f H)\/(e≠.normal/\stackK P Q k e f H)
 |.blk i::k=>fun e f H=>match e with
  |.exit j=>if j=i then stackK P Q k .normal f H else stackK P Q k (.exit j) f H
  |e=>stackK P Q k e f H
def Stt.Ok(P:Program)(Q:AQ)(s:Stt):Prop:=stackK P Q s.k s.e s.f s.H
section
variable {P:Program}(E:Env P)
def stepS(call:fW)(fuel:Nat)(s:Stt):Option Stt:=
 match s.k with
 |[]=>none
 |.blk i::k=>(match s.e with
  |.exit j=>bif Nat.beq j i then some ⟨.normal,k,s.f,s.H⟩ else some ⟨.exit j,k,s.f,s.H⟩
  |e=>some ⟨e,k,s.f,s.H⟩)
 |.code c::k=>(match s.e with
  |.normal=>(match c with
   |.seq a b=>some ⟨.normal,.code a::.code b::k,s.f,s.H⟩
   |.cond z x y=>(match aK s.f z with
    |.bool true=>some ⟨.normal,.code x::k,s.f,s.H⟩
    |.bool false=>some ⟨.normal,.code y::k,s.f,s.H⟩
    |_=>none)
   |.block i c=>some ⟨.normal,.code c::.blk i::k,s.f,s.H⟩
   |c=>(match dY E call fuel c s.f s.H with
    |some (e',f',H')=>some ⟨e',k,f',H'⟩
    |none=>none))
  |e=>some ⟨e,k,s.f,s.H⟩)
def runS(call:fW)(fuel:Nat):Nat->Stt->Option Stt
 |0,s=>some s
 |n+1,s=>(match stepS E call fuel s with
  |some s'=>runS call fuel n s'
  |none=>none)
theorem stepS_ok{call:fW}(hcall:jV P call)(hm:P.follows .mixedOrders=true){fuel:Nat}{Q:AQ}{s s':Stt}(h:stepS E call fuel s=some s')(k:s'.Ok P Q):s.Ok P Q:=by
 obtain⟨e,st,f,H⟩:=s;unfold stepS at h;cases st with
 |nil=>cases h
 |cons x st=>
  cases x with
  |blk i=>
   simp only at h;cases e with
   |exit j=>
    simp only at h;cases hj:Nat.beq j i with
    |true=>
     rw[hj,cond_true] at h;cases h;have:=Nat.eq_of_beq_eq_true hj;simp only[Stt.Ok,stackK,this,if_true] at k ⊢;exact k
    |false=>
     rw[hj,cond_false] at h;cases h;have:¬j=i:=fun e=>by rw[e] at hj;simp at hj
     simp only[Stt.Ok,stackK,this,if_false] at k ⊢;exact k
   |_=>simp only at h;cases h;exact k
  |code c=>
   by_cases he:e=.normal
   ·subst he;simp only at h;refine .inl ⟨rfl,?_⟩;have run:∀{c:Code},(match dY E call fuel c f H with|some (e',f',H')=>some (⟨e',st,f',H'⟩:Stt)|none=>none)=some s'->ACode P c (stackK P Q st) f H:=by
     intro c h;split at h
     ·rename_i e' f' H' hr;cases h;refine(aSp E hcall hm fuel _ _ _ _ _ _ hr).2.mono ?_;rintro e'' f'' H'' ⟨rfl,rfl,rfl⟩;exact k
     ·cases h
    cases c with
    |seq a b=>
     cases h;rcases k with⟨_,k⟩|⟨k,_⟩
     ·refine ACode.seq k ?_ ?_
      ·rintro f1 H1 (⟨_,k1⟩|⟨k1,_⟩)
       ·exact k1
       ·exact absurd rfl k1
      ·rintro e1 f1 H1 hne (⟨k1,_⟩|⟨_,k1⟩)
       ·exact absurd k1 hne
       ·exact k1
     ·exact absurd rfl k
    |cond z x y=>
     simp only at h;split at h
     ·rename_i hz;cases h;rcases k with⟨_,k⟩|⟨k,_⟩
      ·exact ACode.cond (b:=true) hz k
      ·exact absurd rfl k
     ·rename_i hz;cases h;rcases k with⟨_,k⟩|⟨k,_⟩
      ·exact ACode.cond (b:=false) hz k
      ·exact absurd rfl k
     ·cases h
    |block i c=>
     cases h;rcases k with⟨_,k⟩|⟨k,_⟩
     ·exact ACode.block k
     ·exact absurd rfl k
    |_=>exact run h
   ·have hs:s'=⟨e,st,f,H⟩:=by
     cases e with
     |normal=>exact absurd rfl he
     |_=>simp only at h;cases h;rfl
    subst hs;exact .inr ⟨he,k⟩
theorem runS_ok{call:fW}(hcall:jV P call)(hm:P.follows .mixedOrders=true){fuel:Nat}{Q:AQ}{s':Stt}(k:s'.Ok P Q):∀(n:Nat) (s:Stt),runS E call fuel n s=some s'->s.Ok P Q:=by
 intro n
 induction n with
 |zero=>intro s h;cases h;exact k
 |succ n ih=>
  intro s h;simp only[runS] at h;split at h
  ·rename_i s1 h1;exact stepS_ok E hcall hm h1 (ih s1 h)
  ·cases h
end
def mkH(l:List (Nat×AObj)):Tr AObj:=List.rec (motive:=fun _=>Tr AObj) .nil (fun p _ t=>t.set p.1 (some p.2)) l
def pickH(t:Tr AObj)(l:List Nat):List (Nat×AObj):=List.rec (motive:=fun _=>List (Nat×AObj)) [] (fun i _ r=>match t.get i with
 |some o=>(i,o)::r
 |none=>r) l
def gcH(ids:List Nat)(H:AH):AH:={H with tr:=mkH (pickH H.tr ids)}
theorem mkH_get:∀(l:List (Nat×AObj)) (i:Nat) (o:AObj),(mkH l).get i=some o->(i,o)∈l
 |[],i,o,h=>by simp[mkH,Tr.get_nil] at h
 |p::r,i,o,h=>by
  have h:((mkH r).set p.1 (some p.2)).get i=some o:=h;rw[Tr.get_set] at h;by_cases e:i=p.1
  ·rw[if_pos e] at h;cases h;subst e;exact List.mem_cons_self ..
  ·rw[if_neg e] at h;exact List.mem_cons_of_mem _ (mkH_get r i o h)
theorem pickH_mem{t:Tr AObj}:∀(l:List Nat) (i:Nat) (o:AObj),(i,o)∈pickH t l->t.get i=some o
 |[],i,o,h=>by cases h
 |j::r,i,o,h=>by
  have h:(i,o)∈(match t.get j with
   |some o=>(j,o)::pickH t r
   |none=>pickH t r):=h
  split at h
  ·rename_i o' ho;rcases List.mem_cons.1 h with h|h
   ·cases h;exact ho
   ·exact pickH_mem r i o h
  ·exact pickH_mem r i o h
theorem Rel.less [Pins]{φ:List Place}{H H':AH}{w:World}(R:Rel φ H w)(h0:H'.w0=H.w0)(hn:H'.nx=H.nx)(hg:∀i o,H'.tr.get i=some o->H.tr.get i=some o):Rel φ H' w:=
 ⟨by rw[h0];exact R.below,by rw[hn];exact R.len,fun i o h=>by rw[h0];exact R.obj i o (hg i o h),fun i j o o' p q h1 h2=>R.inj i j o o' p q (hg _ _ h1) (hg _ _ h2),by rw[h0];exact R.pin,R.lt,R.ro' h0 (List.prefix_refl _) fun i _ h=>by
  cases e:H'.tr.get i with
  |none=>rfl
  |some o=>rw[hg i o e] at h;cases h⟩
theorem ACode.gc{P:Program}{c:Code}{Q:AQ}{f:Fr}{H:AH}(ids:List Nat)(h:ACode P c Q f (gcH ids H)):ACode P c Q f H:=
 fun π ro φ a w hg hf hR=>h π ro φ a w hg hf (hR.less rfl rfl fun i o hi=>pickH_mem ids i o (mkH_get _ i o hi))
section
variable {P:Program}(E:Env P)
def pieceS(call:fW)(fuel n:Nat)(ids:List Nat)(s:Stt):Option Stt:=
 match runS E call fuel n s with
 |some ⟨.normal,.code c::k,f,H⟩=>some ⟨.normal,.code c::k,f,gcH ids H⟩
 |_=>none
theorem pieceS_ok{call:fW}(hcall:jV P call)(hm:P.follows .mixedOrders=true){fuel n:Nat}{ids:List Nat}{Q:AQ}{s s':Stt}(h:pieceS E call fuel n ids s=some s')(k:s'.Ok P Q):s.Ok P Q:=by
 unfold pieceS at h;split at h
 ·rename_i c st f H hr;cases h;refine runS_ok E hcall hm (s':=⟨.normal,.code c::st,f,H⟩) ?_ n s hr;rcases k with⟨_,k⟩|⟨k,_⟩
  ·exact .inl ⟨rfl,ACode.gc ids k⟩
  ·exact absurd rfl k
 ·cases h
def lastS(call:fW)(fuel n:Nat)(rs:List ResultVar)(s:Stt):Option Value:=
 match runS E call fuel n s with
 |some ⟨.ret,[],f,H⟩=>(match bS E f H rs with
  |some vs=>some (bG vs)
  |none=>none)
 |some ⟨.normal,[],f,H⟩=>(match bS E f H rs with
  |some vs=>some (bG vs)
  |none=>none)
 |_=>none
def endK(rs:List ResultVar)(v:Value):AQ:=fun e f H=>(e=.normal\/e=.ret)/\∃vs,bS E f H rs=some vs/\bG vs=v
theorem lastS_ok{call:fW}(hcall:jV P call)(hm:P.follows .mixedOrders=true){fuel n:Nat}{rs:List ResultVar}{s:Stt}{v:Value}(h:lastS E call fuel n rs s=some v):s.Ok P (endK E rs v):=by
 unfold lastS at h;split at h
 ·rename_i f H hr;split at h
  ·rename_i vs hvs;cases h;exact runS_ok E hcall hm (Q:=endK E rs (bG vs)) (s':=⟨.ret,[],f,H⟩) (show endK E rs (bG vs) .ret f H from⟨.inr rfl,vs,hvs,rfl⟩) n s hr
  ·cases h
 ·rename_i f H hr;split at h
  ·rename_i vs hvs;cases h;exact runS_ok E hcall hm (Q:=endK E rs (bG vs)) (s':=⟨.normal,[],f,H⟩) (show endK E rs (bG vs) .normal f H from⟨.inl rfl,vs,hvs,rfl⟩) n s hr
  ·cases h
 ·cases h
theorem pieces_call{g:FuncId}{x:AFn}(hg:E.fn g=some x){args:List Value}{H:AH}{v:Value}(h:(⟨.normal,[.code x.body],rC args x.ntmps,H⟩:Stt).Ok P (endK E x.results v)):ACalls P g args H fun u _=>u=v:=by
 rcases h with⟨_,h⟩|⟨h,_⟩
 ·exact ACalls.body E hg h
 ·exact absurd rfl h
end
inductive Mv where
 |b (x:Bool)
 |e (x:Exit)
def nav:Nat->List Mv->Exit->List Fm->List Fm
 |0,_,_,k=>k
 |_+1,_,_,[]=>[]
 |n+1,ms,e,.blk i::k=>(match e with
  |.exit j=>bif Nat.beq j i then nav n ms .normal k else nav n ms (.exit j) k
  |e=>nav n ms e k)
 |n+1,ms,e,.code c::k=>(match e with
  |.normal=>(match c with
   |.seq a b=>nav n ms .normal (.code a::.code b::k)
   |.cond _ x y=>(match ms with
    |.b true::ms=>nav n ms .normal (.code x::k)
    |.b false::ms=>nav n ms .normal (.code y::k)
    |_=>[])
   |.block i c=>nav n ms .normal (.code c::.blk i::k)
   |.loop _=>(match ms with
    |.e x::ms=>nav n ms x k
    |_=>[])
   |.exit i=>nav n ms (.exit i) k
   |.ret=>nav n ms .ret k
   |_=>nav n ms .normal k)
  |e=>nav n ms e k)
def mkF(l:List (Nat×Value)):Tr Value:=List.rec (motive:=fun _=>Tr Value) .nil (fun p _ t=>t.set p.1 (some p.2)) l
def fnOf{P:Program}(E:Env P)(g:FuncId):AFn:=(E.fn g).getD ⟨0,[],.skip⟩
theorem fnOf_ok{P:Program}{E:Env P}{g:FuncId}(h:∃x,E.fn g=some x):E.fn g=some (fnOf E g):=by
 obtain⟨x,hx⟩:=h;rw[fnOf,hx];rfl
def beginS{P:Program}(E:Env P)(g:FuncId)(args:List Value)(H:AH):Stt:=⟨.normal,[.code (fnOf E g).body],rC args (fnOf E g).ntmps,H⟩
def midS{P:Program}(E:Env P)(g:FuncId)(n:Nat)(ms:List Mv)(f:Fr)(H:AH):Stt:=⟨.normal,nav n ms .normal [.code (fnOf E g).body],f,H⟩
theorem begin_call{P:Program}{E:Env P}{g:FuncId}(hg:∃x,E.fn g=some x){args:List Value}{H:AH}{v:Value}(h:(beginS E g args H).Ok P (endK E (fnOf E g).results v)):ACalls P g args H fun u _=>u=v:=
 pieces_call E (fnOf_ok hg) h
end Go.AM
