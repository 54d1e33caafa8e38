/-
  An abstract machine that runs a program of the given form, and its soundness, part 5.
-/
import Derived.Test.YtlikijmihbgloaaGreatDoorAb4
set_option linter.unusedVariables false
set_option linter.unusedSimpArgs false
set_option linter.unusedSectionVars false
noncomputable section
namespace Go.AM
open Go.RowKit
variable [σ:Sg]
variable [γ:Gam]
omit [γ:Gam] in
abbrev OL:=List (Nat×AObj)
omit [γ:Gam] in
structure HS (S H0:AH) (A0 A:NQ) (L:OL) (H:AH):Prop where
 kept:Kept S.nx S H
 base:∀j,A j->H.tr.get j=H0.tr.get j
 w0:H0.w0=H.w0
 sub:∀j,A j->A0 j\/S.nx<=j
 lt:∀j,A j->j<H.nx
 own:∀p∈L,H.tr.get p.1=some p.2/\S.nx<=p.1/\p.1<H.nx/\¬A p.1
 dist:L.Pairwise (fun p q=>p.1≠q.1)
omit [γ:Gam] in
structure Gr (A:NQ) (H0:AH) (A':NQ) (H':AH):Prop where
 sub:∀j,A j->A' j
 get:∀j,A j->H'.tr.get j=H0.tr.get j
 w0:H'.w0=H0.w0
theorem Gr.refl(A:NQ)(H:AH):Gr A H A H:=⟨fun _ h=>h,fun _ _=>rfl,rfl⟩
theorem Gr.trans{A B C:NQ}{H K M:AH}(h:Gr A H B K)(k:Gr B K C M):Gr A H C M:=⟨fun j a=>k.sub j (h.sub j a),fun j a=>(k.get j (h.sub j a)).trans (h.get j a),k.w0.trans h.w0⟩
theorem HS.gr{S H0 H:AH}{A0 A:NQ}{L:OL}(h:HS S H0 A0 A L H):Gr A H0 A H:=⟨fun _ h=>h,h.base,h.w0.symm⟩
section
variable {S H0 H H':AH}{A0 A:NQ}{L L':OL}
theorem HS.start(hA:∀j,A0 j->j<S.nx):HS S S A0 A0 [] S:=⟨Kept.refl _ _,fun _ _=>rfl,rfl,fun _ h=>.inl h,hA,(fun p hp=>by cases hp),List.Pairwise.nil⟩
theorem HS.subl(h:HS S H0 A0 A L H)(hs:L'.Sublist L):HS S H0 A0 A L' H:=⟨h.kept,h.base,h.w0,h.sub,h.lt,fun p hp=>h.own p (hs.subset hp),h.dist.sublist hs⟩
theorem HS.later(h:HS S H0 A0 A L H)(k:Kept H.nx H H'):HS S H0 A0 A L H':=
 ⟨h.kept.trans (k.mono h.kept.nx),fun j hj=>(k.get j (h.lt j hj)).trans (h.base j hj),h.w0.trans k.w0.symm,h.sub,fun j hj=>Nat.lt_of_lt_of_le (h.lt j hj) k.nx,
  fun p hp=>by obtain⟨h1,h2,h3,h4⟩:=h.own p hp;exact⟨(k.get _ h3).trans h1,h2,Nat.lt_of_lt_of_le h3 k.nx,h4⟩,h.dist⟩
theorem HS.push(h:HS S H0 A0 A L H)(o:AObj):HS S H0 A0 A ((H.nx,o)::L) (dI H o):=by
 have k:=h.later (Kept.new H o (Nat.le_refl _));refine⟨k.kept,k.base,k.w0,k.sub,k.lt,fun p hp=>?_,List.Pairwise.cons (fun q hq=>?_) h.dist⟩
 ·rcases List.mem_cons.1 hp with rfl|hp
  ·exact⟨aZw H o,h.kept.nx,Nat.lt_succ_self _,fun hA=>Nat.lt_irrefl _ (h.lt _ hA)⟩
  ·exact k.own p hp
 ·have:=(h.own q hq).2.2.1;simp only;omega
omit [γ:Gam] in
inductive Upd (N:Nat) (o o':AObj):OL->OL->Prop
 |zero {r:OL}:Upd N o o' ((N,o)::r) ((N,o')::r)
 |succ {x:Nat×AObj} {r r':OL} (h:Upd N o o' r r'):Upd N o o' (x::r) (x::r')
theorem Upd.mem{N:Nat}{o o':AObj}{L L':OL}(h:Upd N o o' L L'):(N,o)∈L:=by
 induction h with
 |zero=>exact List.mem_cons_self ..
 |succ _ ih=>exact List.mem_cons_of_mem _ ih
theorem Upd.keys{N:Nat}{o o':AObj}{L L':OL}(h:Upd N o o' L L'):L'.map (·.1)=L.map (·.1):=by
 induction h with
 |zero=>rfl
 |succ _ ih=>simp[ih]
theorem Upd.cases{N:Nat}{o o':AObj}{L L':OL}(h:Upd N o o' L L')(hd:L.Pairwise (fun p q=>p.1≠q.1)):∀p∈L',p=(N,o')\/(p∈L/\p.1≠N):=by
 induction h with
 |zero=>
  intro p hp;rw[List.pairwise_cons] at hd;rcases List.mem_cons.1 hp with rfl|hp
  ·exact .inl rfl
  ·exact .inr ⟨List.mem_cons_of_mem _ hp,fun e=>hd.1 p hp e.symm⟩
 | @succ x r r' h ih=>
   intro p hp;rw[List.pairwise_cons] at hd;rcases List.mem_cons.1 hp with rfl|hp
   ·exact .inr ⟨List.mem_cons_self ..,fun e=>hd.1 _ h.mem e⟩
   ·rcases ih hd.2 p hp with e|⟨e1,e2⟩
    ·exact .inl e
    ·exact .inr ⟨List.mem_cons_of_mem _ e1,e2⟩
theorem Upd.pairwise{N:Nat}{o o':AObj}{L L':OL}(h:Upd N o o' L L')(hd:L.Pairwise (fun p q=>p.1≠q.1)):L'.Pairwise (fun p q=>p.1≠q.1):=by
 have e:(L.map (·.1)).Pairwise (fun a b=>a≠b):=List.pairwise_map.2 hd;rw[<-h.keys] at e;exact List.pairwise_map.1 e
theorem HS.set{N:Nat}{o o':AObj}(h:HS S H0 A0 A L H)(hu:Upd N o o' L L'):HS S H0 A0 A L' {H with tr:=H.tr.set N (some o')}:=by
 obtain⟨q1,q2,q3,q4⟩:=h.own _ hu.mem;refine⟨h.kept.trans (Kept.set H _ q2),fun j hj=>?_,h.w0,h.sub,h.lt,fun p hp=>?_,hu.pairwise h.dist⟩
 ·simp only;rw[Tr.get_set_ne _ _ (fun(e:j=N)=>q4 (by rw[<-e];exact hj))];exact h.base j hj
 ·rcases hu.cases h.dist p hp with rfl|⟨e1,e2⟩
  ·exact⟨Tr.get_set_same ..,q2,q3,q4⟩
  ·obtain⟨r1,r2,r3,r4⟩:=h.own p e1;exact⟨by simp only;rw[Tr.get_set_ne _ _ e2];exact r1,r2,r3,r4⟩
omit [γ:Gam] in
inductive Rem (N:Nat) (o:AObj):OL->OL->Prop
 |zero {r:OL}:Rem N o ((N,o)::r) r
 |succ {x:Nat×AObj} {r r':OL} (h:Rem N o r r'):Rem N o (x::r) (x::r')
theorem Rem.mem{N:Nat}{o:AObj}{L L':OL}(h:Rem N o L L'):(N,o)∈L:=by
 induction h with
 |zero=>exact List.mem_cons_self ..
 |succ _ ih=>exact List.mem_cons_of_mem _ ih
theorem Rem.sub{N:Nat}{o:AObj}{L L':OL}(h:Rem N o L L'):L'.Sublist L:=by
 induction h with
 |zero=>exact List.sublist_cons_self ..
 |succ _ ih=>exact ih.cons_cons _
theorem Rem.ne{N:Nat}{o:AObj}{L L':OL}(h:Rem N o L L')(hd:L.Pairwise (fun p q=>p.1≠q.1)):∀p∈L',p.1≠N:=by
 induction h with
 |zero=>intro p hp e;rw[List.pairwise_cons] at hd;exact hd.1 p hp e.symm
 | @succ x r r' h ih=>
   intro p hp;rw[List.pairwise_cons] at hd;rcases List.mem_cons.1 hp with rfl|hp
   ·exact fun e=>hd.1 _ h.mem e
   ·exact ih hd.2 p hp
theorem HS.kill{N:Nat}{o:AObj}(h:HS S H0 A0 A L H)(hu:Rem N o L L'):HS S H0 A0 A L' {H with tr:=H.tr.set N none}:=by
 obtain⟨q1,q2,q3,q4⟩:=h.own _ hu.mem;refine⟨h.kept.trans (Kept.set H _ q2),fun j hj=>?_,h.w0,h.sub,h.lt,fun p hp=>?_,h.dist.sublist hu.sub⟩
 ·simp only;rw[Tr.get_set_ne _ _ (fun(e:j=N)=>q4 (by rw[<-e];exact hj))];exact h.base j hj
 ·obtain⟨r1,r2,r3,r4⟩:=h.own p (hu.sub.subset hp);exact⟨by simp only;rw[Tr.get_set_ne _ _ (hu.ne h.dist p hp)];exact r1,r2,r3,r4⟩
theorem HS.freeze{N:Nat}{o:AObj}(h:HS S H0 A0 A L H)(hu:Rem N o L L'):HS S H A0 (fun j=>A j\/j=N) L' H:=by
 obtain⟨q1,q2,q3,q4⟩:=h.own _ hu.mem;refine⟨h.kept,fun _ _=>rfl,rfl,fun j hj=>?_,fun j hj=>?_,fun p hp=>?_,h.dist.sublist hu.sub⟩
 ·rcases hj with hj|rfl
  ·exact h.sub j hj
  ·exact .inr q2
 ·rcases hj with hj|rfl
  ·exact h.lt j hj
  ·exact q3
 ·obtain⟨r1,r2,r3,r4⟩:=h.own p (hu.sub.subset hp);exact⟨r1,r2,r3,fun hj=>hj.elim r4 (hu.ne h.dist p hp)⟩
end
omit [γ:Gam] in
def opv(l:LV):Operand->Option Value
 |.tmp k=>look k l
 |.const (.bool b)=>some (.bool b)
 |.const (.int k n)=>some (.int k n)
 |.const (.string s)=>some (.string s)
 |.const (.pointer none)=>some (.pointer none)
 |.const (.slice none l c)=>some (.slice none l c)
 |.const (.map none)=>some (.map none)
 |.const v=>some (ext v)
 |.func g=>some (.func (.func g) ⟨[]⟩ ⟨[]⟩)
 |_=>none
theorem aI{n:Nat}{t:Tr Value}{l:LV}{x:Operand}{v:Value}(h:opv l x=some v):aN (fr n t l) x=v:=by
 unfold opv at h;split at h
 ·rw[xE,h]
 all_goals first|(cases h;rfl)|(cases h;simp only[aN,ext];done)|(cases h)
omit [γ:Gam] in
def opvs(l:LV):List Operand->Option VL
 |[]=>some []
 |x::r=>(match opv l x,opvs l r with
  |some v,some vs=>some (v::vs)
  |_,_=>none)
omit [γ:Gam] in
inductive Opvs (l:LV):List Operand->List Value->Prop
 |nil:Opvs l [] []
 |cons {x:Operand} {v:Value} {r:List Operand} {vs:VL} (h:opv l x=some v) (k:Opvs l r vs):Opvs l (x::r) (v::vs)
theorem Opvs.ok{n:Nat}{t:Tr Value}{l:LV}{xs:List Operand}{vs:VL}(h:Opvs l xs vs):xs.map (aN (fr n t l))=vs:=by
 induction h with
 |nil=>rfl
 |cons h k ih=>rw[List.map_cons,aI h,ih]
omit [γ:Gam] in
inductive Opps (l:LV):List (Nat×Operand)->List (Nat×Value)->Prop
 |nil:Opps l [] []
 |cons {i:Nat} {x:Operand} {v:Value} {r:List (Nat×Operand)} {vs:LV} (h:opv l x=some v) (k:Opps l r vs):Opps l ((i,x)::r) ((i,v)::vs)
theorem Opps.ok{n:Nat}{t:Tr Value}{l:LV}{xs:List (Nat×Operand)}{vs:LV}(h:Opps l xs vs):xs.map (fun x=>(x.1,aN (fr n t l) x.2))=vs:=by
 induction h with
 |nil=>rfl
 |cons h k ih=>rw[List.map_cons,aI h,ih]
omit [γ:Gam] in
def gok(ops:OA)(l:LV):OB->Bool
 |none=>true
 |some (j,want)=>(match ops[j]? with
  |some oj=>(match oj.dst with
   |some d=>(match look d l with
    |some (.bool b)=>b==want
    |_=>false)
   |none=>false)
  |none=>false)
omit [γ:Gam] in
def gsk(ops:OA)(l:LV):OB->Bool
 |none=>false
 |some (j,want)=>(match ops[j]? with
  |some oj=>(match oj.dst with
   |some d=>(match look d l with
    |some (.bool b)=>!(b==want)
    |some (.tuple _)=>true
    |_=>false)
   |none=>false)
  |none=>false)
theorem dA{ops:OA}{n:Nat}{t:Tr Value}{l:LV}{o:Oper}(h:gok ops l o.guard=true):aR ops (bV (fr n t l)) o=true:=by
 unfold aR;unfold gok at h;split at h
 ·rename_i hg;first|rfl|rw[hg]
 ·rename_i j want hg
  try rw[hg]
  split at h
  ·rename_i oj hj
   try simp only[hj]
   split at h
   ·rename_i d hd
    try simp only[hd]
    split at h
    ·rename_i b hl;rw[mL,hl];exact h
    ·cases h
   ·cases h
  ·cases h
theorem xN{ops:OA}{n:Nat}{t:Tr Value}{l:LV}{o:Oper}(h:gsk ops l o.guard=true):aR ops (bV (fr n t l)) o=false:=by
 unfold aR;unfold gsk at h;split at h
 ·cases h
 ·rename_i j want hg
  try rw[hg]
  split at h
  ·rename_i oj hj
   try simp only[hj]
   split at h
   ·rename_i d hd
    try simp only[hd]
    split at h
    ·rename_i b hl;rw[mL,hl];simpa using h
    ·rename_i b hl;rw[mL,hl]
    ·cases h
   ·cases h
  ·cases h
section
variable {P:PG}{c x y:Code}{K:AQ}{f:Fr}{S H0:AH}{A0 A:NQ}{L:OL}{n:Nat}{t:Tr Value}{l:LV}
def SX(P:PG)(c:Code)(K:AQ)(f:Fr)(S:AH)(A0:NQ)(H0:AH)(A:NQ)(L:OL):Prop:=∀H,HS S H0 A0 A L H->XC P c K f H
omit [γ:Gam] in
def SK(K:AQ)(e:Exit)(f:Fr)(S:AH)(A0:NQ)(H0:AH)(A:NQ)(L:OL):Prop:=∀H,HS S H0 A0 A L H->K e f H
theorem jX(h:SK K .normal f S A0 H0 A L):SX P .skip K f S A0 H0 A L:=fun H hH=>XC.skip (h H hH)
theorem aWy{i:Nat}(h:SK K .normal f S A0 H0 A L):SX P (.label i) K f S A0 H0 A L:=fun H hH=>XC.label (h H hH)
theorem cD(h:SK K .ret f S A0 H0 A L):SX P .ret K f S A0 H0 A L:=fun H hH=>XC.ret (h H hH)
theorem sE{i:Nat}(h:SK K (.exit i) f S A0 H0 A L):SX P (.exit i) K f S A0 H0 A L:=fun H hH=>XC.exit (h H hH)
theorem aJ(h:SX P x (vA P y K) f S A0 H0 A L):SX P (.seq x y) K f S A0 H0 A L:=fun H hH=>XC.seq (h H hH)
theorem eY{i:Nat}(h:SX P c (mB i K) f S A0 H0 A L):SX P (.block i c) K f S A0 H0 A L:=fun H hH=>XC.block (h H hH)
theorem fF{o:Operand}(hc:opv l o=some (.bool true))(h:SX P x K (fr n t l) S A0 H0 A L):SX P (.cond o x y) K (fr n t l) S A0 H0 A L:=fun H hH=>XC.cond (b:=true) (aI hc) (h H hH)
theorem cX{o:Operand}(hc:opv l o=some (.bool false))(h:SX P y K (fr n t l) S A0 H0 A L):SX P (.cond o x y) K (fr n t l) S A0 H0 A L:=fun H hH=>XC.cond (b:=false) (aI hc) (h H hH)
theorem cP(h:SX P y K f S A0 H0 A L):SK (vA P y K) .normal f S A0 H0 A L:=fun H hH=>.inl ⟨rfl,h H hH⟩
theorem gA(h:SK K .ret f S A0 H0 A L):SK (vA P y K) .ret f S A0 H0 A L:=fun H hH=>.inr ⟨by simp,h H hH⟩
theorem jC{j:Nat}(h:SK K (.exit j) f S A0 H0 A L):SK (vA P y K) (.exit j) f S A0 H0 A L:=fun H hH=>.inr ⟨by simp,h H hH⟩
theorem lC{i:Nat}(h:SK K .normal f S A0 H0 A L):SK (mB i K) .normal f S A0 H0 A L:=h
theorem eA{i:Nat}(h:SK K .ret f S A0 H0 A L):SK (mB i K) .ret f S A0 H0 A L:=h
theorem eX{i:Nat}(h:SK K .normal f S A0 H0 A L):SK (mB i K) (.exit i) f S A0 H0 A L:=fun H hH=>by simp only[mB,if_true];exact h H hH
theorem tN{i j:Nat}(hj:Nat.beq j i=false)(h:SK K (.exit j) f S A0 H0 A L):SK (mB i K) (.exit j) f S A0 H0 A L:=fun H hH=>by
 have:¬j=i:=fun e=>by rw[e] at hj;simp at hj
 simp only[mB,this,if_false];exact h H hH
omit [γ:Gam] in
inductive Picks (l:LV):LV->Prop
 |nil:Picks l []
 |cons {k:Nat} {v:Value} {r:LV} (h:look k l=some v) (p:Picks l r):Picks l ((k,v)::r)
theorem Picks.look{l l':LV}(h:Picks l l')(k:Nat):AM.look k l'=none\/AM.look k l'=AM.look k l:=by
 induction h with
 |nil=>exact .inl rfl
 | @cons d v r h p ih=>
   simp only[AM.look];cases e:Nat.beq d k with
   |true=>
    have:=QN e;subst this;right;rw[QT];exact h.symm
   |false=>rw[QF];exact ih
theorem Picks.frame{l l':LV}(h:Picks l l')(n:Nat)(t:Tr Value)(k:Nat):bV (fr n t l) k=bV (fr n (fr n t l).tr l') k:=by
 rw[mL n (fr n t l).tr l'];rcases h.look k with e|e
 ·rw[e];rfl
 ·rw[e,mL];cases e2:AM.look k l with
  |some v=>rfl
  |none=>
   have:=aLu n t k l;rw[e2] at this;exact this.symm
theorem XC.congr{f g:Fr}{H:AH}(hn:f.n=g.n)(hs:∀k,bV f k=bV g k)(h:XC P c K g H):XC P c K f H:=by
 obtain⟨e,g',K',h1,h2,h3⟩:=h;exact⟨e,g',K',h1,h2,ACode.congr hn hs h3⟩
omit [γ:Gam] in
def LI{σ:Type}(n:Nat)(live:σ->List (Nat×Value))(S:AH)(A0:NQ)(h0:σ->AH)(AA:σ->Nat->Prop)(LL:σ->OL)(J:σ->Prop)(s:σ)(f:Fr)(H:AH):Prop:=
 J s/\∃t,f.n=n/\(∀k,bV f k=bV (fr n t (live s)) k)/\HS S (h0 s) A0 (AA s) (LL s) H
omit [γ:Gam] in
def aFl{σ:Type}(μ:σ->Nat)(I:σ->Fr->AH->Prop)(s:σ)(Q:AQ):AQ:=fun e f' H'=>(e=.normal/\∃s',μ s'<μ s/\I s' f' H')\/(e≠.normal/\Q e f' H')
theorem pJ{τ:Type}(μ:τ->Nat)(live:τ->List (Nat×Value))(h0:τ->AH)(AA:τ->Nat->Prop)(LL:τ->OL)(J:τ->Prop)
 (s:τ)(hJ:J s)(hp:Picks l (live s))(hh:h0 s=H0)(hA:AA s=A)(hL:(LL s).Sublist L)
 (round:∀s,J s->∀t,SX P c (aFl μ (LI n live S A0 h0 AA LL J) s K) (fr n t (live s)) S A0 (h0 s) (AA s) (LL s)):SX P (.loop c) K (fr n t l) S A0 H0 A L:=by
 subst hh;subst hA;intro H hH;refine XC.loop μ (LI n live S A0 h0 AA LL J) ?_ s ⟨hJ,(fr n t l).tr,aDi ..,hp.frame n t,hH.subl hL⟩;rintro s f H ⟨hJ,t,hn,hf,hH⟩;exact XC.congr (by rw[hn,aDi]) hf (round s hJ t H hH)
theorem jK{σ:Type}{μ:σ->Nat}{live:σ->List (Nat×Value)}{h0:σ->AH}{AA:σ->Nat->Prop}{LL:σ->OL}{J:σ->Prop}{s:σ}(s':σ)(qj:μ s'<μ s)(hJ:J s')(hp:Picks l (live s'))(hh:h0 s'=H0)(hA:AA s'=A)(hL:(LL s').Sublist L):
 SK (aFl μ (LI n live S A0 h0 AA LL J) s K) .normal (fr n t l) S A0 H0 A L:=by
 subst hh;subst hA;intro H hH;exact .inl ⟨rfl,s',qj,hJ,(fr n t l).tr,aDi ..,hp.frame n t,hH.subl hL⟩
theorem aEb{σ:Type}{μ:σ->Nat}{I:σ->Fr->AH->Prop}{s:σ}(h:SK K .ret f S A0 H0 A L):SK (aFl μ I s K) .ret f S A0 H0 A L:=fun H hH=>.inr ⟨by simp,h H hH⟩
theorem jE{σ:Type}{μ:σ->Nat}{I:σ->Fr->AH->Prop}{s:σ}{j:Nat}(h:SK K (.exit j) f S A0 H0 A L):SK (aFl μ I s K) (.exit j) f S A0 H0 A L:=fun H hH=>.inr ⟨by simp,h H hH⟩
end
omit [γ:Gam] in
structure RG where
 D:Bool
 ops:Array Oper
 ms:List Nat
 S:AH
 A0:Nat->Prop
 Hw:AH
 Aw:Nat->Prop
 Lw:OL
omit [γ:Gam] in
def DSub(G:RG)(H0:AH)(A:NQ)(L:OL):Prop:=
 G.D=true->(∀p∈G.Lw,p∈L)/\G.Lw.Pairwise (fun p q=>p.1≠q.1)/\(∀j,G.Aw j->A j/\H0.tr.get j=G.Hw.tr.get j)/\G.Hw.w0=H0.w0
theorem HS.weak{G:RG}{H0 H:AH}{A:NQ}{L:OL}(h:HS G.S H0 G.A0 A L H)(hd:DSub G H0 A L)(hD:G.D=true):HS G.S G.Hw G.A0 G.Aw G.Lw H:=by
 obtain⟨d1,d2,d3,d4⟩:=hd hD
 exact⟨h.kept,fun j hj=>(h.base j (d3 j hj).1).trans (d3 j hj).2,d4.trans h.w0,fun j hj=>h.sub j (d3 j hj).1,fun j hj=>h.lt j (d3 j hj).1,
  fun p hp=>by obtain⟨h1,h2,h3,h4⟩:=h.own p (d1 p hp);exact⟨h1,h2,h3,fun hj=>h4 (d3 _ hj).1⟩,d2⟩
section
variable {P:PG}(E:Env P)
def SO(G:RG)(i:Nat)(l:OL2)(Q:FQ)(f:Fr)(H0:AH)(A:NQ)(L:OL):Prop:=
 DSub G H0 A L->∀H,HS G.S H0 G.A0 A L H->∃Ls g K,RunD E G.D G.ops G.ms (HS G.S G.Hw G.A0 G.Aw G.Lw) i l f H Ls g K/\Q g K
variable {E}{G:RG}{i n:Nat}{r:OL2}{o:Oper}{Q:FQ}{t:Tr Value}{l:LV}{S H0:AH}{A0 A:NQ}{L L':OL}{v:Value}{d:Nat}{K:AQ}
theorem aB{ops:OA}{id:Nat}{f:Fr}(h:SO E ⟨false,ops,[],S,A0,H0,A,L⟩ 0 ops.toList (fun f H=>K .normal f H) f H0 A L):SX P (.region id ops false) K f S A0 H0 A L:=by
 intro H hH;obtain⟨Ls,g,K',hr,hq⟩:=h (fun hD=>by cases hD) H hH;exact⟨.normal,g,K',hq,hr.region id⟩
theorem bAq{ops:OA}{id:Nat}{f:Fr}(hm:P.follows .mixedOrders=true)(ms:NL)(Lw:OL)(pu:Lw.Sublist L)(zg:bY ops (bef ops)=true)(zh:dB (bef ops) ms=true)(zd:ms.Pairwise (·<·))
 (h:SO E ⟨true,ops,ms,S,A0,H0,A,Lw⟩ 0 ops.toList (fun f H=>K .normal f H) f H0 A L):SX P (.region id ops true) K f S A0 H0 A L:=by
 intro H hH;have hW:HS S H0 A0 A Lw H:=hH.subl pu;obtain⟨Ls,g,K',hr,hq⟩:=h (fun _=>⟨fun p hp=>pu.subset hp,hW.dist,fun j hj=>⟨hj,rfl⟩,rfl⟩) H hH;exact⟨.normal,g,K',hq,hr.draw hm zg zh zd hW id⟩
theorem gW{D:Bool}{ops:OA}{ms:NL}{Hw:AH}{Aw:NQ}{Lw:OL}{f:Fr}(h:SK K .normal f S A0 H0 A L):SO E ⟨D,ops,ms,S,A0,Hw,Aw,Lw⟩ i [] (fun f H=>K .normal f H) f H0 A L:=fun _ H hH=>⟨[],f,H,.nil,h H hH⟩
theorem aH{D:Bool}{ops:OA}{ms:NL}{Hw:AH}{Aw:NQ}{Lw:OL}{f:Fr}{y:Code}(h:SX P y K f S A0 H0 A L):SO E ⟨D,ops,ms,S,A0,Hw,Aw,Lw⟩ i [] (fun f H=>vA P y K .normal f H) f H0 A L:=gW (K:=vA P y K) (cP h)
theorem cE(hw:gsk G.ops l o.guard=true)(hd:o.dst=some d)(qd:Nat.ble (d+1) n=true)(h:SO E G (i+1) r Q (fr n t ((d,undef)::l)) H0 A L):SO E G i (o::r) Q (fr n t l) H0 A L:=by
 intro hD H hH;obtain⟨Ls,g,K,hr,hq⟩:=h hD H hH;exact⟨_,g,K,.cons (.inl ⟨xN hw,rfl,rfl,rfl⟩) (by rw[hd];exact nV (QL qd) t l undef) hr,hq⟩
theorem aRb(hw:gsk G.ops l o.guard=true)(hd:o.dst=none)(h:SO E G (i+1) r Q (fr n t l) H0 A L):SO E G i (o::r) Q (fr n t l) H0 A L:=by
 intro hD H hH;obtain⟨Ls,g,K,hr,hq⟩:=h hD H hH;exact⟨_,g,K,.cons (.inl ⟨xN hw,rfl,rfl,rfl⟩) (by rw[hd];rfl) hr,hq⟩
theorem aGz{op:Op}(h:eO E op=true):bX E op=true:=by
 cases op<;>first|rfl|exact h|(simp only[eO] at h;cases h;done)|skip
 case convert s d x=>
  simp only[eO] at h;simp only[bX];split at h
  ·rename_i k hk;rw[hk]
  ·cases h
 rename_i c;simp only[eO] at h;simp only[bX];split at h
 ·rename_i hc;rw[hc]
 ·rename_i hc;rw[hc]
 ·rename_i hc;rw[hc]
 ·cases h
theorem bJ(hw:gok G.ops l o.guard=true)(hd:o.dst=some d)(qd:Nat.ble (d+1) n=true)(hp:eO E o.op=true)(qi:∀H,aop E (aN (fr n t l)) o.op H=some (v,H))(h:SO E G (i+1) r Q (fr n t ((d,v)::l)) H0 A L):SO E G i (o::r) Q (fr n t l) H0 A L:=by
 intro hD H hH;obtain⟨Ls,g,K,hr,hq⟩:=h hD H hH;exact⟨_,g,K,.cons (.inr (.inl ⟨dA hw,rfl,rfl,⟨aGz hp,qi H⟩,fun _=>.inl hp⟩)) (by rw[hd];exact nV (QL qd) t l v) hr,hq⟩
omit [γ:Gam] in
def qH(G:RG)(H0:AH):AH:=bif G.D then G.Hw else H0
omit [γ:Gam] in
def qA(G:RG)(A:NQ):NQ:=bif G.D then G.Aw else A
omit [γ:Gam] in
def qL(G:RG)(L:OL):OL:=bif G.D then G.Lw else L
theorem HS.q(hD:DSub G H0 A L){H:AH}(hH:HS G.S H0 G.A0 A L H):HS G.S (qH G H0) G.A0 (qA G A) (qL G L) H:=by
 unfold qH qA qL;cases e:G.D with
 |false=>exact hH
 |true=>exact hH.weak hD e
theorem jO(tp:bX E o.op=true)(hw:gok G.ops l o.guard=true)(hd:o.dst=some d)(qd:Nat.ble (d+1) n=true)(qi:∀H,HS G.S (qH G H0) G.A0 (qA G A) (qL G L) H->aop E (aN (fr n t l)) o.op H=some (v,H))(h:SO E G (i+1) r Q (fr n t ((d,v)::l)) H0 A L):SO E G i (o::r) Q (fr n t l) H0 A L:=by
 intro hD H hH;obtain⟨Ls,g,K,hr,hq⟩:=h hD H hH;refine⟨_,g,K,.cons (.inr (.inl ⟨dA hw,rfl,rfl,⟨tp,qi H (hH.q hD)⟩,fun za=>.inr (.inr fun H' ju=>qi H' ?_)⟩)) (by rw[hd];exact nV (QL qd) t l v) hr,hq⟩;unfold qH qA qL;rw[za];exact ju
theorem yO(tp:bX E o.op=true)(hw:gok G.ops l o.guard=true)(hd:o.dst=some d)(qd:Nat.ble (d+1) n=true)(ho:fK (bef G.ops) G.ms i=true)(qi:∀H,HS G.S H0 G.A0 A L H->aop E (aN (fr n t l)) o.op H=some (v,H))(h:SO E G (i+1) r Q (fr n t ((d,v)::l)) H0 A L):SO E G i (o::r) Q (fr n t l) H0 A L:=by
 intro hD H hH;obtain⟨Ls,g,K,hr,hq⟩:=h hD H hH;exact⟨_,g,K,.cons (.inr (.inl ⟨dA hw,rfl,rfl,⟨tp,qi H hH⟩,fun za=>.inr (.inl ho)⟩)) (by rw[hd];exact nV (QL qd) t l v) hr,hq⟩
theorem dS(hw:gok G.ops l o.guard=true)(hd:o.dst=some d)(qd:Nat.ble (d+1) n=true)(hm:G.D=true->i∈G.ms)
 (h:DSub G H0 A L->∀H,HS G.S H0 G.A0 A L H->∃v H' H1 A1 L1,(aop E (aN (fr n t l)) o.op H=some (v,H')\/(H'.w0=H.w0/\∃g args,bN E (aN (fr n t l)) o.op=some (g,args)/\ACalls P g args H fun u K=>u=v/\K=H'))/\
  HS G.S H1 G.A0 A1 L1 H'/\DSub G H1 A1 L1/\SO E G (i+1) r Q (fr n t ((d,v)::l)) H1 A1 L1):SO E G i (o::r) Q (fr n t l) H0 A L:=by
 intro hD H hH;obtain⟨v,H',H1,A1,L1,qi,hS,zr,hk⟩:=h hD H hH;obtain⟨Ls,g,K,hr,hq⟩:=hk zr H' hS;have hp:(fr n t l).put o.dst v=some (fr n t ((d,v)::l)):=by rw[hd];exact nV (QL qd) t l v
 rcases qi with qi|⟨zo,gg,args,hc,ha⟩
 ·exact⟨_,g,K,.cons (.inr (.inr (.inl ⟨dA hw,rfl,fun za=>⟨hm za,hS.weak zr za⟩,qi⟩))) hp hr,hq⟩
 ·exact⟨_,g,K,.cons (.inr (.inr (.inr ⟨dA hw,rfl,fun za=>⟨hm za,hS.weak zr za⟩,zo,.inl ⟨gg,args,hc,ha⟩⟩))) hp hr,hq⟩
theorem aKo(hw:gok G.ops l o.guard=true)(hd:o.dst=none)(hm:G.D=true->i∈G.ms)
 (h:DSub G H0 A L->∀H,HS G.S H0 G.A0 A L H->∃v H' H1 A1 L1,(aop E (aN (fr n t l)) o.op H=some (v,H')\/(H'.w0=H.w0/\∃g args,bN E (aN (fr n t l)) o.op=some (g,args)/\ACalls P g args H fun u K=>u=v/\K=H'))/\
  HS G.S H1 G.A0 A1 L1 H'/\DSub G H1 A1 L1/\SO E G (i+1) r Q (fr n t l) H1 A1 L1):SO E G i (o::r) Q (fr n t l) H0 A L:=by
 intro hD H hH;obtain⟨v,H',H1,A1,L1,qi,hS,zr,hk⟩:=h hD H hH;obtain⟨Ls,g,K,hr,hq⟩:=hk zr H' hS;have hp:(fr n t l).put o.dst v=some (fr n t l):=by rw[hd];rfl
 rcases qi with qi|⟨zo,gg,args,hc,ha⟩
 ·exact⟨_,g,K,.cons (.inr (.inr (.inl ⟨dA hw,rfl,fun za=>⟨hm za,hS.weak zr za⟩,qi⟩))) hp hr,hq⟩
 ·exact⟨_,g,K,.cons (.inr (.inr (.inr ⟨dA hw,rfl,fun za=>⟨hm za,hS.weak zr za⟩,zo,.inl ⟨gg,args,hc,ha⟩⟩))) hp hr,hq⟩
theorem DSub.push(h:DSub G H0 A L)(x:Nat×AObj):DSub G H0 A (x::L):=fun hD=>by
 obtain⟨h1,h2,h3,h4⟩:=h hD;exact⟨fun p hp=>List.mem_cons_of_mem _ (h1 p hp),h2,h3,h4⟩
theorem DSub.fresh{H H':AH}{A':NQ}(h:DSub G H0 A L)(g:Gr A H0 A' H'):DSub G H' A' L:=fun hD=>by
 obtain⟨h1,h2,h3,h4⟩:=h hD;exact⟨h1,h2,fun j hj=>⟨g.sub j (h3 j hj).1,(g.get j (h3 j hj).1).trans (h3 j hj).2⟩,h4.trans g.w0.symm⟩
theorem DSub.list{L1:OL}(h:DSub G H0 A L)(hs:G.D=true->G.Lw.Sublist L1):DSub G H0 A L1:=fun hD=>by
 obtain⟨h1,h2,h3,h4⟩:=h hD;exact⟨fun p hp=>(hs hD).subset hp,h2,h3,h4⟩
end
end Go.AM
namespace Go.AM
open Go.RowKit
variable [σ:Sg]
inductive Kd where
 |int (k:IntKind)
 |bool
 |str
 |row (b:Nat) (ks:List Kd)
inductive CT where
 |v (u:Value)
 |row (l:List (List CT))
def InA(A:NQ)(b:Nat):Prop:=b%2=0\/A (b / 2)
abbrev LX:=List (List CT)
abbrev CL:=List CT
abbrev KL:=List Kd
theorem InA.own{A:NQ}{N:Nat}(h:A N):InA A (2*N+1):=.inr (by rw[eJ];exact h)
def SzA(H:AH)(a:Addr)(n:Nat):Prop:=a.block%2=1->(∃cs ex,H.tr.get (a.block / 2)=some (.cells cs n ex))\/(H.tr.get (a.block / 2)=none/\∃cs,H.w0.rd (a.block / 2)=some (cs,n))
mutual
def CellA(A:NQ)(H:AH):Kd->Value->CT->Prop
 |.int k,x,.v u=>x=u/\∃n,u=.int k n/\(Lit.int k n).wf=true
 |.bool,x,.v u=>x=u/\∃b,u=.bool b
 |.str,x,.v u=>x=u/\∃s,u=.string s/\s.size<=maxLen
 |.row b ks,x,.row l=>l.length<=140737488351232/\l.length*b<=140737488351232/\(((x=.slice none 0 0\/x=.slice none 0 1)/\l=[])\/∃a cap,x=.slice (some a) l.length cap/\l.length<=cap/\(InA A a.block/\SzA H a ks.length)/\
  ∀(i:Nat) c,l[i]?=some c->∃xs,aloads H (a.add (i*ks.length)) ks.length=some xs/\CellsA A H ks xs c)
 |_,_,_=>False
def CellsA(A:NQ)(H:AH):KL->List Value->List CT->Prop
 |[],[],[]=>True
 |k::ks,x::xs,c::cs=>CellA A H k x c/\CellsA A H ks xs cs
 |_,_,_=>False
end
theorem fW{H:AH}{p:Addr}{n:Nat}{xs:VL}(h:aloads H p n=some xs):xs.length=n:=by
 unfold aloads at h;by_cases hn:n=0
 ·subst hn;simp at h;rw[h];rfl
 ·rw[show Nat.beq n 0=false by(cases n with|zero=>exact absurd rfl hn|succ n=>rfl),QF] at h;cases hb:Nat.beq (p.block%2) 0 with
  |true=>
   rw[hb,QT] at h;have key:∀(n i:Nat) (w:World) (a:Addr) (l:VL),bG w a i n=some l->l.length=n:=by
    intro n
    induction n with
    |zero=>intro i w a l h;simp[bG] at h;subst h;rfl
    |succ n ih=>
     intro i w a l h;simp only[bG] at h;split at h
     ·split at h
      ·rename_i r hr;cases h;simp[ih _ _ _ _ hr]
      ·cases h
     ·cases h
   exact key _ _ _ _ _ h
  |false=>
   rw[hb,QF] at h;split at h
   ·rename_i cs _ _ _;cases qf:Nat.ble (p.off+n) cs.length with
    |true=>
     rw[qf,QT] at h;cases h;have:=QL qf;simp;omega
    |false=>rw[qf] at h;cases h
   ·split at h
    ·rename_i c _;cases qf:Nat.ble (p.off+n) c.1.length with
     |true=>
      rw[qf,QT] at h;cases h;have:=QL qf;simp;omega
     |false=>rw[qf] at h;cases h
    ·cases h
   ·cases h
theorem xA(p:Addr)(j:Nat):(⟨(p.add j).block / 2,(p.add j).off,(p.add j).spot⟩:Addr)=(⟨p.block / 2,p.off,p.spot⟩:Addr).add j:=by
 unfold Addr.add;by_cases h:j=0
 ·rw[if_pos h,if_pos h]
 ·rw[if_neg h,if_neg h]
theorem uS{w:World}{a:Addr}:∀(n i:Nat) (l:VL),bG w a i n=some l->∀j,j<n->∃v,w.cell? (a.add (i+j))=some v/\l[j]?=some (ext v):=by
 intro n
 induction n with
 |zero=>intro i l _ j hj;omega
 |succ n ih=>
  intro i l h j hj;simp only[bG] at h;split at h
  ·rename_i v hv;split at h
   ·rename_i r hr;cases h;cases j with
    |zero=>exact⟨v,hv,rfl⟩
    |succ j=>
     obtain⟨u,h1,h2⟩:=ih _ _ hr j (by omega);exact⟨u,by rw[<-h1];congr 2;omega,by simpa using h2⟩
   ·cases h
  ·cases h
theorem aBm{w:World}{a:Addr}:∀(n i:Nat) (l:VL),bG w a i n=some l->∀j m,j+m<=n->bG w a (i+j) m=some ((l.drop j).take m):=by
 intro n i l h j m
 induction m generalizing j with
 |zero=>intro _;simp[bG]
 |succ m ih=>
  intro hj;obtain⟨v,h1,h2⟩:=uS n i l h j (by omega);have h3:=ih (j+1) (by omega);simp only[bG,h1];rw[show i+j+1=i+(j+1) by omega,h3];have ma:=lt_of_getElem? h2;rw[List.drop_eq_getElem_cons ma,List.take_succ_cons];rw[List.getElem?_eq_getElem ma] at h2;rw[<-Option.some.inj h2]
theorem nD{w:World}{a:Addr}(k:Nat):∀(m i:Nat),bG w (a.add k) i m=bG w a (k+i) m:=by
 intro m
 induction m with
 |zero=>intro i;rfl
 |succ m ih=>
  intro i;simp only[bG,rQ,ih];rfl
theorem aAx{H:AH}{p:Addr}{n:Nat}{xs:VL}(h:aloads H p n=some xs){j:Nat}(hj:j<n):aload H (p.add j)=xs[j]?:=by
 unfold aloads at h;rw[show Nat.beq n 0=false by(cases n with|zero=>omega|succ n=>rfl),QF] at h;unfold aload;rw[bR];cases hb:Nat.beq (p.block%2) 0 with
 |true=>
  rw[hb,QT] at h;obtain⟨v,h1,h2⟩:=uS _ _ _ h j hj;rw[QT];have e:=xA p j;rw[bR] at e;rw[e];rw[Nat.zero_add] at h1;rw[h1,h2]
 |false=>
  rw[hb,QF] at h;rw[QF];split at h
  ·rename_i cs sz ex hg;cases qf:Nat.ble (p.off+n) cs.length with
   |true=>
    rw[qf,QT] at h;cases h;rw[iY,List.getElem?_take,if_pos hj,List.getElem?_drop]
   |false=>rw[qf] at h;cases h
  ·split at h
   ·rename_i c hc;cases qf:Nat.ble (p.off+n) c.1.length with
    |true=>
     rw[qf,QT] at h;cases h;rw[iY,List.getElem?_take,if_pos hj,List.getElem?_drop]
    |false=>rw[qf] at h;cases h
   ·cases h
  ·cases h
theorem aIm{H:AH}{p:Addr}{n:Nat}{xs:VL}(h:aloads H p n=some xs){j m:Nat}(hj:j+m<=n):aloads H (p.add j) m=some ((xs.drop j).take m):=by
 by_cases hm:m=0
 ·subst hm;unfold aloads;simp
 ·unfold aloads at h ⊢;rw[show Nat.beq n 0=false by(cases n with|zero=>omega|succ n=>rfl),QF] at h;rw[show Nat.beq m 0=false by(cases m with|zero=>exact absurd rfl hm|succ n=>rfl),QF,bR];cases hb:Nat.beq (p.block%2) 0 with
  |true=>
   rw[hb,QT] at h;rw[QT];have e:=xA p j;rw[bR] at e;rw[e,nD];have:=aBm _ _ _ h j m hj;rw[Nat.zero_add] at this;rw[Nat.add_zero];exact this
  |false=>
   rw[hb,QF] at h;rw[QF];split at h
   ·rename_i cs sz ex hg;cases qf:Nat.ble (p.off+n) cs.length with
    |true=>
     rw[qf,QT] at h;cases h;have:=QL qf;rw[iY,Nat.ble_eq_true_of_le (by omega),QT,List.drop_take,List.take_take,List.drop_drop,Nat.min_eq_left (by omega)]
    |false=>rw[qf] at h;cases h
   ·split at h
    ·rename_i c hc;cases qf:Nat.ble (p.off+n) c.1.length with
     |true=>
      rw[qf,QT] at h;cases h;have:=QL qf;rw[iY,Nat.ble_eq_true_of_le (by omega),QT,List.drop_take,List.take_take,List.drop_drop,Nat.min_eq_left (by omega)]
     |false=>rw[qf] at h;cases h
    ·cases h
   ·cases h
theorem aGn{H:AH}{p:Addr}{xs:VL}(h:aloads H p 1=some xs):∃x,xs=[x]/\aload H p=some x:=by
 have hl:=fW h
 match xs,hl with
 |[x],_=>
  refine⟨x,rfl,?_⟩;have:=aAx h (j:=0) (by omega);rw[show p.add 0=p from by unfold Addr.add;simp] at this;simpa using this
section
variable {A A':NQ}{H H':AH}
theorem Gr.aload(g:Gr A H A' H'){p:Addr}(hp:InA A p.block):AM.aload H' p=AM.aload H p:=by
 unfold AM.aload;rw[g.w0];cases hb:Nat.beq (p.block%2) 0 with
 |true=>rfl
 |false=>
  simp only[QF];rw[g.get];rcases hp with hp|hp
  ·rw[hp] at hb;cases hb
  ·exact hp
theorem Gr.aloads(g:Gr A H A' H'){p:Addr}(hp:InA A p.block)(n:Nat):AM.aloads H' p n=AM.aloads H p n:=by
 unfold AM.aloads;rw[g.w0];cases hb:Nat.beq (p.block%2) 0 with
 |true=>rfl
 |false=>
  simp only[QF];rw[g.get];rcases hp with hp|hp
  ·rw[hp] at hb;cases hb
  ·exact hp
theorem Gr.szA(g:Gr A H A' H'){a:Addr}{n:Nat}(hp:InA A a.block)(h:SzA H a n):SzA H' a n:=fun ho=>by
 have e:H'.tr.get (a.block / 2)=H.tr.get (a.block / 2):=g.get _ (by
  rcases hp with hp|hp
  ·omega
  ·exact hp)
 rw[e,g.w0];exact h ho
theorem Gr.inA(g:Gr A H A' H'){b:Nat}(h:InA A b):InA A' b:=h.imp id (g.sub _)
mutual
theorem CellA.gr(g:Gr A H A' H'):∀(k:Kd) (x:Value) (c:CT),CellA A H k x c->CellA A' H' k x c
 |.int k,x,.v u,h=>by simp only[CellA] at h ⊢;exact h
 |.bool,x,.v u,h=>by simp only[CellA] at h ⊢;exact h
 |.str,x,.v u,h=>by simp only[CellA] at h ⊢;exact h
 |.row b ks,x,.row l,h=>by
  simp only[CellA] at h ⊢;obtain⟨h1,h2,h3⟩:=h;refine⟨h1,h2,h3.imp id ?_⟩;rintro⟨a,cap,rfl,q1,q2,q3⟩;refine⟨a,cap,rfl,q1,⟨g.inA q2.1,g.szA q2.1 q2.2⟩,fun i c hc=>?_⟩;obtain⟨xs,r1,r2⟩:=q3 i c hc;exact⟨xs,by rw[g.aloads (by rw[bR];exact q2.1)];exact r1,CellsA.gr g ks xs c r2⟩
 |.int k,x,.row l,h=>by simp only[CellA] at h
 |.bool,x,.row l,h=>by simp only[CellA] at h
 |.str,x,.row l,h=>by simp only[CellA] at h
 |.row b ks,x,.v u,h=>by simp only[CellA] at h
theorem CellsA.gr(g:Gr A H A' H'):∀(ks:KL) (xs:VL) (cs:CL),CellsA A H ks xs cs->CellsA A' H' ks xs cs
 |[],[],[],_=>by simp only[CellsA]
 |k::ks,x::xs,c::cs,h=>by
  simp only[CellsA] at h ⊢;exact⟨CellA.gr g k x c h.1,CellsA.gr g ks xs cs h.2⟩
 |[],[],_::_,h=>by simp only[CellsA] at h
 |[],_::_,_,h=>by simp only[CellsA] at h
 |_::_,[],_,h=>by simp only[CellsA] at h
 |_::_,_::_,[],h=>by simp only[CellsA] at h
end
theorem CellsA.len:∀{ks:KL} {xs:VL} {cs:CL},CellsA A H ks xs cs->xs.length=ks.length/\cs.length=ks.length
 |[],[],[],_=>⟨rfl,rfl⟩
 |k::ks,x::xs,c::cs,h=>by
  simp only[CellsA] at h;have:=CellsA.len h.2;simp[this.1,this.2]
 |[],[],_::_,h=>by simp only[CellsA] at h
 |[],_::_,_,h=>by simp only[CellsA] at h
 |_::_,[],_,h=>by simp only[CellsA] at h
 |_::_,_::_,[],h=>by simp only[CellsA] at h
theorem CellsA.at:∀{ks:KL} {xs:VL} {cs:CL},CellsA A H ks xs cs->∀{i:Nat} {k:Kd} {x:Value} {c:CT},ks[i]?=some k->xs[i]?=some x->cs[i]?=some c->CellA A H k x c
 |[],[],[],_,i,k,x,c,h,_,_=>by simp at h
 |k::ks,x::xs,c::cs,h,i,k',x',c',h1,h2,h3=>by
  simp only[CellsA] at h;cases i with
  |zero=>simp at h1 h2 h3;subst h1;subst h2;subst h3;exact h.1
  |succ i=>simp at h1 h2 h3;exact CellsA.at h.2 h1 h2 h3
 |[],[],_::_,h,_,_,_,_,_,_,_=>by simp only[CellsA] at h
 |[],_::_,_,h,_,_,_,_,_,_,_=>by simp only[CellsA] at h
 |_::_,[],_,h,_,_,_,_,_,_,_=>by simp only[CellsA] at h
 |_::_,_::_,[],h,_,_,_,_,_,_,_=>by simp only[CellsA] at h
theorem CellsA.mk:∀{ks:KL} {xs:VL} {cs:CL},xs.length=ks.length->cs.length=ks.length->(∀(i:Nat) k x c,ks[i]?=some k->xs[i]?=some x->cs[i]?=some c->CellA A H k x c)->CellsA A H ks xs cs
 |[],[],[],_,_,_=>by simp only[CellsA]
 |k::ks,x::xs,c::cs,h1,h2,h=>by
  simp only[CellsA];exact⟨h 0 k x c rfl rfl rfl,CellsA.mk (by simpa using h1) (by simpa using h2) (fun i k x c a b d=>h (i+1) k x c (by simpa using a) (by simpa using b) (by simpa using d))⟩
 |[],[],_::_,_,h,_=>by simp at h
 |[],_::_,_,h,_,_=>by simp at h
 |_::_,[],_,h,_,_=>by simp at h
 |_::_,_::_,[],_,h,_=>by simp at h
theorem CellsA.part{ks:KL}{xs:VL}{cs:CL}(h:CellsA A H ks xs cs)(j m:Nat):CellsA A H ((ks.drop j).take m) ((xs.drop j).take m) ((cs.drop j).take m):=by
 obtain⟨h1,h2⟩:=h.len;refine CellsA.mk (by simp[h1]) (by simp[h2]) fun i k x c a b d=>?_;rw[List.getElem?_take] at a b d;split at a
 ·rename_i hi;rw[if_pos hi,List.getElem?_drop] at b d;rw[List.getElem?_drop] at a;exact h.at a b d
 ·cases a
theorem CellsA.append{ks ks':KL}{xs xs':VL}{cs cs':CL}(h:CellsA A H ks xs cs)(h':CellsA A H ks' xs' cs'):CellsA A H (ks++ks') (xs++xs') (cs++cs'):=by
 obtain⟨h1,h2⟩:=h.len;obtain⟨h3,h4⟩:=h'.len;refine CellsA.mk (by simp[h1,h3]) (by simp[h2,h4]) fun i k x c a b d=>?_;by_cases hi:i<ks.length
 ·rw[List.getElem?_append_left hi] at a;rw[List.getElem?_append_left (by omega)] at b d;exact h.at a b d
 ·rw[List.getElem?_append_right (by omega)] at a;rw[List.getElem?_append_right (by omega),h1] at b;rw[List.getElem?_append_right (by omega),h2] at d;exact h'.at a b d
theorem CellA.row{b:Nat}{ks:KL}{x:Value}{c:CT}(h:CellA A H (.row b ks) x c):∃l,c=.row l/\l.length<=140737488351232/\l.length*b<=140737488351232/\(((x=.slice none 0 0\/x=.slice none 0 1)/\l=[])\/∃a cap,x=.slice (some a) l.length cap/\l.length<=cap/\(InA A a.block/\SzA H a ks.length)/\
 ∀(i:Nat) c,l[i]?=some c->∃xs,aloads H (a.add (i*ks.length)) ks.length=some xs/\CellsA A H ks xs c):=by
 cases c with
 |v u=>simp only[CellA] at h
 |row l=>simp only[CellA] at h;exact⟨l,rfl,h⟩
theorem CellA.int{k:IntKind}{x:Value}{c:CT}(h:CellA A H (.int k) x c):∃n,x=.int k n/\c=.v (.int k n)/\(Lit.int k n).wf=true:=by
 cases c with
 |v u=>simp only[CellA] at h;obtain⟨rfl,n,rfl,hn⟩:=h;exact⟨n,rfl,rfl,hn⟩
 |row l=>simp only[CellA] at h
theorem CellA.bool{x:Value}{c:CT}(h:CellA A H .bool x c):∃b,x=.bool b/\c=.v (.bool b):=by
 cases c with
 |v u=>simp only[CellA] at h;obtain⟨rfl,n,rfl⟩:=h;exact⟨n,rfl,rfl⟩
 |row l=>simp only[CellA] at h
theorem CellA.str{x:Value}{c:CT}(h:CellA A H .str x c):∃s,x=.string s/\c=.v (.string s)/\s.size<=maxLen:=by
 cases c with
 |v u=>simp only[CellA] at h;obtain⟨rfl,n,rfl,hn⟩:=h;exact⟨n,rfl,rfl,hn⟩
 |row l=>simp only[CellA] at h
end
section
variable {A:NQ}{H:AH}
end
def cellsOf(n:Nat)(x:Nat->Value):VL:=(List.range n).map x
end Go.AM
namespace Go.AM
open Go.RowKit
variable [σ:Sg]
theorem aP{n i:Nat}{x:Nat->Value}(h:Nat.blt i n=true):(cellsOf n x)[i]?=some (x i):=by
 have:i<n:=QL h;simp[cellsOf,this]
theorem aO(n:Nat)(x:Nat->Value):(cellsOf n x).length=n:=by simp[cellsOf]
theorem fQ{m n:Nat}{x:Nat->Value}(h:Nat.ble m n=true):m<=(cellsOf n x).length:=by rw[aO];exact QL h
def aSt(x:Nat->Value)(off:Nat)(v:Value):Nat->Value:=fun i=>bif Nat.beq i off then v else x i
theorem kB{n off:Nat}{x:Nat->Value}{v:Value}(h:Nat.blt off n=true):(cellsOf n x).take off++([v]++(cellsOf n x).drop (off+1))=cellsOf n (aSt x off v):=by
 have qj:off<n:=QL h;apply List.ext_getElem?;intro i;by_cases h1:i<off
 ·rw[List.getElem?_append_left (by simp[cellsOf];omega),List.getElem?_take,if_pos h1,aP (by simp[Nat.blt];omega),aP (by simp[Nat.blt];omega)];rw[aSt,show Nat.beq i off=false by(cases e:Nat.beq i off with|false=>rfl|true=>have:=QN e;omega)];rfl
 ·rw[List.getElem?_append_right (by simp[cellsOf];omega)];simp only[List.length_take,aO,Nat.min_eq_left (Nat.le_of_lt qj)];by_cases h2:i=off
  ·subst h2;rw[aP (by simp[Nat.blt];omega),aSt];simp
  ·rw[List.getElem?_append_right (by simp;omega),List.getElem?_drop];simp only[List.length_singleton];rw[show off+1+(i - off - 1)=i by omega];by_cases h3:i<n
   ·rw[aP (by simp[Nat.blt];omega),aP (by simp[Nat.blt];omega),aSt,show Nat.beq i off=false by(cases e:Nat.beq i off with|false=>rfl|true=>exact absurd (QN e) h2)];rfl
   ·rw[List.getElem?_eq_none (by simp[cellsOf];omega),List.getElem?_eq_none (by simp[cellsOf];omega)]
section
variable {A:NQ}{H:AH}
theorem CellA.one{k:Kd}{x:Value}{c:CT}(h:CellA A H k x c):x.oneCell'=true:=by
 cases k with
 |int k=>obtain⟨n,rfl,_⟩:=h.int;rfl
 |bool=>obtain⟨n,rfl,_⟩:=h.bool;rfl
 |str=>obtain⟨n,rfl,_⟩:=h.str;rfl
 |row b ks=>
  obtain⟨l,rfl,_,_,⟨rfl|rfl,_⟩|⟨a,cap,rfl,_⟩⟩:=h.row<;>rfl
theorem CellsA.one:∀{ks:KL} {xs:VL} {cs:CL},CellsA A H ks xs cs->aY xs=true
 |[],[],[],_=>rfl
 |k::ks,x::xs,c::cs,h=>by
  simp only[CellsA] at h;simp only[aY,h.1.one,CellsA.one h.2,Bool.and_self]
 |[],[],_::_,h=>by simp only[CellsA] at h
 |[],_::_,_,h=>by simp only[CellsA] at h
 |_::_,[],_,h=>by simp only[CellsA] at h
 |_::_,_::_,[],h=>by simp only[CellsA] at h
end
section
variable {P:PG}{E:Env P}{t:TY}{k:IntKind}{a b:Int}{s u:BA}
theorem fX(h:a<b):aS E .lss t (.int k a) (.int k b)=some (.bool true):=by simp[aS,bW,h]
theorem gC(h:b<=a):aS E .lss t (.int k a) (.int k b)=some (.bool false):=by simp[aS,bW];omega
theorem lK(h:b<=a):aS E .geq t (.int k a) (.int k b)=some (.bool true):=by simp[aS,bW,h]
theorem lA(h:a<b):aS E .geq t (.int k a) (.int k b)=some (.bool false):=by simp[aS,bW];omega
theorem aBe(h:a=b):aS E .eql t (.int k a) (.int k b)=some (.bool true):=by simp[aS,bW,h]
theorem aAj(h:a≠b):aS E .eql t (.int k a) (.int k b)=some (.bool false):=by simp[aS,bW,h]
theorem iE(h:s.data.toList=u.data.toList):aS E .eql t (.string s) (.string u)=some (.bool true):=by simp[aS,rG,h]
theorem hY(h:s.data.toList≠u.data.toList):aS E .eql t (.string s) (.string u)=some (.bool false):=by
 simp only[aS,rG,Option.some.injEq,Value.bool.injEq];exact beq_eq_false_iff_ne.2 h
theorem fE{c:Int}(h:k.wrap (a+b)=c):aS E .add t (.int k a) (.int k b)=some (.int k c):=by simp[aS,bW,h]
theorem aZk{c:Int}(h:k.wrap (a - b)=c):aS E .sub t (.int k a) (.int k b)=some (.int k c):=by simp[aS,bW,h]
theorem aZa{c:Int}(h:k.wrap (a*b)=c):aS E .mul t (.int k a) (.int k b)=some (.int k c):=by simp[aS,bW,h]
theorem tG{c:Int}(h0: -9223372036854775808<=c)(h1:c<=9223372036854775807):IntKind.i64.wrap c=c:=by
 rw[IntKind.wrap_i64];omega
theorem oD{m:Nat}(h:m+1<=9223372036854775807):aS E .add t (.int .i64 (m:Int)) (.int .i64 1)=some (.int .i64 ((m+1:Nat):Int)):=fE (by rw[tG (by omega) (by omega)];omega)
theorem qR{e:TY}(hu:E.und t=some (.pointer e)):aS E .eql t (.pointer none) (.pointer none)=some (.bool true):=by simp[aS,hu,fO]
theorem qF{e:TY}{p:Addr}(hu:E.und t=some (.pointer e)):aS E .eql t (.pointer (some p)) (.pointer none)=some (.bool false):=by simp[aS,hu,fO]
end
section
variable {P:PG}{E:Env P}{A:NQ}{H:AH}
end
end Go.AM
namespace Go.AM
open Go.RowKit
variable [σ:Sg]
variable [γ:Gam]
theorem gH(b off k:Nat):(⟨b,off,none⟩:Addr).add k=⟨b,off+k,none⟩:=lO _ rfl k
theorem InA.add{A:NQ}{a:Addr}(h:InA A a.block){k:Nat}:InA A (a.add k).block:=by rw[bR];exact h
section
variable {P:PG}{E:Env P}{G:RG}{i n d:Nat}{r:OL2}{Q:FQ}{t:Tr Value}{l:LV}{S H0:AH}{A0 A:NQ}{L L':OL}{v u:Value}
 {ty:TY}{ps:String}{af:Array Edge}{gd:OB}{x y z:Operand}
theorem aD(hw:gok G.ops l gd=true)(qd:Nat.ble (d+1) n=true)(hx:opv l x=some v)(h:SO E G (i+1) r Q (fr n t ((d,v)::l)) H0 A L):SO E G i (⟨some d,.move x,ty,ps,af,gd⟩::r) Q (fr n t l) H0 A L:=
 bJ hw rfl qd rfl (fun H=>by simp only[aop,aI hx]) h
theorem aF(hw:gok G.ops l gd=true)(qd:Nat.ble (d+1) n=true)(hx:opv l x=some v)(h:SO E G (i+1) r Q (fr n t ((d,v)::l)) H0 A L):SO E G i (⟨some d,.assign x,ty,ps,af,gd⟩::r) Q (fr n t l) H0 A L:=
 bJ hw rfl qd rfl (fun H=>by simp only[aop,aI hx]) h
theorem lH(hw:gok G.ops l gd=true)(qd:Nat.ble (d+1) n=true)(hz:opv l z=some (.bool true))(hx:opv l x=some v)(h:SO E G (i+1) r Q (fr n t ((d,v)::l)) H0 A L):SO E G i (⟨some d,.pick z x y,ty,ps,af,gd⟩::r) Q (fr n t l) H0 A L:=
 bJ hw rfl qd rfl (fun H=>by simp only[aop,aI hz,aI hx]) h
theorem oY(hw:gok G.ops l gd=true)(qd:Nat.ble (d+1) n=true)(hz:opv l z=some (.bool false))(hx:opv l y=some v)(h:SO E G (i+1) r Q (fr n t ((d,v)::l)) H0 A L):SO E G i (⟨some d,.pick z x y,ty,ps,af,gd⟩::r) Q (fr n t l) H0 A L:=
 bJ hw rfl qd rfl (fun H=>by simp only[aop,aI hz,aI hx]) h
theorem aX{op:BinOp}{ta tb:TY}{a b:Value}(hw:gok G.ops l gd=true)(qd:Nat.ble (d+1) n=true)(hx:opv l x=some a)(hy:opv l y=some b)(hb:aS E op ta a b=some v)(h:SO E G (i+1) r Q (fr n t ((d,v)::l)) H0 A L):
 SO E G i (⟨some d,.binOp op ta x y tb,ty,ps,af,gd⟩::r) Q (fr n t l) H0 A L:=
 bJ hw rfl qd rfl (fun H=>by simp only[aop,aI hx,aI hy,hb,aQ]) h
theorem aSj{ta:TY}{b b':Bool}(hw:gok G.ops l gd=true)(qd:Nat.ble (d+1) n=true)(hx:opv l x=some (.bool b))(hb:(!b)=b')(h:SO E G (i+1) r Q (fr n t ((d,.bool b')::l)) H0 A L):
 SO E G i (⟨some d,.unOp .not ta x,ty,ps,af,gd⟩::r) Q (fr n t l) H0 A L:=
 bJ hw rfl qd rfl (fun H=>by simp only[aop,aI hx,aVh,aun,hb,aQ]) h
theorem aHh{vs:VL}{k:Nat}(hw:gok G.ops l gd=true)(qd:Nat.ble (d+1) n=true)(hx:opv l x=some (.tuple ⟨vs⟩))(hv:vs[k]?=some v)(h:SO E G (i+1) r Q (fr n t ((d,v)::l)) H0 A L):SO E G i (⟨some d,.extract x k,ty,ps,af,gd⟩::r) Q (fr n t l) H0 A L:=
 bJ hw rfl qd rfl (fun H=>by simp only[aop,aI hx,sQ,hv,aQ]) h
theorem bM{a:Addr}(hw:gok G.ops l gd=true)(qd:Nat.ble (d+1) n=true)(hx:opv l x=some (.pointer (some a)))(h:SO E G (i+1) r Q (fr n t ((d,.pointer (some a))::l)) H0 A L):SO E G i (⟨some d,.nilCheck x,ty,ps,af,gd⟩::r) Q (fr n t l) H0 A L:=
 bJ hw rfl qd rfl (fun H=>by simp only[aop,aI hx]) h
theorem bQ{g:FuncId}{a b:Array Value}(hw:gok G.ops l gd=true)(qd:Nat.ble (d+1) n=true)(hx:opv l x=some (.func (.func g) a b))(h:SO E G (i+1) r Q (fr n t ((d,.func (.func g) a b)::l)) H0 A L):SO E G i (⟨some d,.nilCheck x,ty,ps,af,gd⟩::r) Q (fr n t l) H0 A L:=
 bJ hw rfl qd rfl (fun H=>by simp only[aop,aI hx]) h
theorem mE{a:Addr}(hw:gok G.ops l gd=true)(hx:opv l x=some (.pointer (some a)))(h:SO E G (i+1) r Q (fr n t l) H0 A L):SO E G i (⟨none,.nilCheck x,ty,ps,af,gd⟩::r) Q (fr n t l) H0 A L:=by
 intro hD H hH;obtain⟨Ls,g,K,hr,hq⟩:=h hD H hH;exact⟨_,g,K,.cons (v:=.pointer (some a)) (.inr (.inl ⟨dA hw,rfl,rfl,⟨rfl,by simp only[aop,aI hx]⟩,fun _=>.inl rfl⟩)) rfl hr,hq⟩
theorem nW{fn:Fn}{a b:Array Operand}{va vb:VL}(hw:gok G.ops l gd=true)(qd:Nat.ble (d+1) n=true)(ha:Opvs l a.toList va)(hb:Opvs l b.toList vb)(h:SO E G (i+1) r Q (fr n t ((d,.func fn ⟨va⟩ ⟨vb⟩)::l)) H0 A L)(hy:fnY fn=false:=by rfl):
 SO E G i (⟨some d,.makeFunc fn a b,ty,ps,af,gd⟩::r) Q (fr n t l) H0 A L:=
 bJ hw rfl qd rfl (fun H=>by simp only[aop,hy,QF,ha.ok,hb.ok]) h
theorem cZ{s:TY}{f:Nat}{b off o':Nat}{fs:Array Field}{fd:Field}{ii:TI}(hw:gok G.ops l gd=true)(qd:Nat.ble (d+1) n=true)(hx:opv l x=some (.pointer (some ⟨b,off,none⟩)))(hu:E.und s=some (.struct fs))(hf:fs[f]?=some fd)(hi:E.inf fd.type=some ii)
 (hz:Nat.beq ii.size 0=false)(ho:off+fd.offset=o')(h:SO E G (i+1) r Q (fr n t ((d,.pointer (some ⟨b,o',none⟩))::l)) H0 A L):SO E G i (⟨some d,.fieldAddr s x f,ty,ps,af,gd⟩::r) Q (fr n t l) H0 A L:=
 bJ hw rfl qd rfl (fun H=>by simp only[aop,aI hx,fU,hu,hf,hi,hz,QF,aQ,gH,ho]) h
theorem aFe{kk:IntKind}{a:Addr}{m c j s:Nat}{e:TY}{ii:TI}{ta:TY}(hw:gok G.ops l gd=true)(qd:Nat.ble (d+1) n=true)(hx:opv l x=some (.slice (some a) m c))(hy:opv l y=some (.int kk ((j:Nat):Int)))(hu:E.und ta=some (.slice e))(hi:E.inf e=some ii)(hs:ii.size=s)
 (hj:j<m)(h:SO E G (i+1) r Q (fr n t ((d,.pointer (some (a.add (j*s))))::l)) H0 A L):SO E G i (⟨some d,.indexAddr ta x y,ty,ps,af,gd⟩::r) Q (fr n t l) H0 A L:=
 bJ hw rfl qd rfl (fun H=>by
  have:lM (.int kk ((j:Nat):Int)) m=some j:=by simp only[lM];rw[if_pos ⟨by omega,by omega⟩];simp
  simp only[aop,aI hx,aI hy,bE,hu,hi,this,aQ,hs]) h
theorem aTo{kk:IntKind}{s:BA}{j:Nat}{b:UInt8}{ta:TY}(hw:gok G.ops l gd=true)(qd:Nat.ble (d+1) n=true)(hx:opv l x=some (.string s))(hy:opv l y=some (.int kk ((j:Nat):Int)))(hu:E.und ta=some .string)(hb:s.data.toList[j]?=some b)
 (h:SO E G (i+1) r Q (fr n t ((d,.int .u8 b.toNat)::l)) H0 A L):SO E G i (⟨some d,.index ta x y,ty,ps,af,gd⟩::r) Q (fr n t l) H0 A L:=
 bJ hw rfl qd rfl (fun H=>by
  have hj:=lt_of_getElem? hb;have:lM (.int kk ((j:Nat):Int)) s.data.toList.length=some j:=by simp only[lM];rw[if_pos ⟨by omega,by omega⟩];simp
  simp only[aop,aI hx,aI hy,kT,hu,this,aQ,hb]) h
theorem lZ{c:Call}{ta e:TY}{a:Option Addr}{m k:Nat}(hw:gok G.ops l gd=true)(qd:Nat.ble (d+1) n=true)(hc:c.callee=.builtin .len)(ha:c.args.toList=[x])(ht:c.argTypes.toList=[ta])(hx:opv l x=some (.slice a m k))(hu:E.und ta=some (.slice e))
 (h:SO E G (i+1) r Q (fr n t ((d,.int .i64 ((m:Nat):Int))::l)) H0 A L):SO E G i (⟨some d,.call c,ty,ps,af,gd⟩::r) Q (fr n t l) H0 A L:=
 bJ hw rfl qd (by simp only[eO,hc,ht,hu]) (fun H=>by simp only[aop,hc,ha,ht,aI hx,aFz,hu,aQ]) h
theorem eE{c:Call}{ta:TY}{s:BA}(hw:gok G.ops l gd=true)(qd:Nat.ble (d+1) n=true)(hc:c.callee=.builtin .len)(ha:c.args.toList=[x])(ht:c.argTypes.toList=[ta])(hx:opv l x=some (.string s))(hu:E.und ta=some .string)
 (h:SO E G (i+1) r Q (fr n t ((d,.int .i64 ((s.data.toList.length:Nat):Int))::l)) H0 A L):SO E G i (⟨some d,.call c,ty,ps,af,gd⟩::r) Q (fr n t l) H0 A L:=
 bJ hw rfl qd (by simp only[eO,hc,ht,hu]) (fun H=>by simp only[aop,hc,ha,ht,aI hx,aFz,hu,aQ]) h
theorem aXd{parts:Array (Nat×Operand)}{vs:LV}{ta:TY}(hw:gok G.ops l gd=true)(qd:Nat.ble (d+1) n=true)(hp:Opps l parts.toList vs)(hb:pW E ta vs=some v)(h:SO E G (i+1) r Q (fr n t ((d,v)::l)) H0 A L):
 SO E G i (⟨some d,.build ta parts,ty,ps,af,gd⟩::r) Q (fr n t l) H0 A L:=
 bJ hw rfl qd rfl (fun H=>by simp only[aop,hp.ok,hb,aQ]) h
theorem jP{sT dT:TY}{ds:TypeDesc}{k k':IntKind}{a b:Int}(hw:gok G.ops l gd=true)(qd:Nat.ble (d+1) n=true)(hx:opv l x=some (.int k' a))(hs:E.und sT=some ds)(hd:E.und dT=some (.int k))(hb:k.wrap a=b)(h:SO E G (i+1) r Q (fr n t ((d,.int k b)::l)) H0 A L):
 SO E G i (⟨some d,.convert sT dT x,ty,ps,af,gd⟩::r) Q (fr n t l) H0 A L:=
 bJ hw rfl qd (by simp only[eO,hd]) (fun H=>by simp only[aop,aI hx,kK,hs,hd,hb]) h
omit [γ:Gam] in
def dC(E:Env P)(S H0:AH)(A0 A:NQ)(L:OL)(ty:TY)(a:Addr)(v:Value):Prop:=∀H,HS S H0 A0 A L H->fA E ty a H=some v
theorem iR{N off sz:Nat}{cs:VL}{ex:Bool}{dd:TypeDesc}(hu:E.und ty=some dd)(hd:dG dd=false)(hm:(N,AObj.cells cs sz ex)∈L)(hv:cs[off]?=some v):dC E S H0 A0 A L ty ⟨2*N+1,off,none⟩ v:=fun H hH=>by
 simp only[fA,hu,hd,QF];rw[zV (hH.own _ hm).1,hv]
theorem aBy{N off sz s:Nat}{cs xs:VL}{ex:Bool}{dd:TypeDesc}{ii:TI}(hu:E.und ty=some dd)(hd:dG dd=true)(hi:E.inf ty=some ii)(hs:ii.size=s)(hm:(N,AObj.cells cs sz ex)∈L)(qf:off+s<=cs.length)(hv:(cs.drop off).take s=xs):dC E S H0 A0 A L ty ⟨2*N+1,off,none⟩ (.agg ⟨xs⟩):=fun H hH=>by
 simp only[fA,hu,hd,QT,hi,hs];rw[iB (hH.own _ hm).1 off s none qf,hv]
theorem cQ{a:Addr}{dd:TypeDesc}(hu:E.und ty=some dd)(hd:dG dd=false)(hA:InA A a.block)(hl:aload H0 a=some v):dC E S H0 A0 A L ty a v:=fun H hH=>by
 simp only[fA,hu,hd,QF];rw[hH.gr.aload hA,hl]
theorem wX{a:Addr}{dd:TypeDesc}{ii:TI}{s:Nat}{xs:VL}(hu:E.und ty=some dd)(hd:dG dd=true)(hi:E.inf ty=some ii)(hs:ii.size=s)(hA:InA A a.block)(hl:aloads H0 a s=some xs):dC E S H0 A0 A L ty a (.agg ⟨xs⟩):=fun H hH=>by
 simp only[fA,hu,hd,QT,hi,hs];rw[hH.gr.aloads hA,hl]
theorem eK{a:Addr}{ta:TY}(hw:gok G.ops l gd=true)(qd:Nat.ble (d+1) n=true)(hx:opv l x=some (.pointer (some a)))(hl:dC E G.S (qH G H0) G.A0 (qA G A) (qL G L) ta a v)(h:SO E G (i+1) r Q (fr n t ((d,v)::l)) H0 A L):
 SO E G i (⟨some d,.load ta x,ty,ps,af,gd⟩::r) Q (fr n t l) H0 A L:=
 jO rfl hw rfl qd (fun H hH=>by simp only[aop,aI hx,hl H hH,aQ]) h
theorem aSm{a:Addr}{ta:TY}(hw:gok G.ops l gd=true)(qd:Nat.ble (d+1) n=true)(hx:opv l x=some (.pointer (some a)))(ho:fK (bef G.ops) G.ms i=true)(hl:dC E G.S H0 G.A0 A L ta a v)(h:SO E G (i+1) r Q (fr n t ((d,v)::l)) H0 A L):
 SO E G i (⟨some d,.load ta x,ty,ps,af,gd⟩::r) Q (fr n t l) H0 A L:=
 yO rfl hw rfl qd ho (fun H hH=>by simp only[aop,aI hx,hl H hH,aQ]) h
theorem aOm{ta:TY}{lo hi mx:Option Operand}{s:BA}{p q m:Nat}(hw:gok G.ops l gd=true)(qd:Nat.ble (d+1) n=true)(hx:opv l x=some (.string s))(hu:E.und ta=some .string)(ue:mx=none)
 (hb:bC s.data.toList.length s.data.toList.length (lo.map (aN (fr n t l))) (hi.map (aN (fr n t l))) none=some (p,q,m))
 (h:SO E G (i+1) r Q (fr n t ((d,.string ⟨⟨(s.data.toList.take q).drop p⟩⟩)::l)) H0 A L):SO E G i (⟨some d,.slice ta x lo hi mx,ty,ps,af,gd⟩::r) Q (fr n t l) H0 A L:=
 jO rfl hw rfl qd (fun H hH=>by subst ue;simp only[aop,aI hx,mP,hu,Option.map_none,hb,aQ]) h
theorem aAv{ta e:TY}{lo hi mx:Option Operand}{ii:TI}{b:Nat×Nat×Nat}(hw:gok G.ops l gd=true)(qd:Nat.ble (d+1) n=true)(hx:opv l x=some (.slice none 0 0))(hu:E.und ta=some (.slice e))(ql:E.inf e=some ii)
 (hb:bC 0 0 (lo.map (aN (fr n t l))) (hi.map (aN (fr n t l))) (mx.map (aN (fr n t l)))=some b)
 (h:SO E G (i+1) r Q (fr n t ((d,.slice none 0 0)::l)) H0 A L):SO E G i (⟨some d,.slice ta x lo hi mx,ty,ps,af,gd⟩::r) Q (fr n t l) H0 A L:=
 jO rfl hw rfl qd (fun H hH=>by simp only[aop,aI hx,mP,hu,ql,hb,aQ]) h
theorem aAp{ta e:TY}{lo hi mx:Option Operand}{ii:TI}{b:Nat×Nat×Nat}(hw:gok G.ops l gd=true)(qd:Nat.ble (d+1) n=true)(hx:opv l x=some (.slice none 0 1))(hu:E.und ta=some (.slice e))(ql:E.inf e=some ii)
 (hb:bC 0 0 (lo.map (aN (fr n t l))) (hi.map (aN (fr n t l))) (mx.map (aN (fr n t l)))=some b)
 (h:SO E G (i+1) r Q (fr n t ((d,.slice none 0 1)::l)) H0 A L):SO E G i (⟨some d,.slice ta x lo hi mx,ty,ps,af,gd⟩::r) Q (fr n t l) H0 A L:=
 jO rfl hw rfl qd (fun H hH=>by simp only[aop,aI hx,mP,hu,ql,hb,aQ]) h
theorem aAz{ta e:TY}{lo hi mx:Option Operand}{ii:TI}{a:Addr}{len cap p q m:Nat}(hw:gok G.ops l gd=true)(qd:Nat.ble (d+1) n=true)(hx:opv l x=some (.slice (some a) len cap))(hu:E.und ta=some (.slice e))(ql:E.inf e=some ii)
 (wz:len<=cap)(qz:a.block%2=0)(hb:bC len cap (lo.map (aN (fr n t l))) (hi.map (aN (fr n t l))) (mx.map (aN (fr n t l)))=some (p,q,m))
 (h:SO E G (i+1) r Q (fr n t ((d,.slice (some (if m=p then a else a.add (p*ii.size))) (q - p) (m - p))::l)) H0 A L):SO E G i (⟨some d,.slice ta x lo hi mx,ty,ps,af,gd⟩::r) Q (fr n t l) H0 A L:=
 jO rfl hw rfl qd (fun H hH=>by
  have e1:Nat.ble len cap=true:=Nat.ble_eq_true_of_le wz;have e2:Nat.beq (a.block%2) 0=true:=by rw[qz];rfl
  simp only[aop,aI hx,mP,hu,ql,e1,QT,hb,e2,aQ]) h
theorem aAd{ta e:TY}{lo hi mx:Option Operand}{ii:TI}{a:Addr}{len cap p q m:Nat}(hw:gok G.ops l gd=true)(qd:Nat.ble (d+1) n=true)(hx:opv l x=some (.slice (some a) len cap))(hu:E.und ta=some (.slice e))(ql:E.inf e=some ii)
 (wz:len<=cap)(qz:a.block%2=1)(hA:qA G A (a.block / 2))(qu:SzA (qH G H0) a ii.size)(hb:bC len cap (lo.map (aN (fr n t l))) (hi.map (aN (fr n t l))) (mx.map (aN (fr n t l)))=some (p,q,m))
 (h:SO E G (i+1) r Q (fr n t ((d,.slice (some (a.add (p*ii.size))) (q - p) (m - p))::l)) H0 A L):SO E G i (⟨some d,.slice ta x lo hi mx,ty,ps,af,gd⟩::r) Q (fr n t l) H0 A L:=
 jO rfl hw rfl qd (fun H hH=>by
  have e1:Nat.ble len cap=true:=Nat.ble_eq_true_of_le wz;have e2:Nat.beq (a.block%2) 0=false:=by rw[qz];rfl
  have e4:=hH.base _ hA;rcases qu qz with⟨cs,ex,hm⟩|⟨hm,cs,nf⟩
  ·rw[hm] at e4;simp only[aop,aI hx,mP,hu,ql,e1,QT,hb,e2,QF,e4,Nat.beq_refl,aQ]
  ·rw[hm] at e4;rw[hH.w0] at nf;simp only[aop,aI hx,mP,hu,ql,e1,QT,hb,e2,QF,e4,nf,Nat.beq_refl,aQ]) h
theorem oO{o:Oper}{f:Nat->Value}{ob:AObj}(hw:gok G.ops l o.guard=true)(hd:o.dst=some d)(qd:Nat.ble (d+1) n=true)(hm:G.D=true->i∈G.ms)(qi:∀H,HS G.S H0 G.A0 A L H->aop E (aN (fr n t l)) o.op H=some (f H.nx,dI H ob))
 (h:∀N,SO E G (i+1) r Q (fr n t ((d,f N)::l)) H0 A ((N,ob)::L)):SO E G i (o::r) Q (fr n t l) H0 A L:=
 dS hw hd qd hm fun hD H hH=>⟨_,_,H0,A,(H.nx,ob)::L,.inl (qi H hH),hH.push ob,hD.push _,h H.nx⟩
theorem aRo{ta:TY}{cs:VL}(hw:gok G.ops l gd=true)(qd:Nat.ble (d+1) n=true)(hm:G.D=true->i∈G.ms)(hx:opv l x=some v)(hc:v.cells.toList=cs)(h:∀N,SO E G (i+1) r Q (fr n t ((d,.pointer (some ⟨2*N+1,0,none⟩))::l)) H0 A ((N,.cells cs (fD E ta) true)::L)):
 SO E G i (⟨some d,.box ta x,ty,ps,af,gd⟩::r) Q (fr n t l) H0 A L:=
 oO (f:=fun N=>.pointer (some ⟨2*N+1,0,none⟩)) hw rfl qd hm (fun H hH=>by simp only[aop,aI hx,aGf,aGq,hc]) h
theorem aYu{ta:TY}(hw:gok G.ops l gd=true)(qd:Nat.ble (d+1) n=true)(hm:G.D=true->i∈G.ms)(hx:opv l x=some v)(hc:v.cells.toList=[v])(h:∀N,SO E G (i+1) r Q (fr n t ((d,.pointer (some ⟨2*N+1,0,none⟩))::l)) H0 A ((N,.cells [v] (fD E ta) true)::L)):
 SO E G i (⟨some d,.box ta x,ty,ps,af,gd⟩::r) Q (fr n t l) H0 A L:=aRo hw qd hm hx hc h
theorem nZ{ta:TY}{ii:TI}{zv:Value}{cs:VL}(hw:gok G.ops l gd=true)(qd:Nat.ble (d+1) n=true)(hm:G.D=true->i∈G.ms)(hi:E.inf ta=some ii)(hz:ii.zero=some zv)(hc:(ext zv).cells.toList=cs)(h:∀N,SO E G (i+1) r Q (fr n t ((d,.pointer (some ⟨2*N+1,0,none⟩))::l)) H0 A ((N,.cells cs (fD E ta) true)::L)):
 SO E G i (⟨some d,.alloc ta,ty,ps,af,gd⟩::r) Q (fr n t l) H0 A L:=
 oO (f:=fun N=>.pointer (some ⟨2*N+1,0,none⟩)) hw rfl qd hm (fun H hH=>by simp only[aop,uK,hi,hz,aGf,aGq,hc]) h
theorem bL{ta e:TY}{len:Nat}{parts:Array (Nat×Operand)}{vs:LV}{ii:TI}{zv:Value}{out:VL}(hw:gok G.ops l gd=true)(qd:Nat.ble (d+1) n=true)(hm:G.D=true->i∈G.ms)(hp:Opps l parts.toList vs)(hu:E.und ta=some (.slice e))(hi:E.inf e=some ii)
 (hb:(Nat.ble (len*ii.size) 16777216&&!(Nat.beq ii.size 0))=true)(hz:ii.zero=some zv)(hf:pS (fun j=>some (j*ii.size,ii.size)) (extL (cT (if len*ii.size=0 then #[] else zv.cells) (len*ii.size))) vs=some out)(hl:Nat.beq out.length (len*ii.size)=true){s:Nat}(hs:ii.size=s)
 (h:∀N,SO E G (i+1) r Q (fr n t ((d,.slice (some ⟨2*N+1,0,none⟩) len len)::l)) H0 A ((N,.cells out s true)::L)):SO E G i (⟨some d,.buildSlice ta len parts,ty,ps,af,gd⟩::r) Q (fr n t l) H0 A L:=
 oO (f:=fun N=>.slice (some ⟨2*N+1,0,none⟩) len len) hw rfl qd hm (fun H hH=>by subst hs;simp only[aop,hp.ok,dW,hu,hi,hb,QT,hz,hf,hl,cH]) h
theorem bBj{ta e:TY}{k k':IntKind}{a c:Nat}{ii:TI}{zv:Value}{cs:VL}(hw:gok G.ops l gd=true)(qd:Nat.ble (d+1) n=true)(hm:G.D=true->i∈G.ms)(hx:opv l x=some (.int k ((a:Nat):Int)))(hy:opv l y=some (.int k' ((c:Nat):Int)))(hu:E.und ta=some (.slice e))(hi:E.inf e=some ii)
 (hz:ii.zero=some zv)(hac:a<=c)(hc:c<=140737488355328)(hcb:ii.bytes*c<=281474976710656)(yb:extL (cT (if c*ii.size=0 then #[] else zv.cells) (c*ii.size))=cs){s:Nat}(hs:ii.size=s)
 (h:∀N,SO E G (i+1) r Q (fr n t ((d,.slice (some ⟨2*N+1,0,none⟩) a c)::l)) H0 A ((N,.cells cs s true)::L)):SO E G i (⟨some d,.makeSlice ta x y,ty,ps,af,gd⟩::r) Q (fr n t l) H0 A L:=
 oO (f:=fun N=>.slice (some ⟨2*N+1,0,none⟩) a c) hw rfl qd hm (fun H hH=>by
  have ur:(0:Int)<=(a:Int)/\(a:Int)<=(c:Int)/\(c:Int)<=140737488355328/\(ii.bytes:Int)*(c:Int)<=281474976710656:=by
   refine⟨by omega,by omega,by omega,?_⟩;have:((ii.bytes*c:Nat):Int)<=281474976710656:=by omega
   rwa [Int.natCast_mul] at this
  subst hs;simp only[aop,aI hx,aI hy,jT,hu,hi,hz,ur,and_self,if_true,Int.toNat_natCast,cH,yb]) h
theorem lS{ta:TY}{N off sz:Nat}{cs cs' vs:VL}{ex:Bool}{ii:TI}(hw:gok G.ops l gd=true)(hm:G.D=true->i∈G.ms)(hx:opv l x=some (.pointer (some ⟨2*N+1,off,none⟩)))(hy:opv l y=some v)(hi:E.inf ta=some ii)(hc:v.cells.toList=vs)(hs:vs.length=ii.size)
 (h1:aY vs=true)(hu:Upd N (.cells cs sz ex) (.cells cs' sz ex) L L')(yb:cs.take off++(vs++cs.drop (off+vs.length))=cs')(qf:off+vs.length<=cs.length)(hD:G.D=true->G.Lw.Sublist L')
 (h:SO E G (i+1) r Q (fr n t l) H0 A L'):SO E G i (⟨none,.store ta x y,ty,ps,af,gd⟩::r) Q (fr n t l) H0 A L:=
 aKo hw rfl hm fun vg H hH=>by
  refine⟨undef,_,H0,A,L',.inl ?_,hH.set hu,vg.list hD,h⟩;have hg:=(hH.own _ hu.mem).1;have hb:Nat.beq vs.length ii.size=true:=by rw[hs];simp
  simp only[aop,aI hx,aI hy,jH,hi,hc,hb,QT];rw[aEh hg off none qf h1,yb]
theorem oM(h:v.oneCell'=true):v.cells.toList=[v]:=by
 cases v<;>first|rfl|(simp[Value.oneCell'] at h)
theorem jF{cs vs:VL}(h:vs.length=cs.length):cs.take 0++(vs++cs.drop (0+vs.length))=vs:=by
 rw[Nat.zero_add,h];simp
theorem zN{ta:TY}{N off sz:Nat}{cs cs' vs:VL}{ex:Bool}{ii:TI}(hw:gok G.ops l gd=true)(hm:G.D=true->i∈G.ms)(hx:opv l x=some (.pointer (some ⟨2*N+1,off,none⟩)))(hy:opv l y=some (.agg ⟨vs⟩))(hi:E.inf ta=some ii)(hs:vs.length=ii.size)
 (h1:aY vs=true)(hu:Upd N (.cells cs sz ex) (.cells cs' sz ex) L L')(yb:cs.take off++(vs++cs.drop (off+vs.length))=cs')(qf:off+vs.length<=cs.length)(hD:G.D=true->G.Lw.Sublist L')
 (h:SO E G (i+1) r Q (fr n t l) H0 A L'):SO E G i (⟨none,.store ta x y,ty,ps,af,gd⟩::r) Q (fr n t l) H0 A L:=
 lS hw hm hx hy hi rfl hs h1 hu yb qf hD h
theorem pA{ta:TY}{N off sz:Nat}{cs cs':VL}{ex:Bool}{ii:TI}(hw:gok G.ops l gd=true)(hm:G.D=true->i∈G.ms)(hx:opv l x=some (.pointer (some ⟨2*N+1,off,none⟩)))(hy:opv l y=some v)(hi:E.inf ta=some ii)(hs:ii.size=1)
 (h1:v.oneCell'=true)(hu:Upd N (.cells cs sz ex) (.cells cs' sz ex) L L')(yb:cs.take off++([v]++cs.drop (off+1))=cs')(qf:off+1<=cs.length)(hD:G.D=true->G.Lw.Sublist L')
 (h:SO E G (i+1) r Q (fr n t l) H0 A L'):SO E G i (⟨none,.store ta x y,ty,ps,af,gd⟩::r) Q (fr n t l) H0 A L:=
 lS hw hm hx hy hi (oM h1) (by rw[hs];rfl) (by simp[aY,h1]) hu yb qf hD h
theorem lU{c:Call}{g:FuncId}{vs:VL}(hw:gok G.ops l gd=true)(qd:Nat.ble (d+1) n=true)(hm:G.D=true->i∈G.ms)(hc:c.callee=.value (.func g))(hg:∃fn,E.fn g=some fn)(ha:Opvs l c.args.toList vs)(hk:∀H,HS G.S H0 G.A0 A L H->XCall P g vs H fun u H'=>u=v/\Kept H.nx H H')
 (h:SO E G (i+1) r Q (fr n t ((d,v)::l)) H0 A L):SO E G i (⟨some d,.call c,ty,ps,af,gd⟩::r) Q (fr n t l) H0 A L:=
 dS hw rfl qd hm fun hD H hH=>by
  obtain⟨fn,hg⟩:=hg;obtain⟨u,H',⟨rfl,tq⟩,zo,qm⟩:=hk H hH;refine⟨u,H',H0,A,L,.inr ⟨zo,g,vs,?_,qm⟩,hH.later tq,hD,h⟩;simp only[bN,hc,aAw,hg,ha.ok,List.append_nil,List.nil_append]
theorem eR{c:Call}{z:Operand}{g:FuncId}{fa fb vs:VL}{args:VL}(hw:gok G.ops l gd=true)(qd:Nat.ble (d+1) n=true)(hm:G.D=true->i∈G.ms)(hc:c.callee=.value z)(hz:opv l z=some (.func (.func g) ⟨fa⟩ ⟨fb⟩))(hg:∃fn,E.fn g=some fn)(ha:Opvs l c.args.toList vs)(qh:fa++(vs++fb)=args)
 (hk:∀H,HS G.S H0 G.A0 A L H->XCall P g args H fun u H'=>u=v/\Kept H.nx H H')
 (h:SO E G (i+1) r Q (fr n t ((d,v)::l)) H0 A L):SO E G i (⟨some d,.call c,ty,ps,af,gd⟩::r) Q (fr n t l) H0 A L:=
 dS hw rfl qd hm fun hD H hH=>by
  obtain⟨fn,hg⟩:=hg;obtain⟨u,H',⟨rfl,tq⟩,zo,qm⟩:=hk H hH;refine⟨u,H',H0,A,L,.inr ⟨zo,g,args,?_,qm⟩,hH.later tq,hD,h⟩;simp only[bN,hc,aI hz,hg,ha.ok,qh]
end
section
variable {P:PG}{E:Env P}{n:Nat}{t:Tr Value}{l:LV}{S H0:AH}{A0 A:NQ}{L:OL}{R:Value->AH->Prop}{rs:List ResultVar}
theorem aA{names:∀(f:Nat) (F:Func),P.funcs[f]?=some F->(F.name== "runtime.NumGoroutine")=false}{eqT:Nat->Bool}{h:∀t,eqT t=true->P.stoodInHeld t=false/\P.eqGuardType P.depth t=false}{g:Nat}{F:Func}{c:Code}{n:Nat}{rs:List ResultVar}(hF:P.funcs[g]?=some F)(hb:F.body=some c)(hn:F.ntmps=n)(hr:F.results.toList=rs):
 (Env.own P names eqT h).fn g=some ⟨n,rs,c⟩:=by
 simp only[Env.own,hF,hb,hn,hr]
theorem iG{g:FuncId}{c:Code}{args:VL}(hg:E.fn g=some ⟨n,rs,c⟩)(hA:∀j,A0 j->j<S.nx)(hf:sI args n=fr n .nil l)(h:SX (γ:=allG) P c (vL E rs R) (fr n .nil l) S A0 S A0 []):XCall P g args S R:=
 XCall.body E hg (by rw[hf];exact h S (HS.start hA))
omit [γ:Gam] in
inductive ResOk (E:Env P) (S H0:AH) (A0 A:NQ) (L:OL) (l:LV):List ResultVar->List Value->Prop
 |nil:ResOk E S H0 A0 A L l [] []
 |tmp {s:Nat} {v:Value} {rs:List ResultVar} {vs:VL} (h:look s l=some v) (k:ResOk E S H0 A0 A L l rs vs):ResOk E S H0 A0 A L l (.tmp s::rs) (v::vs)
 |cell {s:Nat} {ty:TY} {a:Addr} {v:Value} {rs:List ResultVar} {vs:VL} (h:look s l=some (.pointer (some a))) (hl:dC E S H0 A0 A L ty a v) (k:ResOk E S H0 A0 A L l rs vs):ResOk E S H0 A0 A L l (.cell s ty::rs) (v::vs)
theorem ResOk.ok{vs:VL}(h:ResOk E S H0 A0 A L l rs vs){H:AH}(hH:HS S H0 A0 A L H):bP E (fr n t l) H rs=some vs:=by
 induction h with
 |nil=>rfl
 |tmp h k ih=>simp only[bP,sO,xE,h,ih]
 |cell h hl k ih=>simp only[bP,sO,xE,h,hl H hH,ih]
theorem aAo{vs:VL}(hr:ResOk E S H0 A0 A L l rs vs){v:Value}(hv:bK vs=v)(h:∀H,HS S H0 A0 A L H->R v H):SK (vL E rs R) .ret (fr n t l) S A0 H0 A L:=fun H hH=>⟨.inr rfl,vs,hr.ok hH,by rw[hv];exact h H hH⟩
theorem yM{vs:VL}(hr:ResOk E S H0 A0 A L l rs vs){v:Value}(hv:bK vs=v)(h:∀H,HS S H0 A0 A L H->R v H):SK (vL E rs R) .normal (fr n t l) S A0 H0 A L:=fun H hH=>⟨.inl rfl,vs,hr.ok hH,by rw[hv];exact h H hH⟩
theorem aZ{r:ResultVar}{v:Value}(hr:ResOk E S H0 A0 A L l [r] [v])(h:∀H,HS S H0 A0 A L H->R v H):SK (vL E [r] R) .ret (fr n t l) S A0 H0 A L:=aAo hr rfl h
theorem xJ{r r':ResultVar}{v v':Value}(hr:ResOk E S H0 A0 A L l [r,r'] [v,v'])(h:∀H,HS S H0 A0 A L H->R (.tuple ⟨[v,v']⟩) H):SK (vL E [r,r'] R) .ret (fr n t l) S A0 H0 A L:=aAo hr rfl h
end
end Go.AM
namespace Go.AM
open Go.RowKit
variable [σ:Sg]
variable [γ:Gam]
section
variable {A:NQ}{H:AH}
omit [γ:Gam] in
structure RowD (A:NQ) (H:AH) (b:Nat) (ks:KL) (l:LX) (a:Option Addr) (cap:Nat):Prop where
 len:l.length<=140737488351232
 bytes:l.length*b<=140737488351232
 le:l.length<=cap
 nil:a=none->cap=0\/cap=1
 inA:∀p,a=some p->InA A p.block
 sz:∀p,a=some p->SzA H p ks.length
 at':∀(i:Nat),i<l.length->∃p xs c,a=some p/\InA A p.block/\l[i]?=some c/\aloads H (p.add (i*ks.length)) ks.length=some xs/\CellsA A H ks xs c
theorem CellA.rowD{b:Nat}{ks:KL}{x:Value}{c:CT}(h:CellA A H (.row b ks) x c):∃l a cap,c=.row l/\x=.slice a l.length cap/\RowD A H b ks l a cap:=by
 obtain⟨l,rfl,h1,h2,⟨rfl|rfl,rfl⟩|⟨a,cap,rfl,q1,q2,q3⟩⟩:=h.row
 ·exact⟨[],none,0,rfl,rfl,h1,h2,Nat.le_refl _,fun _=>.inl rfl,(fun p h=>by cases h),(fun p h=>by cases h),fun i hi=>absurd hi (Nat.not_lt_zero _)⟩
 ·exact⟨[],none,1,rfl,rfl,h1,h2,Nat.zero_le _,fun _=>.inr rfl,(fun p h=>by cases h),(fun p h=>by cases h),fun i hi=>absurd hi (Nat.not_lt_zero _)⟩
 ·refine⟨l,some a,cap,rfl,rfl,h1,h2,q1,(fun h=>by cases h),(fun p h=>by cases h;exact q2.1),(fun p h=>by cases h;exact q2.2),fun i hi=>?_⟩;obtain⟨xs,r1,r2⟩:=q3 i l[i] (List.getElem?_eq_getElem hi);exact⟨a,xs,l[i],rfl,q2.1,List.getElem?_eq_getElem hi,r1,r2⟩
theorem RowD.cell{b:Nat}{ks:KL}{l:LX}{a:Option Addr}{cap:Nat}(h:RowD A H b ks l a cap):CellA A H (.row b ks) (.slice a l.length cap) (.row l):=by
 simp only[CellA];refine⟨h.len,h.bytes,?_⟩;cases a with
 |none=>
  left;have:l.length=0:=by
   cases e:l.length with
   |zero=>rfl
   |succ n=>
    obtain⟨p,xs,c,h1,_⟩:=h.at' 0 (by omega);cases h1
  have hl:l=[]:=List.eq_nil_of_length_eq_zero this;rw[this];rcases h.nil rfl with e|e<;>rw[e]
  ·exact⟨.inl rfl,hl⟩
  ·exact⟨.inr rfl,hl⟩
 |some p=>
  right;refine⟨p,cap,rfl,h.le,⟨h.inA p rfl,h.sz p rfl⟩,fun i c hc=>?_⟩;obtain⟨p',xs,c',h1,h2,h3,h4,h5⟩:=h.at' i (lt_of_getElem? hc);cases h1;rw[h3] at hc;cases hc;exact⟨xs,h4,h5⟩
end
theorem cL{off n m:Nat}{x:Nat->Value}{cs:VL}(h:Nat.ble (off+n) m=true)(hc:cs.length=m):off+(cellsOf n x).length<=cs.length:=by
 rw[aO,hc];exact QL h
section
variable {A A':NQ}{H H':AH}
end
section
variable {A:NQ}{H:AH}
theorem aLd{N sz:Nat}{cs:VL}{ex:Bool}(hg:H.tr.get N=some (.cells cs sz ex))(hA:A N){b:Nat}{ks:KL}(hk:ks.length=sz){l:LX}{m cap:Nat}(hm:m=l.length)(qe:l.length*sz<=cs.length)
 (h:∀(i:Nat) c,l[i]?=some c->CellsA A H ks ((cs.drop (i*sz)).take sz) c)(rg:l.length<=cap)(h1:l.length<=140737488351232)(h2:l.length*b<=140737488351232):CellA A H (.row b ks) (.slice (some ⟨2*N+1,0,none⟩) m cap) (.row l):=by
 subst hm;simp only[CellA];refine⟨h1,h2,.inr ⟨_,cap,rfl,rg,⟨InA.own hA,fun _=>.inl ⟨cs,ex,by rw[eJ,hk];exact hg⟩⟩,fun i c hc=>?_⟩⟩;have hi:=lt_of_getElem? hc;refine⟨_,?_,h i c hc⟩;rw[lO _ rfl,hk,iB hg]
 ·simp only[Nat.zero_add]
 ·simp only[Nat.zero_add];have:(i+1)*sz<=l.length*sz:=Nat.mul_le_mul_right _ hi;rw[Nat.add_mul,Nat.one_mul] at this;omega
end
omit [γ:Gam] in
inductive OpO (l:LV):Option Operand->Option Value->Prop
 |none:OpO l none none
 |some {x:Operand} {v:Value} (h:opv l x=some v):OpO l (some x) (some v)
theorem OpO.ok{n:Nat}{t:Tr Value}{l:LV}{x:Option Operand}{v:Option Value}(h:OpO l x v):x.map (aN (fr n t l))=v:=by
 cases h with
 |none=>rfl
 |some h=>rw[Option.map_some,aI h]
theorem aHa{len cap a b:Nat}{k k':IntKind}(h1:a<=b)(h2:b<=cap):bC len cap (some (.int k (a:Int))) (some (.int k' (b:Int))) none=some (a,b,cap):=by
 have e1:bO none cap cap=some cap:=rfl;have e2:bO (some (Value.int k' (b:Int))) 0 cap=some b:=by simp only[bO];rw[if_pos ⟨by omega,by omega⟩];simp
 have e3:bO (some (Value.int k (a:Int))) 0 b=some a:=by simp only[bO];rw[if_pos ⟨by omega,by omega⟩];simp
 simp only[bC,e1,e2,e3]
theorem oP{len cap b:Nat}{k':IntKind}(h2:b<=cap):bC len cap none (some (.int k' (b:Int))) none=some (0,b,cap):=by
 have e1:bO none cap cap=some cap:=rfl;have e2:bO (some (Value.int k' (b:Int))) 0 cap=some b:=by simp only[bO];rw[if_pos ⟨by omega,by omega⟩];simp
 have e3:bO none 0 b=some 0:=rfl;simp only[bC,e1,e2,e3]
section
variable {P:PG}{E:Env P}{G:RG}{i n d:Nat}{r:OL2}{Q:FQ}{t:Tr Value}{l:LV}{S H0:AH}{A0 A:NQ}{L L':OL}{v u:Value}
 {ty:TY}{ps:String}{af:Array Edge}{gd:OB}{x y z:Operand}
theorem aDm{ta:TY}{lo hi:Option Operand}{vl vh:Option Value}{s:BA}{p q m:Nat}(hw:gok G.ops l gd=true)(qd:Nat.ble (d+1) n=true)(hx:opv l x=some (.string s))(hu:E.und ta=some .string)(h1:OpO l lo vl)(h2:OpO l hi vh)
 (hb:bC s.data.toList.length s.data.toList.length vl vh none=some (p,q,m))
 (h:SO E G (i+1) r Q (fr n t ((d,.string ⟨⟨(s.data.toList.take q).drop p⟩⟩)::l)) H0 A L):SO E G i (⟨some d,.slice ta x lo hi none,ty,ps,af,gd⟩::r) Q (fr n t l) H0 A L:=
 aOm hw qd hx hu rfl (by rw[h1.ok,h2.ok];exact hb) h
theorem aNw{vl vh:Option Value}{m:Nat}(h:bC 0 1 vl vh none=some (0,0,m)):∃b,bC 0 0 vl vh none=some b:=by
 unfold bC at h ⊢;simp only[show bO none 1 1=some 1 from rfl,show bO none 0 0=some 0 from rfl] at h ⊢;cases vh with
 |none=>
  simp only at h ⊢;split at h
  ·exact⟨_,rfl⟩
  ·cases h
 |some v=>
  simp only at h ⊢;split at h
  ·rename_i q hq;split at h
   ·rename_i q2 rp;cases h;have hv:bO (some v) 0 0=some 0:=by
     unfold bO at hq ⊢;split at hq
     ·rfl
     ·rename_i k i e;cases e;split at hq
      ·rename_i hc;have:i.toNat=0:=by injection hq
       have h0:i=0:=by omega
       subst h0;rfl
      ·cases hq
     ·cases hq
    rw[hv];simp only[rp];exact⟨_,rfl⟩
   ·cases h
  ·cases h
theorem bAf{ta e:TY}{lo hi mx:Option Operand}{vl vh vm:Option Value}{ii:TI}{a:Option Addr}{b cap q m:Nat}{ks:KL}{rw':LX}(hw:gok G.ops l gd=true)(qd:Nat.ble (d+1) n=true)(hx:opv l x=some (.slice a rw'.length cap))(hu:E.und ta=some (.slice e))(ql:E.inf e=some ii)
 (h1:OpO l lo vl)(h2:OpO l hi vh)(h3:OpO l mx vm)(hr:RowD (qA G A) (qH G H0) b ks rw' a cap)(hk:ks.length=ii.size)(ng:ii.size≠0)(hb:bC rw'.length cap vl vh vm=some (0,q,m))(hq:q<=rw'.length)(iy:q<=m)(iz:vm=none)
 (h:∀a',RowD (qA G A) (qH G H0) b ks (rw'.take q) a' (m)->SO E G (i+1) r Q (fr n t ((d,.slice a' q m)::l)) H0 A L):SO E G i (⟨some d,.slice ta x lo hi mx,ty,ps,af,gd⟩::r) Q (fr n t l) H0 A L:=by
 have qe:(rw'.take q).length=q:=by rw[List.length_take];omega
 have row:∀p,a=some p->RowD (qA G A) (qH G H0) b ks (rw'.take q) (some p) m:=by
  intro p hp;refine⟨by rw[qe];have:=hr.len;omega,by rw[qe];have h4:=Nat.mul_le_mul_right b hq;have:=hr.bytes;omega,by rw[qe];exact iy,(fun h=>by cases h),(fun p' h'=>by cases h';exact hr.inA p hp),(fun p' h'=>by cases h';exact hr.sz p hp),fun j hj=>?_⟩;rw[qe] at hj;obtain⟨p2,xs,c,e1,e2,e3,e4,e5⟩:=hr.at' j (by omega);rw[hp] at e1;cases e1;exact⟨p,xs,c,rfl,e2,by rw[List.getElem?_take,if_pos hj];exact e3,e4,e5⟩
 cases a with
 |none=>
  subst iz;have ym:rw'.length=0\/rw'.length=1:=by have:=hr.le;rcases hr.nil rfl with e|e<;>omega
  have ym:rw'.length=0:=by
   rcases Nat.eq_zero_or_pos rw'.length with e|e
   ·exact e
   ·obtain⟨p,_,_,e1,_⟩:=hr.at' 0 e;cases e1
  have vu:m=cap:=by
   unfold bC at hb;simp only[show bO none cap cap=some cap from rfl] at hb;split at hb
   ·split at hb
    ·cases hb;rfl
    ·cases hb
   ·cases hb
  subst vu;have cd:q=0:=by omega
  subst cd;rw[ym] at hx hb;rcases hr.nil rfl with e|e
  ·subst e;exact aAv hw qd hx hu ql (by rw[h1.ok,h2.ok,h3.ok];exact hb) (h none ⟨by simp,by simp,by simp,fun _=>.inl rfl,(fun p h=>by cases h),(fun p h=>by cases h),fun j hj=>by simp at hj⟩)
  ·subst e;obtain⟨b',xx⟩:=aNw hb;exact aAp hw qd hx hu ql (by rw[h1.ok,h2.ok,h3.ok];exact xx) (h none ⟨by simp,by simp,by simp,fun _=>.inr rfl,(fun p h=>by cases h),(fun p h=>by cases h),fun j hj=>by simp at hj⟩)
 |some p=>
  have e0:p.add (0*ii.size)=p:=by unfold Addr.add;simp
  rcases Nat.mod_two_eq_zero_or_one p.block with qz|ce
  ·refine aAz hw qd hx hu ql hr.le qz (by rw[h1.ok,h2.ok,h3.ok];exact hb) ?_;rw[e0];simp only[ite_self,Nat.sub_zero];exact h _ (row p rfl)
  ·have hget:=hr.sz p rfl;rw[hk] at hget;have cf:qA G A (p.block / 2):=by
    rcases hr.inA p rfl with h'|h'
    ·omega
    ·exact h'
   refine aAd hw qd hx hu ql hr.le ce cf hget (by rw[h1.ok,h2.ok,h3.ok];exact hb) ?_;rw[e0];simp only[Nat.sub_zero];exact h _ (row p rfl)
end
end Go.AM
namespace Go.AM
open Go.RowKit
variable [σ:Sg]
theorem aNg [Pins]{P:PG}(E:Env P){φ:PL}{H H':AH}{w:World}(R:Rel φ H w){ρ ρ':Operand->Value}(hρ:∀x,VR φ (ρ x) (ρ' x)){o:Oper}{v:Value}(hq:bX E o.op=true)(h:aop E ρ o.op H=some (v,H')):
 ∃v',VR φ v v'/\(execOp ρ' o).run P w=.ok (.value v') w:=by
 have here:∀{v v':Value},VR φ v v'->(execOp ρ' o).run P w=.ok (.value v') w->∃v',VR φ v v'/\(execOp ρ' o).run P w=.ok (.value v') w:=fun hv hr=>⟨_,hv,hr⟩;unfold aop at h;split at h<;>rename_i qi<;>first|(rw[qi] at hq;simp only[bX] at hq;cases hq;done)|(cases h;done)|rw[qi] at hq
 ·cases h;exact here (hρ _) (by simp[execOp,qi])
 ·cases h;exact here (hρ _) (by simp[execOp,qi])
 ·rename_i c a b;split at h
  ·rename_i hc;cases h;have:=hρ c;rw[hc] at this;generalize zj:ρ' c=cc at this;cases this;exact here (hρ _) (by simp[execOp,qi,zj,asBool])
  ·rename_i hc;cases h;have:=hρ c;rw[hc] at this;generalize zj:ρ' c=cc at this;cases this;exact here (hρ _) (by simp[execOp,qi,zj,asBool])
  ·cases h
 ·rename_i t ps;obtain⟨hh,rfl⟩:=aE h
  replace h:=hh
  obtain⟨v',h1,h2⟩:=zS E (parts':=ps.toList.map fun x=>(x.1,ρ' x.2)) (by simp) (wI hρ ps.toList) h w;refine here h1 ?_;have:(ps.map fun(x:Nat×Operand)=>(x.1,ρ' x.2))=⟨ps.toList.map fun x=>(x.1,ρ' x.2)⟩:=by rw[<-Array.toList_inj];simp
  simp only[execOp,qi,Sem.run_bind,this,h2,Result.andThen_ok,Sem.run_pure]
 ·rename_i t x;split at h
  ·rename_i a ha;obtain⟨hh,rfl⟩:=aE h
   replace h:=hh
   have:=hρ x;rw[ha] at this;generalize zj:ρ' x=cc at this;cases this with
   |ptr hA=>
    obtain⟨v',h1,h2⟩:=oC E R hA h;exact here h2 (by simp[execOp,qi,zj,Instr.loadAt,Instr.sureAddr,h1])
  ·cases h
 ·rename_i x;split at h
  ·rename_i a ha;cases h;have:=hρ x;rw[ha] at this;generalize zj:ρ' x=cc at this;cases this with
   |ptr hA=>exact here (.ptr hA) (by simp[execOp,qi,zj])
  ·rename_i g a b ha;cases h;have:=hρ x;rw[ha] at this;generalize zj:ρ' x=cc at this;cases this with
   |func fn hy q1 q2 q3 q4=>exact here (.func _ hy q1 q2 q3 q4) (by simp[execOp,qi,zj])
  ·cases h
 ·rename_i op t x y yt;obtain⟨hh,rfl⟩:=aE h
  replace h:=hh
  obtain⟨v',h1,h2⟩:=aKv E (hρ x) (hρ y) h x y w;refine here h1 ?_;simp only[execOp,qi];rw[Sem.run_bind,h2];rfl
 ·rename_i op t x;obtain⟨hh,rfl⟩:=aE h
  replace h:=hh
  obtain⟨v',h1,h2⟩:=aLk E (hρ x) h w;exact here h1 (by simp[execOp,qi,h2])
 ·rename_i s d x;simp only[bX] at hq;split at hq
  ·rename_i kk hd;have hx:=hρ x;unfold kK at h;split at h
   ·rename_i dd k k2 n hs qg xn;cases h;rw[xn] at hx;generalize zj:ρ' x=cc at hx;cases hx;refine here (.int _ _) ?_;simp only[execOp,qi,zj];cases dd<;>simp[convert,aG E hs,aG E qg,Conv.intToInt]
   ·rename_i qg _;rw[hd] at qg;cases qg
   ·rename_i qg _;rw[hd] at qg;cases qg
   ·rename_i qg _;rw[hd] at qg;cases qg
   ·rename_i qg _;rw[hd] at qg;cases qg
   ·first|(rename_i qg _;rw[hd] at qg;cases qg;done)|(rename_i qg;rw[hd] at qg;cases qg;done)
   ·first|(rename_i qg _;rw[hd] at qg;cases qg;done)|(rename_i qg;rw[hd] at qg;cases qg;done)
   ·cases h
  ·rename_i hd;have hx:=hρ x;have back:∀{v':Value},VR φ v v'->(convert s d (ρ' x)).run P w=.ok v' w->∃v',VR φ v v'/\(execOp ρ' o).run P w=.ok (.value v') w:=fun hv hr=>here hv (by simp only[execOp,qi];rw[Sem.run_bind,hr];rfl);generalize ρ x=x0 at h hx;generalize ρ' x=x1 at hx back;unfold kK at h;split at h
   ·first|(rename_i qg;rw[hd] at qg;cases qg;done)|(rename_i qg _;rw[hd] at qg;cases qg;done)
   ·rename_i dd s2 hs qg;cases h;cases hx;refine back (.string _) ?_;cases dd<;>simp[convert,aG E hs,aG E hd]
   ·first|(rename_i qg;rw[hd] at qg;cases qg;done)|(rename_i qg _;rw[hd] at qg;cases qg;done)
   ·rename_i e base l c hs qg;split at h
    ·rename_i he;split at h
     ·cases uy:Nat.beq c 1 with
      |true=>rw[uy] at h;cases h
      |false=>
      rw[uy,QF] at h;cases h;cases hx with
      |emp _=>cases uy
      |snil _ _=>
      refine back (.string _) ?_;rw[run_convert_bytes_string w s d e _ _ _ (E.und_ok _ _ hs) (E.und_ok _ _ he) (E.und_ok _ _ hd)];rfl
     ·rename_i a;split at h
      ·rename_i cs yb;split at h
       ·rename_i bs oy;cases h;cases hx with
        | @slc _ a' _ _ c' wu=>
          have hA:l=0\/ARel φ a a':=by
           rcases wu with⟨_,_,hA⟩|⟨_,h1,h2,h3|⟨hA,_⟩⟩
           ·exact .inr hA
           ·left;omega
           ·exact .inr hA
          obtain⟨l',h1,h2,h3⟩:=lJ R hA yb;obtain⟨ns,rfl,rfl⟩:=pH h1 oy;have qp:=run_loadCells_list (P:=P) w a' _ h3;rw[h2] at qp;refine back (.string _) ?_;rw[run_convert_bytes_string w s d e _ _ _ (E.und_ok _ _ hs) (E.und_ok _ _ he) (E.und_ok _ _ hd),run_bytesToString w a' l c' ns qp,yR]
          first|rfl|simp
       ·cases h
      ·cases h
    ·cases h
   ·first|(rename_i qg;rw[hd] at qg;cases qg;done)|(rename_i qg _;rw[hd] at qg;cases qg;done)
   ·first|(rename_i qg _;rw[hd] at qg;cases qg;done)|(rename_i qg;rw[hd] at qg;cases qg;done)
   ·first|(rename_i qg _;rw[hd] at qg;cases qg;done)|(rename_i qg;rw[hd] at qg;cases qg;done)
   ·cases h
  ·cases hq
 ·rename_i fn a b;obtain⟨hy,h⟩:fnY fn=false/\_:=by
   cases e:fnY fn with
   |true=>rw[e] at h;cases h
   |false=>rw[e,QF] at h;exact⟨rfl,h⟩
  cases h;have va:=gX hρ a.toList;have vb:=gX hρ b.toList;refine here (.func fn hy va.1 vb.1 va.2 vb.2) ?_;have e1:a.map ρ'=⟨a.toList.map ρ'⟩:=by rw[<-Array.toList_inj];simp
  have e2:b.map ρ'=⟨b.toList.map ρ'⟩:=by rw[<-Array.toList_inj];simp
  simp only[execOp,qi,Instr.makeFunc,e1,e2,Sem.run_bind,Sem.run_pure,Result.andThen_ok]
 ·rename_i t x lo hi mx;obtain⟨hh,rfl⟩:=aE h
  replace h:=hh
  obtain⟨v',h1,h2⟩:=zP E R (hρ x) (tS hρ lo) (tS hρ hi) (tS hρ mx) h;exact here h1 (by simp[execOp,qi,h2])
 ·rename_i s x f;obtain⟨hh,rfl⟩:=aE h
  replace h:=hh
  obtain⟨v',h1,h2⟩:=pO E (hρ x) h w;exact here h1 (by simp[execOp,qi,h2])
 ·rename_i s x f;obtain⟨hh,rfl⟩:=aE h
  replace h:=hh
  obtain⟨v',h1,h2⟩:=aAm E (hρ x) h w;exact here h1 (by simp[execOp,qi,h2])
 ·rename_i t x ix;obtain⟨hh,rfl⟩:=aE h
  replace h:=hh
  obtain⟨v',h1,h2⟩:=pV E (hρ x) (hρ ix) h w;exact here h1 (by simp[execOp,qi,h2])
 ·rename_i t x ix;obtain⟨hh,rfl⟩:=aE h
  replace h:=hh
  obtain⟨v',h1,h2⟩:=aBa E (hρ x) (hρ ix) h w;exact here h1 (by simp[execOp,qi,h2])
 ·rename_i t x ix ok;obtain⟨hh,rfl⟩:=aE h
  replace h:=hh
  obtain⟨v',h1,h2⟩:=vB E R (hρ x) (hρ ix) h;exact here h1 (by simp[execOp,qi,h2])
 ·rename_i x i;obtain⟨hh,rfl⟩:=aE h
  replace h:=hh
  obtain⟨v',h1,h2⟩:=uW (P:=P) (hρ x) h w;exact here h1 (by simp[execOp,qi,h2])
 ·rename_i c;simp only[bX] at hq;split at h<;>rename_i yi<;>first|(rw[yi] at hq;simp only at hq;cases hq;done)|(cases h;done)|skip
  ·split at h
   ·rename_i x t qh yp;obtain⟨hh,rfl⟩:=aE h
    replace h:=hh
    obtain⟨v',h1,h2⟩:=aLb E R (ty:=o.type) (hρ x) h;have e1:c.args= #[x]:=by rw[<-Array.toList_inj,qh]
    have e2:c.argTypes= #[t]:=by rw[<-Array.toList_inj,yp]
    refine here h1 ?_;simp[execOp,qi,resolve,yi,invoke,builtin,e1,e2,h2]
   ·cases h
  ·split at h
   ·rename_i x t qh yp;obtain⟨hh,rfl⟩:=aE h
    replace h:=hh
    obtain⟨v',h1,h2⟩:=aKz E R (ty:=o.type) (hρ x) h;have e1:c.args= #[x]:=by rw[<-Array.toList_inj,qh]
    have e2:c.argTypes= #[t]:=by rw[<-Array.toList_inj,yp]
    refine here h1 ?_;simp[execOp,qi,resolve,yi,invoke,builtin,e1,e2,h2]
   ·cases h
  ·split at h
   ·rename_i x r qh;obtain⟨hh,rfl⟩:=aE h
    replace h:=hh
    obtain⟨v',h1,h2⟩:=vY (P:=P) false (r.map ρ) (r.map ρ') _ _ v (hρ x) (gX hρ r) h w;refine here h1 ?_;simp only[Bool.false_eq_true,if_false] at h2;simp[execOp,qi,resolve,yi,invoke,builtin,Builtin.min_,qh,h2]
   ·cases h
  ·split at h
   ·rename_i x r qh;obtain⟨hh,rfl⟩:=aE h
    replace h:=hh
    obtain⟨v',h1,h2⟩:=vY (P:=P) true (r.map ρ) (r.map ρ') _ _ v (hρ x) (gX hρ r) h w;refine here h1 ?_;simp only[if_true] at h2;simp[execOp,qi,resolve,yi,invoke,builtin,Builtin.max_,qh,h2]
   ·cases h
end Go.AM
