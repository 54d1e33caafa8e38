/-
  An abstract machine that runs a program of the given form, and its soundness, part 7.
-/
import Derived.Test.YtfcmggoiphphnaaGreatDoorAb6
import Derived.LaidByTextLater
import Derived.JoinedOf
import Derived.Laws.BitsLemmas
import Derived.Lib.ItoaMem
set_option linter.unusedVariables false
set_option linter.unusedSimpArgs false
set_option linter.unusedSectionVars false
noncomputable section
namespace Go.AM
variable [σ:Sg]
theorem aJu{α:Type}(l:List α)(a c:Nat):l.drop a=(l.drop a).take c++l.drop (a+c):=by
 rw[<-List.drop_drop];exact(List.take_append_drop c (l.drop a)).symm
theorem iN{α β:Type}(f:List α->List β)(hn:f []=[])(ha:∀a b,f (a++b)=f a++f b)(l:List α)(c:Nat):∀(Ls:List (List β)) (a:Nat),(∀i L,Ls[i]?=some L->f ((l.drop (a+i*c)).take c)=L)->l.length<=a+Ls.length*c->f (l.drop a)=Ls.flatten
 |[],a,_,hl=>by
  rw[List.drop_eq_nil_of_le (by simpa using hl),hn];rfl
 |L::Ls,a,h,hl=>by
  rw[aJu l a c,ha,List.flatten_cons];have h0:=h 0 L rfl;rw[Nat.zero_mul,Nat.add_zero] at h0;rw[h0,iN f hn ha l c Ls (a+c) (fun i M hi=>by
   have:=h (i+1) M (by simpa using hi)
   rwa [show a+(i+1)*c=a+c+i*c by rw[Nat.add_mul];omega] at this) (by rw[List.length_cons,Nat.add_mul] at hl;omega)]
section
variable {P P':PG}
def rZ(F:Func):Bool:=F.body.isNone
theorem aZk(h:P.funcs.toList.filter rZ=P'.funcs.toList)(w:String):P.worded w=P'.worded w:=by
 unfold Program.worded;rw[<-Array.any_toList,<-Array.any_toList,<-h,List.any_filter];congr 1;funext F;unfold rZ;cases F.body.isNone<;>rfl
theorem aHq(h:P.funcs.toList.filter rZ=P'.funcs.toList):P.doorBytes=P'.doorBytes:=by
 unfold Program.doorBytes;rw[<-h,List.filterMap_filter];congr 2;funext F;unfold rZ;cases F.body.isNone<;>rfl
theorem wK(h:P.doorBytes=P'.doorBytes)(v:String):P.kindBase v=P'.kindBase v:=by
 unfold Program.kindBase Program.wordedOn Program.tailsOn;rw[h]
theorem aKq(h:P.doorBytes=P'.doorBytes)(v:String):P.kindOfLater v=P'.kindOfLater v:=by
 unfold Program.kindOfLater Program.wordedOn Program.tailsOn;rw[wK h,h]
theorem yE{p:Nat->Bool}{i:Nat}:∀(m:Nat),i<m->(∀j,j<m->p j=decide (j=i))->(List.range m).filter p=[i]
 |0,h,_=>by omega
 |m+1,h,hp=>by
  rw[List.range_succ,List.filter_append];by_cases e:i=m
  ·subst e;have h1:(List.range i).filter p=[]:=by
    rw[List.filter_eq_nil_iff];intro j hj;rw[hp j (by have:=List.mem_range.1 hj;omega)];have:=List.mem_range.1 hj;simp;omega
   rw[h1,List.nil_append,List.filter_cons,hp i (by omega)];simp
  ·rw[yE m (by omega) fun j hj=>hp j (by omega),List.filter_cons,hp m (by omega)];simp[Ne.symm e]
theorem uC{nm:List String}(h:P.funcs.toList.map (fun F:Func=>F.name)=nm){n:String}{i:Nat}(hi:nm[i]?=some n)(h1:(nm.take i).all (fun x=>!(x==n))=true)(h2:(nm.drop (i+1)).all (fun x=>!(x==n))=true):P.funcNamed n=some i:=by
 have qe:nm.length=P.funcs.size:=by rw[<-h,List.length_map,Array.length_toList]
 have qm:i<nm.length:=by
  obtain⟨q,_⟩:=List.getElem?_eq_some_iff.1 hi;exact q
 have ve:∀j,(P.funcs[j]?).map (fun F:Func=>F.name)=nm[j]?:=fun j=>by rw[<-h,List.getElem?_map,Array.getElem?_toList]
 have hp:∀j,j<P.funcs.size->((P.funcs[j]?).any (·.name==n))=decide (j=i):=by
  intro j hj;have hx:nm[j]?=some (nm[j]'(by omega)):=List.getElem?_eq_getElem (by omega);generalize nm[j]'(by omega)=x at hx;have hq:=ve j;rw[hx] at hq;cases hF:P.funcs[j]? with
  |none=>rw[hF] at hq;cases hq
  |some F=>
   rw[hF] at hq;have hq:F.name=x:=Option.some.inj hq;simp only[Option.any_some,hq];by_cases e:j=i
   ·subst e;rw[hi] at hx;cases hx;simp
   ·have qr:(x==n)=false:=by
     rcases Nat.lt_or_ge j i with hl|hl
     ·rw[List.all_eq_true] at h1;have:=h1 x (List.mem_of_getElem? (i:=j) (by rw[List.getElem?_take,if_pos hl];exact hx));simpa using this
     ·rw[List.all_eq_true] at h2;have:=h2 x (List.mem_of_getElem? (i:=j - (i+1)) (by rw[List.getElem?_drop,show i+1+(j - (i+1))=j by omega];exact hx));simpa using this
    rw[qr];simp[e]
 unfold Program.funcNamed;rw[yE P.funcs.size (by omega) hp]
theorem yS{α:Type}{p:α->Bool}{l:List α}{i:Nat}{x:α}(hi:l[i]?=some x)(hp:p x=true)(h:l.filter p=[x]):(∀y∈l.take i,p y=false)/\∀y∈l.drop (i+1),p y=false:=by
 obtain⟨qm,hx⟩:=List.getElem?_eq_some_iff.1 hi;have e:l=l.take i++x::l.drop (i+1):=by rw[<-hx,<-List.drop_eq_getElem_cons qm,List.take_append_drop]
 rw[e,List.filter_append,List.filter_cons,if_pos hp] at h;have hl:=congrArg List.length h;simp only[List.length_append,List.length_cons,List.length_nil] at hl;have h1:=List.eq_nil_of_length_eq_zero (l:=(l.take i).filter p) (by omega);have h2:=List.eq_nil_of_length_eq_zero (l:=(l.drop (i+1)).filter p) (by omega);rw[List.filter_eq_nil_iff] at h1 h2;exact⟨fun y hy=>by simpa using h1 y hy,fun y hy=>by simpa using h2 y hy⟩
theorem kB{n:String}{i:Nat}{F:Func}(hF:P.funcs[i]?=some F)(hn:(F.name==n)=true)(h:P.funcs.toList.filter (fun F:Func=>F.name==n)=[F]):P.funcNamed n=some i:=by
 have nj:P.funcs.toList[i]?=some F:=by rw[Array.getElem?_toList];exact hF
 obtain⟨h1,h2⟩:=yS nj hn h;refine uC (nm:=P.funcs.toList.map fun F:Func=>F.name) rfl (by rw[List.getElem?_map,nj,Option.map_some,eq_of_beq hn]) ?_ ?_
 ·rw[<-List.map_take,List.all_map,List.all_eq_true];intro y hy;simp only[Function.comp,h1 y hy,Bool.not_false]
 ·rw[<-List.map_drop,List.all_map,List.all_eq_true];intro y hy;simp only[Function.comp,h2 y hy,Bool.not_false]
def aFh{α:Type}:List α->Nat->Tr α->Tr α
 |[],_,t=>t
 |x::l,i,t=>aFh l (i+1) (t.set i (some x))
theorem aEw{α:Type}:∀(l:List α) (i:Nat) (t:Tr α) (j:Nat),(∀k,i<=k->t.get k=none)->(aFh l i t).get j=if i<=j then l[j - i]? else t.get j
 |[],i,t,j,h=>by
  simp only[aFh];split
  ·rename_i hj;rw[h j hj];simp
  ·rfl
 |x::l,i,t,j,h=>by
  simp only[aFh];rw[aEw l (i+1) _ j (fun k hk=>by rw[Tr.get_set,if_neg (by omega)];exact h k (by omega)),Tr.get_set];by_cases e:j=i
  ·subst e;rw[if_neg (by omega),if_pos rfl,if_pos (Nat.le_refl _),Nat.sub_self];rfl
  ·rw[if_neg e];by_cases q:i+1<=j
   ·rw[if_pos q,if_pos (by omega),show j - i=(j - (i+1))+1 by omega,List.getElem?_cons_succ]
   ·rw[if_neg q,if_neg (by omega)]
theorem bBt{α:Type}(l:List α)(j:Nat):(aFh l 0 .nil).get j=l[j]?:=by
 rw[aEw l 0 .nil j (fun k _=>Tr.get_nil k),if_pos (Nat.zero_le _),Nat.sub_zero]
def clT(T:Tr NL):Nat->List Nat->Tr Unit->List Nat->List Nat
 |0,_,_,acc=>acc.reverse
 |_+1,[],_,acc=>acc.reverse
 |n+1,f::todo,s,acc=>match s.get f with
  |some _=>clT T n todo s acc
  |none=>clT T n ((T.get f).getD []++todo) (s.set f (some ())) (f::acc)
theorem bEp{T:List NL}(hT:P.funcs.toList.map P.leadsTo=T):∀(n:Nat) (todo:NL) (s:Tr Unit) (acc:NL),(∀x,acc.contains x=(s.get x).isSome)->clT (aFh T 0 .nil) n todo s acc=P.closureVia n todo acc:=by
 have ve:∀f,(P.funcs[f]?).elim [] P.leadsTo=((aFh T 0 .nil).get f).getD []:=fun f=>by
  rw[bBt,<-hT,List.getElem?_map,Array.getElem?_toList];cases P.funcs[f]?<;>rfl
 intro n
 induction n with
 |zero=>intro todo s acc _;simp only[clT,Program.closureVia]
 |succ n ih=>
  intro todo s acc hs;cases todo with
  |nil=>simp only[clT,Program.closureVia]
  |cons f todo=>
   simp only[clT,Program.closureVia];cases hf:s.get f with
   |some u=>rw[hs f,hf,Option.isSome_some,if_pos rfl];exact ih todo s acc hs
   |none=>
    rw[hs f,hf,Option.isSome_none,if_neg (by decide),ve f];refine ih _ _ _ fun x=>?_;rw[Tr.get_set,List.contains_cons,hs x];by_cases e:x=f
    ·subst e;simp
    ·rw[if_neg e];simp[e]
theorem yN{T:List NL}(hT:P.funcs.toList.map P.leadsTo=T)(f:Nat){fuel:Nat}(hf:1+(T.map fun l=>l.length+1).sum=fuel){C:NL}(hC:clT (aFh T 0 .nil) fuel [f] .nil []=C):P.closure f=C:=by
 have hs:∀x:Nat,([]:NL).contains x=((Tr.nil:Tr Unit).get x).isSome:=fun x=>by rw[Tr.get_nil];rfl
 have e:(P.funcs.toList.map fun g=>(P.leadsTo g).length+1)=T.map fun l=>l.length+1:=by rw[<-hT,List.map_map];rfl
 rw[<-hC,bEp hT fuel [f] .nil [] hs,Program.closure,e,hf]
end
end Go.AM
namespace Go.AM
open Go.RowKit
variable [σ:Sg]
variable [γ:Gam]
omit [γ:Gam] in
inductive Takes:OL->OL->OL->Prop
 |nil {L:OL}:Takes [] L L
 |cons {N:Nat} {o:AObj} {r L L1 L2:OL} (h:Rem N o L L1) (k:Takes r L1 L2):Takes ((N,o)::r) L L2
theorem Takes.sub{T L L0:OL}(h:Takes T L L0):L0.Sublist L:=by
 induction h with
 |nil=>exact List.Sublist.refl _
 |cons h _ ih=>exact ih.trans h.sub
theorem Takes.mem{T L L0:OL}(h:Takes T L L0):∀p∈T,p∈L:=by
 induction h with
 |nil=>intro p hp;cases hp
 |cons h _ ih=>
  intro p hp;rcases List.mem_cons.1 hp with rfl|hp
  ·exact h.mem
  ·exact h.sub.subset (ih p hp)
omit [γ:Gam] in
def ids(L:OL)(j:Nat):Prop:=∃p∈L,p.1=j
theorem Takes.ne{T L L0:OL}(h:Takes T L L0):L.Pairwise (fun p q=>p.1≠q.1)->∀p∈L0,¬ids T p.1:=by
 induction h with
 |nil=>rintro _ p _ ⟨q,hq,_⟩;cases hq
 | @cons N o r L L1 L2 h k ih=>
   rintro hd p hp ⟨q,hq,e⟩;rcases List.mem_cons.1 hq with rfl|hq
   ·exact h.ne hd p (k.sub.subset hp) e.symm
   ·exact ih (hd.sublist h.sub) p hp ⟨q,hq,e⟩
omit [γ:Gam] in
structure Turned (Li:OL) (S H:AH) (Lo:OL):Prop where
 w0:H.w0=S.w0
 get:∀j,j<S.nx->¬ids Li j->H.tr.get j=S.tr.get j
 lt:∀j,j<S.nx->¬ids Li j->j<H.nx
 out:∀p∈Lo,H.tr.get p.1=some p.2/\p.1<H.nx/\(ids Li p.1\/S.nx<=p.1)
 dist:Lo.Pairwise (fun p q=>p.1≠q.1)
 sv:∃p,p∈Lo
omit [γ:Gam] in
def frs(A:NQ)(H H':AH)(Lo:OL):NQ:=fun j=>A j\/(H.nx<=j/\j<H'.nx/\¬ids Lo j)
omit [γ:Gam] in
def bCz(S:AH):AH:={S with nx:=0}
omit [γ:Gam] in
def aTo(S:AH)(Li:OL):NQ:=fun j=>j<S.nx/\¬ids Li j
section
variable {P:PG}{E:Env P}{G:RG}{i n d:Nat}{r:OL2}{rs:List ResultVar}{R:Value->AH->Prop}{Q:FQ}{t:Tr Value}{l:LV}{S H H0 H1:AH}{A0 A A1:NQ}{L L' Li Lo:OL}{v:Value}
 {ty:TY}{ps:String}{af:Array Edge}{gd:OB}
theorem mH{g:FuncId}{c:Code}{args:VL}(hg:E.fn g=some ⟨n,rs,c⟩)(zy:∀p∈Li,S.tr.get p.1=some p.2/\p.1<S.nx)(hd:Li.Pairwise (fun p q=>p.1≠q.1))(hf:rC args n=fr n .nil l)
 (h:SX (γ:=allG) P c (uE E rs R) (fr n .nil l) (bCz S) (aTo S Li) S (aTo S Li) Li):XCall P g args S R:=
 XCall.body E hg (by
  rw[hf];exact h S ⟨⟨rfl,Nat.zero_le _,fun i hi=>absurd hi (Nat.not_lt_zero _)⟩,fun _ _=>rfl,rfl,fun _ h=>.inl h,fun _ h=>h.1,fun p hp=>⟨(zy p hp).1,Nat.zero_le _,(zy p hp).2,fun h=>h.2 ⟨p,hp,rfl⟩⟩,hd⟩)
theorem HS.turned(h:HS (bCz S) H1 A0 A1 Lo H)(g:Gr (aTo S Li) S A1 H1)(sv:∃p,p∈Lo):Turned Li S H Lo:=by
 have key:∀j,j<S.nx->¬ids Li j->H.tr.get j=S.tr.get j/\j<H.nx:=fun j h1 h2=>by
  have ha:=g.sub j ⟨h1,h2⟩;exact⟨(h.base j ha).trans (g.get j ⟨h1,h2⟩),h.lt j ha⟩
 refine⟨h.kept.w0,fun j h1 h2=>(key j h1 h2).1,fun j h1 h2=>(key j h1 h2).2,fun p hp=>?_,h.dist,sv⟩;obtain⟨q1,_,q3,q4⟩:=h.own p hp;refine⟨q1,q3,?_⟩;by_cases e:ids Li p.1
 ·exact .inl e
 ·rcases Nat.lt_or_ge p.1 S.nx with hl|hl
  ·exact absurd (g.sub _ ⟨hl,e⟩) q4
  ·exact .inr hl
theorem HS.after{Sc Hc:AH}{L0:OL}(hH:HS Sc H0 A0 A L H)(ht:Takes Li L L0)(k:Turned Li H H1 Lo):HS Sc H1 A0 (frs A H H1 Lo) (Lo++L0) H1/\Gr A H0 (frs A H H1 Lo) H1:=by
 have ra:∀j,ids Li j->Sc.nx<=j/\j<H.nx/\¬A j:=by
  rintro j ⟨p,hp,rfl⟩;obtain⟨_,q2,q3,q4⟩:=hH.own p (ht.mem p hp);exact⟨q2,q3,q4⟩
 have cj:∀j,A j->¬ids Li j:=fun j h e=>(ra j e).2.2 h;have jg:Sc.nx<=H1.nx:=by
  obtain⟨p,hp⟩:=k.sv;obtain⟨_,q2,q3⟩:=k.out p hp;rcases q3 with e|e
  ·have:=(ra _ e).1;omega
  ·have:=hH.kept.nx;omega
 have qr:=ht.ne hH.dist;refine⟨⟨⟨k.w0.trans hH.kept.w0,jg,fun j hj=>?_⟩,fun _ _=>rfl,rfl,fun j hj=>?_,fun j hj=>?_,fun p hp=>?_,List.pairwise_append.2 ⟨k.dist,hH.dist.sublist ht.sub,fun p hp q hq=>?_⟩⟩,⟨fun j hj=>.inl hj,fun j hj=>?_,k.w0.trans hH.w0.symm⟩⟩
 ·have h1:¬ids Li j:=fun e=>by have:=(ra j e).1;omega
  exact(k.get j (Nat.lt_of_lt_of_le hj hH.kept.nx) h1).trans (hH.kept.get j hj)
 ·rcases hj with hj|⟨hj,_⟩
  ·exact hH.sub j hj
  ·exact .inr (Nat.le_trans hH.kept.nx hj)
 ·rcases hj with hj|⟨_,hj,_⟩
  ·exact k.lt j (hH.lt j hj) (cj j hj)
  ·exact hj
 ·rcases List.mem_append.1 hp with hp|hp
  ·obtain⟨q1,q2,q3⟩:=k.out p hp;refine⟨q1,?_,q2,?_⟩
   ·rcases q3 with q3|q3
    ·exact(ra _ q3).1
    ·exact Nat.le_trans hH.kept.nx q3
   ·rintro(h|⟨_,_,h⟩)
    ·rcases q3 with q3|q3
     ·exact cj _ h q3
     ·have:=hH.lt _ h;omega
    ·exact h ⟨p,hp,rfl⟩
  ·obtain⟨q1,q2,q3,q4⟩:=hH.own p (ht.sub.subset hp);refine⟨(k.get _ q3 (qr p hp)).trans q1,q2,k.lt _ q3 (qr p hp),?_⟩;rintro(h|⟨h,_,_⟩)
   ·exact q4 h
   ·omega
 ·intro e;rcases(k.out p hp).2.2 with h|h
  ·exact qr q hq (e▸h)
  ·have:=(hH.own q (ht.sub.subset hq)).2.2.1;omega
 ·exact(k.get j (hH.lt j hj) (cj j hj)).trans (hH.base j hj)
theorem HS.perm(h:HS S H0 A0 A L H)(hp:L'.Perm L):HS S H0 A0 A L' H:=
 ⟨h.kept,h.base,h.w0,h.sub,h.lt,fun p q=>h.own p (hp.subset q),(List.Perm.pairwise_iff (fun {a b} (q:a.1≠b.1)=>q.symm) hp).2 h.dist⟩
theorem HS.after0{Sc Hc:AH}{L0:OL}(hH:HS Sc H0 A0 A L H)(ht:Takes Li L L0)(k:Turned Li H H1 Lo):HS Sc H0 A0 A (Lo++L0) H1:=by
 obtain⟨hs,g⟩:=hH.after (Hc:=H) ht k;exact⟨hs.kept,fun j hj=>g.get j hj,g.w0.symm,fun j hj=>hs.sub j (.inl hj),fun j hj=>hs.lt j (.inl hj),fun p hp=>by
  obtain⟨q1,q2,q3,q4⟩:=hs.own p hp;exact⟨q1,q2,q3,fun h=>q4 (.inl h)⟩,hs.dist⟩
theorem aYk{f:Fr}{ops:OL2}(hp:L'.Perm L)(hD:G.D=true->G.Lw.Sublist L')(h:SO E G i ops Q f H0 A L'):SO E G i ops Q f H0 A L:=fun wi H hH=>h (wi.list hD) H (hH.perm hp)
theorem zV{c:Call}{g:FuncId}{vs:VL}{L0:OL}(T:Value->OL->Prop)(hw:gok G.ops l gd=true)(qd:Nat.ble (d+1) n=true)(hm:G.D=true->i∈G.ms)(hc:c.callee=.value (.func g))(hg:∃fn,E.fn g=some fn)(ha:Opvs l c.args.toList vs)(ht:Takes Li L L0)(wi:G.D=true->G.Lw.Sublist L0)
 (hk:∀H,HS G.S H0 G.A0 A L H->XCall P g vs H fun u H'=>∃Lo,Turned Li H H' Lo/\T u Lo)
 (h:∀u Lo,T u Lo->SO E G (i+1) r Q (fr n t ((d,u)::l)) H0 A (Lo++L0)):SO E G i (⟨some d,.call c,ty,ps,af,gd⟩::r) Q (fr n t l) H0 A L:=
 dM hw rfl qd hm fun hD H hH=>by
  obtain⟨fn,hg⟩:=hg;obtain⟨u,H',⟨Lo,hT,hu⟩,zj,qh⟩:=hk H hH;refine⟨u,H',H0,A,Lo++L0,.inr ⟨zj,g,vs,?_,qh⟩,hH.after0 (Hc:=H) ht hT,hD.list fun hD=>(wi hD).trans (List.sublist_append_right _ _),h u Lo hu⟩;simp only[bM,hc,sC,hg,ha.ok,List.append_nil,List.nil_append]
end
end Go.AM
namespace Go.AM
open Go.RowKit
variable [σ:Sg]
variable [γ:Gam]
section
variable {P:PG}{E:Env P}{t:TY}{k k':IntKind}{a b c:Int}
theorem lI(hb:0<=b)(h:a.fdiv (2^(min b.toNat k.bits))=c):aQ E .shr t (.int k a) (.int k' b)=some (.int k c):=by
 have:¬b<0:=by omega
 simp only[aQ,this,if_false,h]
theorem bAd(hb:0<=b)(h:k.wrap (a*2^(min b.toNat k.bits))=c):aQ E .shl t (.int k a) (.int k' b)=some (.int k c):=by
 have:¬b<0:=by omega
 simp only[aQ,this,if_false,h]
theorem uX(h:bits .xor k a b=c):aQ E .xor t (.int k a) (.int k b)=some (.int k c):=by simp[aQ,cC,h]
theorem aCo(h:bits .and k a b=c):aQ E .and t (.int k a) (.int k b)=some (.int k c):=by simp[aQ,cC,h]
theorem bEk(h:bits .or k a b=c):aQ E .or t (.int k a) (.int k b)=some (.int k c):=by simp[aQ,cC,h]
theorem bBb{s u v:BA}(hl:s.data.toList.length+u.data.toList.length<=9223372036854775807)(h:v=⟨⟨s.data.toList++u.data.toList⟩⟩):aQ E .add t (.string s) (.string u)=some (.string v):=by
 subst h;have e1:s.size=s.data.toList.length:=by simp_all
 have e2:u.size=u.data.toList.length:=by rw[Array.length_toList];rfl
 simp only[aQ,aBs,e1,e2,hl,if_true]
end
section
variable {P:PG}{E:Env P}{G:RG}{i n d:Nat}{r:OL2}{Q:FQ}{t:Tr Value}{l:LV}{H0:AH}{A:NQ}{L L':OL}{v:Value}
 {ty:TY}{ps:String}{af:Array Edge}{gd:OB}{x y:Operand}
theorem aQd{op:UnOp}{ta:TY}{a:Value}(hw:gok G.ops l gd=true)(qd:Nat.ble (d+1) n=true)(hx:opv l x=some a)(hb:aun op a=some v)(h:SO E G (i+1) r Q (fr n t ((d,v)::l)) H0 A L):
 SO E G i (⟨some d,.unOp op ta x,ty,ps,af,gd⟩::r) Q (fr n t l) H0 A L:=
 bL hw rfl qd rfl (fun H=>by grind [aop,aG,aTv,aL]) h
theorem zO{kk:IntKind}{b off m j s o':Nat}{e:TY}{ii:TI}{ta:TY}(hw:gok G.ops l gd=true)(qd:Nat.ble (d+1) n=true)(hx:opv l x=some (.pointer (some ⟨b,off,none⟩)))(hy:opv l y=some (.int kk ((j:Nat):Int)))(hu:E.und ta=some (.array m e))(hi:E.inf e=some ii)(hs:ii.size=s)
 (hj:j<m)(ho:off+j*s=o')(h:SO E G (i+1) r Q (fr n t ((d,.pointer (some ⟨b,o',none⟩))::l)) H0 A L):SO E G i (⟨some d,.indexAddr ta x y,ty,ps,af,gd⟩::r) Q (fr n t l) H0 A L:=
 bL hw rfl qd rfl (fun H=>by
  have:nZ (.int kk ((j:Nat):Int)) m=some j:=by simp only[nZ];simp_all
  simp only[aop,aG hx,aG hy,bJ,hu,hi,this,aL,hs,gJ,ho]) h
theorem zY{sT dT e:TY}{N m c sz:Nat}{cs:VL}{ex:Bool}{bs:BL}(hw:gok G.ops l gd=true)(qd:Nat.ble (d+1) n=true)(hm:G.D=true->i∈G.ms)(hx:opv l x=some (.slice (some ⟨2*N+1,0,none⟩) m c))(hs:E.und sT=some (.slice e))(he:E.und e=some (.int .u8))(hd:E.und dT=some .string)
 (yg:(N,AObj.cells cs sz ex)∈L)(hl:cs.length=m)(hb:iV cs=some bs)(h:SO E G (i+1) r Q (fr n t ((d,.string ⟨⟨bs⟩⟩)::l)) H0 A L):
 SO E G i (⟨some d,.convert sT dT x,ty,ps,af,gd⟩::r) Q (fr n t l) H0 A L:=
 dM hw rfl qd hm fun hD H hH=>by
  refine⟨.string ⟨⟨bs⟩⟩,H,H0,A,L,.inl ?_,hH,hD,h⟩;have hg:=dH (hH.own _ yg).1 0 m none (by omega);rw[List.drop_zero,<-hl,List.take_length] at hg;simp only[aop,aG hx,jE,hs,hd,he,<-hl,hg,hb]
theorem aJq{sT dT e:TY}{m:Nat}(hw:gok G.ops l gd=true)(qd:Nat.ble (d+1) n=true)(hm:G.D=true->i∈G.ms)(hx:opv l x=some (.slice none m 0))(hs:E.und sT=some (.slice e))(he:E.und e=some (.int .u8))(hd:E.und dT=some .string)
 (h:SO E G (i+1) r Q (fr n t ((d,.string ⟨⟨[]⟩⟩)::l)) H0 A L):SO E G i (⟨some d,.convert sT dT x,ty,ps,af,gd⟩::r) Q (fr n t l) H0 A L:=
 dM hw rfl qd hm fun hD H hH=>by
  refine⟨.string ⟨⟨[]⟩⟩,H,H0,A,L,.inl ?_,hH,hD,h⟩;simp only[show Nat.beq 0 1=false from rfl,QF,aop,aG hx,jE,hs,hd,he]
end
omit [γ:Gam] in
def dG(b:UInt8):Value:=.int .u8 (b.toNat:Int)
theorem zM(l:BL):iV (l.map dG)=some l:=by
 induction l with
 |nil=>rfl
 |cons b l ih=>simp[iV,dG,ih]
theorem aCr(l:BL):aZ (l.map dG)=true:=by
 induction l with
 |nil=>rfl
 |cons b l ih=>simp[aZ,dG,ih,Value.oneCell']
theorem rQ(n:Nat):IntKind.u8.wrap (n:Int)=((n%256:Nat):Int):=by
 have e:IntKind.u8.wrap (n:Int)=(n:Int)%256:=rfl;rw[e];omega
theorem iX:∀n:Int,0<=n->n<2^32->IntKind.u32.wrap n=n:=fun n h0 h1=>by
 have e:IntKind.u32.wrap n=n%4294967296:=rfl;rw[e];omega
theorem aMy:∀n:Int,0<=n->n<2^8->IntKind.u8.wrap n=n:=fun n h0 h1=>by
 have e:IntKind.u8.wrap n=n%256:=rfl;rw[e];omega
theorem nE{x j:Nat}{b:Int}{k:IntKind}(h:min b.toNat k.bits=j):((x:Nat):Int).fdiv (2^(min b.toNat k.bits))=((x / 2^j:Nat):Int):=by
 grind
theorem iG(k:IntKind)(j:Nat)(hj:j<=k.bits)(hk:∀n:Int,0<=n->n<2^j->k.wrap n=n)(a b:Nat)(ha:a<2^j)(hb:b<2^j):bits .xor k a b=((a ^^^ b:Nat):Int):=by
 have hp:2^j<=2^k.bits:=Nat.pow_le_pow_right (by decide) hj;have au:a%2^k.bits=a:=Nat.mod_eq_of_lt (Nat.lt_of_lt_of_le ha hp);have xu:b%2^k.bits=b:=Nat.mod_eq_of_lt (Nat.lt_of_lt_of_le hb hp);have cast:∀n:Nat,n<2^j->((n:Nat):Int)<2^j:=fun n h=>by exact_mod_cast h
 grind [bits,BitVec.toNat_xor,BitVec.toNat_ofNat,Int.natCast_nonneg,Nat.xor_lt_two_pow]
end Go.AM
namespace Go.AM
open Go.RowKit
variable [σ:Sg]
variable [γ:Gam]
section
variable {P:PG}{E:Env P}{G:RG}{i n d:Nat}{r:OL2}{Q:FQ}{t:Tr Value}{l:LV}{H0:AH}{A:NQ}{L L':OL}{v:Value}
 {ty:TY}{ps:String}{af:Array Edge}{gd:OB}{x y:Operand}
theorem bCr{ii:TI}{zv:Value}(hz:ii.zero=some zv):(Nat.beq 1 0||ii.zero.isNone)=false:=by rw[hz];rfl
theorem bAv{a b:Nat}(h:b≠0):Nat.ble (a+b) a=false:=by
 cases hq:Nat.ble (a+b) a with
 |false=>rfl
 |true=>have:=QL hq;omega
theorem aJo{c:Call}{sT xT:TY}{ii:TI}{zv:Value}{N sl k:Nat}{s:BA}{old:VL}(hw:gok G.ops l gd=true)(qd:Nat.ble (d+1) n=true)(hm:G.D=true->i∈G.ms)(hc:c.callee=.builtin .append)(ha:c.args.toList=[x,y])(ht:c.argTypes.toList=[sT,xT])
 (hx:opv l x=some (.slice (some ⟨2*N+1,0,none⟩) sl sl))(hy:opv l y=some (.string s))(hu:E.und sT=some (.slice 5))(xr:E.und xT=some .string)(hi:E.inf 5=some ii)(hz:ii.zero=some zv)(hs:ii.size=1)(wm:ii.bytes=1)(h0:s.data.toList≠[])
 (hr:Rem N (.cells old (bF+5) false) L L')(sy:old.length=sl)(yi:sl+s.data.toList.length<=140737488355328)(qo:G.D=true->G.Lw.Sublist L')(hk:sl+s.data.toList.length=k)
 (h:∀M,SO E G (i+1) r Q (fr n t ((d,.slice (some ⟨2*M+1,0,none⟩) k k)::l)) H0 A ((M,.cells (old++s.data.toList.map dG) (bF+5) false)::L')):SO E G i (⟨some d,.call c,ty,ps,af,gd⟩::r) Q (fr n t l) H0 A L:=by
 subst hk;refine dM hw rfl qd hm fun hD H hH=>?_;have wj:s.data.toList.length≠0:=fun e=>h0 (List.eq_nil_of_length_eq_zero e);have e1:=bCr hz;have e2:Nat.beq s.data.toList.length 0=false:=by cases hq:s.data.toList.length with|zero=>exact absurd hq wj|succ k=>rfl
 have e3:=bAv (a:=sl) wj;have hg:H.tr.get N=some (.cells old (bF+5) false):=(hH.own _ hr.mem).1;have hk:=(hH.kill hr).push (.cells (old++s.data.toList.map dG) (bF+5) false);refine⟨_,_,H0,A,(H.nx,.cells (old++s.data.toList.map dG) (bF+5) false)::L',.inl ?_,hk,(hD.list qo).push _,h H.nx⟩;have e4:(Nat.beq (0+sl*1) old.length&&(iB (sl+s.data.toList.length) 1&&(Nat.ble (sl+s.data.toList.length) 140737488355328&&(Nat.beq (s.data.toList.map dG).length (s.data.toList.length*1)&&aZ (s.data.toList.map dG)))))=true:=by
  simp only[QB];exact⟨by rw[sy];simp,rE (by omega),Nat.ble_eq_true_of_le yi,by simp,aCr _⟩
 have e5:cQ 1 s.data.toList.length (.string s) H=some (s.data.toList.map dG):=(aAw rfl rfl H).2.2;simp only[aop,hc,ha,ht,fE,aG hx,aG hy,hu,xr,eR,QF,hi,hY,hs,e1,wm,e5,e2,dR,eL,hg,show lE (bF+5) 1 5=true by rfl,QT,e3,e4,cG,List.drop_zero]
theorem aIq{c:Call}{sT xT:TY}{ii:TI}{zv:Value}{k:Nat}{s:BA}(hw:gok G.ops l gd=true)(qd:Nat.ble (d+1) n=true)(hm:G.D=true->i∈G.ms)(hc:c.callee=.builtin .append)(ha:c.args.toList=[x,y])(ht:c.argTypes.toList=[sT,xT])
 (hx:opv l x=some (.slice none 0 0))(hy:opv l y=some (.string s))(hu:E.und sT=some (.slice 5))(xr:E.und xT=some .string)(hi:E.inf 5=some ii)(hz:ii.zero=some zv)(hs:ii.size=1)(wm:ii.bytes=1)(h0:s.data.toList≠[])
 (yi:s.data.toList.length<=140737488355328)(hk:s.data.toList.length=k)
 (h:∀M,SO E G (i+1) r Q (fr n t ((d,.slice (some ⟨2*M+1,0,none⟩) k k)::l)) H0 A ((M,.cells (s.data.toList.map dG) (bF+5) false)::L)):SO E G i (⟨some d,.call c,ty,ps,af,gd⟩::r) Q (fr n t l) H0 A L:=by
 subst hk;refine nJ (f:=fun N=>.slice (some ⟨2*N+1,0,none⟩) s.data.toList.length s.data.toList.length) hw rfl qd hm (fun H hH=>?_) h;have wj:s.data.toList.length≠0:=fun e=>h0 (List.eq_nil_of_length_eq_zero e);have e1:=bCr hz;have e2:Nat.beq s.data.toList.length 0=false:=by cases hq:s.data.toList.length with|zero=>exact absurd hq wj|succ k=>rfl
 have e5:cQ 1 s.data.toList.length (.string s) H=some (s.data.toList.map dG):=(aAw rfl rfl H).2.2;have e4:(iB s.data.toList.length 1&&(Nat.ble s.data.toList.length 140737488355328&&(Nat.beq ([]:VL).length (0*1)&&Nat.beq (s.data.toList.map dG).length (s.data.toList.length*1))))=true:=by
  simp only[QB];exact⟨rE (by omega),Nat.ble_eq_true_of_le (by omega),by simp,by simp⟩
 simp only[aop,hc,ha,ht,fE,aG hx,aG hy,hu,xr,eR,QF,hi,hY,hs,e1,wm,e5,e2,show(Nat.beq 0 0&&Nat.beq 0 0)=true from rfl,QT,dD,show cQ 1 0 (.slice none 0 0) H=some [] from rfl,show pM 5 (.string s) 1=bF+5 from rfl,e4,cG,Nat.zero_add,List.nil_append]
theorem aBv{c:Call}{a:Addr}{m k:Nat}(hw:gok G.ops l gd=true)(qd:Nat.ble (d+1) n=true)(hm:G.D=true->i∈G.ms)(hc:c.callee=.builtin .unsafeSliceData)(ha:c.args.toList=[x])(hx:opv l x=some (.slice (some a) m k))(hk:k≠0)
 (h:SO E G (i+1) r Q (fr n t ((d,.pointer (some a))::l)) H0 A L):SO E G i (⟨some d,.call c,ty,ps,af,gd⟩::r) Q (fr n t l) H0 A L:=
 dM hw rfl qd hm fun hD H hH=>by
  refine⟨_,H,H0,A,L,.inl ?_,hH,hD,h⟩;have e:Nat.beq k 0=false:=by cases k with|zero=>exact absurd rfl hk|succ k=>rfl
  simp only[aop,hc,ha,aG hx,lA,e,QF,aL]
theorem aJa{c:Call}{pt it:TY}{ii:TI}{N m:Nat}{bs:BL}{ex:Bool}(hw:gok G.ops l gd=true)(qd:Nat.ble (d+1) n=true)(hm:G.D=true->i∈G.ms)(hc:c.callee=.builtin .unsafeString)(ha:c.args.toList=[x,y])(ht:c.argTypes.toList=[pt,it])
 (hx:opv l x=some (.pointer (some ⟨2*N+1,0,none⟩)))(hy:opv l y=some (.int .i64 ((m:Nat):Int)))(hp:E.und pt=some (.pointer 5))(hi:E.inf 5=some ii)(hs:ii.size=1)(h0:m≠0)(yi:m<=1099511627776)
 (hr:Rem N (.cells (bs.map dG) (bF+5) ex) L L')(hl:bs.length=m)(qo:G.D=true->G.Lw.Sublist L')
 (h:SO E G (i+1) r Q (fr n t ((d,.string ⟨⟨bs⟩⟩)::l)) H0 A L'):SO E G i (⟨some d,.call c,ty,ps,af,gd⟩::r) Q (fr n t l) H0 A L:=
 dM hw rfl qd hm fun hD H hH=>by
  have hg:=(hH.own _ hr.mem).1;refine⟨_,_,H0,A,L',.inl ?_,hH.kill hr,hD.list qo,h⟩;have e0:(((m:Nat):Int)==0)=false:=by simp;omega
  have e1:((Nat.beq 5 5&&Nat.beq ii.size 1)&&(Nat.beq (bF+5) (5+bF)&&(decide (0<=((m:Nat):Int))&&Nat.ble ((m:Nat):Int).toNat 1099511627776)))=true:=by
   simp only[QB,decide_eq_true_eq];exact⟨⟨rfl,by rw[hs];rfl⟩,by rfl,by omega,Nat.ble_eq_true_of_le (by simpa using yi)⟩
  have e2:aloads H ⟨2*N+1,0,none⟩ ((m:Nat):Int).toNat=some (bs.map dG):=by
   rw[Int.toNat_natCast,dH hg 0 m none (by simp[hl]),List.drop_zero,List.take_of_length_le (by simp[hl])]
  simp only[aop,hc,ha,ht,aG hx,aG hy,kC,e0,QF,dR,hp,hi,eL,hg,e1,QT,e2,zM]
end
section
variable {P:PG}{E:Env P}{G:RG}{i n d:Nat}{r:OL2}{Q:FQ}{t:Tr Value}{l:LV}{H0:AH}{A:NQ}{L L':OL}{v:Value}
 {ty:TY}{ps:String}{af:Array Edge}{gd:OB}{x y:Operand}
theorem aEt{sT dT u:TY}{ii:TI}{N sz k:Nat}{cs:VL}{ex:Bool}(hw:gok G.ops l gd=true)(qd:Nat.ble (d+1) n=true)(hm:G.D=true->i∈G.ms)(hx:opv l x=some (.pointer (some ⟨2*N+1,0,none⟩)))(hs:E.und sT=some (.pointer u))(hd:E.und dT=some .unsafePointer)(hi:E.inf u=some ii)(hz:ii.size=k+1)
 (yg:(N,AObj.cells cs sz ex)∈L)(hl:0<cs.length)(h:SO E G (i+1) r Q (fr n t ((d,.pointer (some ⟨2*N+1,0,none⟩))::l)) H0 A L):SO E G i (⟨some d,.convert sT dT x,ty,ps,af,gd⟩::r) Q (fr n t l) H0 A L:=
 dM hw rfl qd hm fun hD H hH=>by
  refine⟨_,H,H0,A,L,.inl ?_,hH,hD,h⟩;have hg:=(hH.own _ yg).1;have e:Nat.blt 0 cs.length=true:=by simp only[Nat.blt,Nat.ble_eq];omega
  simp only[aop,aG hx,jE,hs,hd,dR,eL,hg,hi,hz,show Nat.beq 1 0=false from rfl,show Nat.beq (k+1) 0=false from rfl,QF,e,QT]
theorem yH{sT dT u:TY}{ii:TI}{N k:Nat}{cs:VL}(hw:gok G.ops l gd=true)(qd:Nat.ble (d+1) n=true)(hm:G.D=true->i∈G.ms)(hx:opv l x=some (.pointer (some ⟨2*N+1,0,none⟩)))(hs:E.und sT=some .unsafePointer)(hd:E.und dT=some (.pointer u))(hi:E.inf u=some ii)(hz:ii.size=k+1)
 (yg:(N,AObj.cells cs (u+bF) true)∈L)(hu:Nat.blt 5 u=true)(hl:cs.length=k+1)(h:SO E G (i+1) r Q (fr n t ((d,.pointer (some ⟨2*N+1,0,none⟩))::l)) H0 A L):SO E G i (⟨some d,.convert sT dT x,ty,ps,af,gd⟩::r) Q (fr n t l) H0 A L:=
 dM hw rfl qd hm fun hD H hH=>by
  refine⟨_,H,H0,A,L,.inl ?_,hH,hD,h⟩;have hg:=(hH.own _ yg).1;have e:(Nat.beq (u+bF) (u+bF)&&(Nat.blt 5 u&&(Nat.beq 0 0&&Nat.beq cs.length ii.size)))=true:=by
   simp only[QB];exact⟨by simp,hu,rfl,by rw[hl,hz];simp⟩
  simp only[aop,aG hx,jE,hs,hd,dR,eL,hg,hi,show Nat.beq 1 0=false from rfl,QF,e,QT];simp only[hz,show Nat.beq (k+1) 0=false from rfl,QF]
theorem nY{c:Call}{g:FuncId}{vs:VL}(hw:gok G.ops l gd=true)(qd:Nat.ble (d+1) n=true)(hm:G.D=true->i∈G.ms)(hc:c.callee=.value (.func g))(ha:Opvs l c.args.toList vs)(he:aNv P g vs=some v)
 (h:SO E G (i+1) r Q (fr n t ((d,v)::l)) H0 A L):SO E G i (⟨some d,.call c,ty,ps,af,gd⟩::r) Q (fr n t l) H0 A L:=
 dM hw rfl qd hm fun hD H hH=>by
  refine⟨_,H,H0,A,L,.inl ?_,hH,hD,h⟩;simp only[aop,hc,sC,ha.ok,he,aL]
theorem aJp{t e:TY}{ii:TI}{k N o:Nat}{op:BinOp}{b:Bool}(hu:E.und t=some (.pointer e))(hi:E.inf e=some ii)(hz:ii.size=k+1)(ho:dK op true=some (.bool b)):aQ E op t (.pointer (some ⟨N,o,none⟩)) (.pointer (some ⟨N,o,none⟩))=some (.bool b):=by
 have e1:(!(Nat.beq ii.size 0)&&tE ⟨N,o,none⟩ ⟨N,o,none⟩)=true:=by
  rw[hz];simp[tE];rfl
 simp only[aQ,hu,hi,e1,QT,ho]
end
omit [γ:Gam] in
def bld(T N M:Nat):BL->OL
 |[]=>[(N,.cells [.pointer none,.slice none 0 0] (T+bF) true)]
 |b::bs=>[(N,.cells [.pointer (some ⟨2*N+1,0,none⟩),.slice (some ⟨2*M+1,0,none⟩) (b::bs).length (b::bs).length] (T+bF) true),(M,.cells ((b::bs).map dG) (bF+5) false)]
theorem vV{T N M:Nat}{bs:BL}(h:bs≠[]):bld T N M bs=[(N,.cells [.pointer (some ⟨2*N+1,0,none⟩),.slice (some ⟨2*M+1,0,none⟩) bs.length bs.length] (T+bF) true),(M,.cells (bs.map dG) (bF+5) false)]:=by
 cases bs with
 |nil=>exact absurd rfl h
 |cons b bs=>rfl
theorem aKf{S:AH}{N:Nat}{o:AObj}(h:S.tr.get N=some o)(hl:N<S.nx):∀p∈[(N,o)],S.tr.get p.1=some p.2/\p.1<S.nx:=fun p hp=>by
 rw[List.mem_singleton] at hp;subst hp;exact⟨h,hl⟩
theorem bCt{S:AH}{N M:Nat}{o u:AObj}(h:S.tr.get N=some o)(hl:N<S.nx)(k:S.tr.get M=some u)(kl:M<S.nx):∀p∈[(N,o),(M,u)],S.tr.get p.1=some p.2/\p.1<S.nx:=fun p hp=>by
 rcases List.mem_cons.1 hp with rfl|hp
 ·exact⟨h,hl⟩
 ·exact aKf k kl p hp
theorem pw2{N M:Nat}{o u:AObj}(h:N≠M):[(N,o),(M,u)].Pairwise (fun p q=>p.1≠q.1):=List.Pairwise.cons (fun q hq=>by rw[List.mem_singleton] at hq;subst hq;exact h) (List.pairwise_singleton _ _)
theorem Takes.app{T L0:OL}:Takes T (T++L0) L0:=by
 induction T with
 |nil=>exact .nil
 |cons p r ih=>obtain⟨N,o⟩:=p;exact .cons .zero ih
theorem Takes.skip{T L L0:OL}(h:Takes T L L0)(x:Nat×AObj):Takes T (x::L) (x::L0):=by
 induction h with
 |nil=>exact .nil
 |cons h _ ih=>exact .cons (.succ h) ih
end Go.AM
namespace Go.AM
open Go.RowKit
variable [σ:Sg]
variable [γ:Gam]
omit [γ:Gam] in
def grow(M sz:Nat)(cs:VL):Nat->OL
 |0=>[]
 |_+1=>[(M,.cells cs sz false)]
theorem Takes.nil'{L L':OL}(h:Takes [] L L'):L'=L:=by cases h;rfl
theorem Takes.one{N:Nat}{o:AObj}{L L':OL}(h:Takes [(N,o)] L L'):Rem N o L L':=by
 cases h with
 |cons h k=>rw[<-k.nil'] at h;exact h
section
variable {P:PG}{E:Env P}{G:RG}{i n d:Nat}{r:OL2}{Q:FQ}{t:Tr Value}{l:LV}{S H0 H H1:AH}{A0 A A1:NQ}{L L' Li Lo:OL}{v u:Value}
 {ty:TY}{ps:String}{af:Array Edge}{gd:OB}{x y z:Operand}
end
end Go.AM
namespace Go.AM
open Go.RowKit
variable [σ:Sg]
variable [γ:Gam]
section
variable {P:PG}{E:Env P}{G:RG}{i n d:Nat}{r:OL2}{Q:FQ}{t:Tr Value}{l:LV}{S H0 H H1:AH}{A0 A A1:NQ}{L L' Li Lo:OL}{v u:Value}
 {ty:TY}{ps:String}{af:Array Edge}{gd:OB}{x y z:Operand}
end
end Go.AM
namespace Go.AM
open Go.RowKit
variable [σ:Sg]
variable [γ:Gam]
section
variable {P:PG}{E:Env P}{G:RG}{i n d:Nat}{r:OL2}{Q:FQ}{t:Tr Value}{l:LV}{H0:AH}{A:NQ}{L:OL}
 {ty:TY}{ps:String}{af:Array Edge}{gd:OB}{x:Operand}
omit [γ:Gam] in
structure Fresh (H H':AH) (Lo:OL):Prop where
 kept:Kept H.nx H H'
 out:∀p∈Lo,H'.tr.get p.1=some p.2/\H.nx<=p.1/\p.1<H'.nx
 dist:Lo.Pairwise (fun p q=>p.1≠q.1)
end
end Go.AM
namespace Go.AM
open Go.RowKit
section
variable [σ:Sg]{P:PG}{E:Env P}{G:RG}{i n d:Nat}{r:OL2}{Q:FQ}{t:Tr Value}{l:LV}{H0:AH}{A:NQ}{L:OL}
 {ty:TY}{ps:String}{af:Array Edge}{gd:OB}{x:Operand}
variable [γ:Gam]
end
end Go.AM
namespace Go.AM
open Go.RowKit
def aQg [σ:Sg]{P:PG}(E:Env P):Nat->TypeId->Value->Value->Bool
 |0,_,_,_=>false
 |d+1,t,x,y=>match E.und t,x,y with
  |some (.int _),.int k _,.int k' _=>decide (k=k')
  |some .bool,.bool _,.bool _=>true
  |some .string,.string _,.string _=>true
  |some (.struct fs),.agg ⟨xs⟩,.agg ⟨ys⟩=>E.eqT t&&fs.toList.all fun fd=>fd.name== "_"||(match apart E fd.type xs fd.offset,apart E fd.type ys fd.offset with
   |some a,some b=>aQg E d fd.type a b
   |_,_=>false)
  |some (.array n e),.agg ⟨xs⟩,.agg ⟨ys⟩=>(match E.inf e with
   |some i=>(List.range n).all fun j=>(match apart E e xs (j*i.size),apart E e ys (j*i.size) with
    |some a,some b=>aQg E d e a b
    |_,_=>false)
   |none=>false)
  |_,_,_=>false
theorem mB [σ:Sg]{P:PG}{E:Env P}{f:TY->Value->Value->Option Bool}{xs ys:VL}:∀{fs:List Field},(∀fd∈fs,(fd.name== "_")=true\/∃a b c,apart E fd.type xs fd.offset=some a/\apart E fd.type ys fd.offset=some b/\f fd.type a b=some c)->∃c,bU E f xs ys fs=some c
 |[],_=>⟨true,rfl⟩
 |fd::fs,h=>by
  obtain⟨c,hc⟩:=mB (fs:=fs) fun x hx=>h x (List.mem_cons_of_mem _ hx);unfold bU;rcases h fd (List.mem_cons_self ..) with e|⟨a,b,q,h1,h2,h3⟩
  ·rw[e];exact⟨c,hc⟩
  ·cases e:(fd.name== "_") with
   |true=>exact⟨c,hc⟩
   |false=>
    rw[h1,h2];simp only[QF,h3];cases q with
    |true=>exact⟨c,hc⟩
    |false=>exact⟨false,rfl⟩
theorem oJ{f:Nat->Option Bool}:∀{n i:Nat},(∀j,i<=j->j<i+n->∃c,f j=some c)->∃c,dZ f i n=some c
 |0,i,_=>⟨true,rfl⟩
 |n+1,i,h=>by
  obtain⟨c,hc⟩:=oJ (f:=f) (n:=n) (i:=i+1) fun j h1 h2=>h j (by omega) (by omega);obtain⟨q,hq⟩:=h i (Nat.le_refl _) (by omega);unfold dZ;rw[hq];cases q with
  |true=>exact⟨c,hc⟩
  |false=>exact⟨false,rfl⟩
theorem kH [σ:Sg]{P:PG}{E:Env P}:∀{d:Nat} {t:TY} {x y:Value},aQg E d t x y=true->∃b,aeq E d t x y=some b
 |0,t,x,y,h=>by cases h
 |d+1,t,x,y,h=>by
  unfold aQg at h;unfold aeq;split at h
  ·rename_i hu;rw[hu];exact⟨_,if_pos (of_decide_eq_true h)⟩
  ·rename_i hu;rw[hu];exact⟨_,rfl⟩
  ·rename_i hu;rw[hu];exact⟨_,rfl⟩
  ·rename_i fs xs ys hu;rw[hu];rw[QB] at h;simp only[h.1,QT];refine mB fun fd nk=>?_;have:=List.all_eq_true.1 h.2 fd nk;rw[Bool.or_eq_true] at this;rcases this with e|e
   ·exact .inl e
   ·split at e
    ·rename_i a b h1 h2;obtain⟨c,hc⟩:=kH e;exact .inr ⟨a,b,c,h1,h2,hc⟩
    ·cases e
  ·rename_i n e xs ys hu;rw[hu];split at h
   ·rename_i i hi;simp only[hi];refine oJ fun j _ hj=>?_;have:=List.all_eq_true.1 h j (List.mem_range.2 (by omega));split at this
    ·rename_i a b h1 h2;simp only[h1,h2];exact kH this
    ·cases this
   ·cases h
  ·cases h
def aHh [σ:Sg]{P:PG}(E:Env P)(op:BinOp)(t:TY):Value->Value->Bool
 |.agg ⟨xs⟩,.agg ⟨ys⟩=>kO xs&&(kO ys&&E.eqT t)&&(aQg E 9 t (.agg ⟨xs⟩) (.agg ⟨ys⟩)&&(match op with|.eql=>true|.neq=>true|_=>false))
 |_,_=>false
def aRz [σ:Sg]{P:PG}(E:Env P)(op:BinOp)(t:TY)(x y:Value):Bool:=match aQ E op t x y with
 |some (.bool b)=>b
 |_=>false
theorem aOe [σ:Sg]{P:PG}{E:Env P}{op:BinOp}{t:TY}{x y:Value}(h:aHh E op t x y=true):aQ E op t x y=some (.bool (aRz E op t x y)):=by
 have key:∃b,aQ E op t x y=some (.bool b):=by
  unfold aHh at h;split at h
  ·rename_i xs ys;simp only[QB] at h;obtain⟨⟨h1,h2,h3⟩,h4,h5⟩:=h;obtain⟨b,hb⟩:=kH h4;unfold aQ;simp only[h1,h2,h3,Bool.and_self,QT,hb];split at h5
   ·exact⟨_,rfl⟩
   ·exact⟨_,rfl⟩
   ·cases h5
  ·cases h
 obtain⟨b,hb⟩:=key;unfold aRz;rw[hb]
section
variable [σ:Sg]{P:PG}{E:Env P}{G:RG}{i n d:Nat}{r:OL2}{Q:FQ}{t:Tr Value}{l:LV}{S H0:AH}{A0 A:NQ}{L:OL}{v:Value}
 {ty:TY}{ps:String}{af:Array Edge}{gd:OB}{x y:Operand}
variable [γ:Gam]
end
section
variable [σ:Sg]{P:PG}{E:Env P}{tt:TY}{k:IntKind}{a b:Int}
variable [γ:Gam]
theorem aEg:aQ E .lss tt (.int k a) (.int k b)=some (.bool (decide (a<b))):=by simp[aQ,cC]
theorem aFw:aQ E .leq tt (.int k a) (.int k b)=some (.bool (decide (a<=b))):=by simp[aQ,cC]
theorem aFf:aQ E .gtr tt (.int k a) (.int k b)=some (.bool (decide (b<a))):=by simp[aQ,cC]
theorem aFl:aQ E .geq tt (.int k a) (.int k b)=some (.bool (decide (b<=a))):=by simp[aQ,cC]
theorem aEl:aQ E .eql tt (.int k a) (.int k b)=some (.bool (decide (a=b))):=by
 by_cases h:a=b<;>simp[aQ,cC,h]
theorem wX:aQ E .neq tt (.int k a) (.int k b)=some (.bool (decide (a≠b))):=by
 by_cases h:a=b<;>simp[aQ,cC,h]
theorem wP{s u:BA}:aQ E .eql tt (.string s) (.string u)=some (.bool (s.data.toList==u.data.toList)):=rfl
theorem tD{s u:BA}:aQ E .neq tt (.string s) (.string u)=some (.bool (s.data.toList !=u.data.toList)):=rfl
theorem aUs{p q:Bool}(hu:E.und tt=some .bool):aQ E .eql tt (.bool p) (.bool q)=some (.bool (p==q)):=by simp[aQ,hu,dK]
theorem aOw{p q:Bool}(hu:E.und tt=some .bool):aQ E .neq tt (.bool p) (.bool q)=some (.bool (!(p==q))):=by simp[aQ,hu,dK]
end
end Go.AM
namespace Go.AM
open Go.RowKit
def cV(c:CL)(j:Nat):Value:=match c[j]? with
 |some (.v u)=>u
 |_=>.bool false
def cI(c:CL)(j:Nat):Int:=match cV c j with
 |.int _ n=>n
 |_=>0
def cB(c:CL)(j:Nat):Bool:=match cV c j with
 |.bool b=>b
 |_=>false
def cS(c:CL)(j:Nat):BA:=match cV c j with
 |.string s=>s
 |_=>⟨#[]⟩
def cR(c:CL)(j:Nat):LX:=match c[j]? with
 |some (.row l)=>l
 |_=>[]
def elC(l:LX)(i:Int):CL:=(l[i.toNat]?).getD []
section
variable [σ:Sg]{A:NQ}{H:AH}
variable [γ:Gam]
theorem RowD.el{b:Nat}{ks:KL}{l:LX}{a:Option Addr}{cap:Nat}(rx:RowD A H b ks l a cap)(i:Int)(h0:0<=i)(h1:i<((l.length:Nat):Int)):
 ∃p xs,a=some p/\InA A (p.add (i.toNat*ks.length)).block/\aloads H (p.add (i.toNat*ks.length)) ks.length=some xs/\CellsA A H ks xs (elC l i):=by
 obtain⟨p,xs,c,h2,h3,h4,h5,h6⟩:=rx.at' i.toNat (by omega);refine⟨p,xs,h2,InA.add h3,h5,?_⟩;unfold elC;rw[h4];exact h6
end
section
variable [σ:Sg]{P:PG}{E:Env P}{G:RG}{i n d:Nat}{r:OL2}{Q:FQ}{t:Tr Value}{l:LV}{S H0:AH}{A0 A:NQ}{L:OL}{v:Value}
variable [γ:Gam]
 {ty:TY}{ps:String}{af:Array Edge}{gd:OB}{x y:Operand}
theorem bAt{kk:IntKind}{a:Option Addr}{b cap:Nat}{ks:KL}{j:Int}{e:TY}{ii:TI}{ta:TY}{ll:LX}(rx:RowD (qA G A) (qH G H0) b ks ll a cap)(hw:gok G.ops l gd=true)(qd:Nat.ble (d+1) n=true)(hx:opv l x=some (.slice a ll.length cap))(hy:opv l y=some (.int kk j))(hu:E.und ta=some (.slice e))(hi:E.inf e=some ii)(hk:ks.length=ii.size)(a8:ii.size≠0)
 (h0:0<=j)(h1:j<=((ll.length:Nat):Int))(h:∀a',RowD (qA G A) (qH G H0) b ks (ll.take j.toNat) a' cap->SO E G (i+1) r Q (fr n t ((d,.slice a' (ll.take j.toNat).length cap)::l)) H0 A L):
 SO E G i (⟨some d,.slice ta x none (some y) none,ty,ps,af,gd⟩::r) Q (fr n t l) H0 A L:=by
 obtain⟨k,rfl⟩:∃k:Nat,j=((k:Nat):Int):=⟨j.toNat,by omega⟩;rw[Int.toNat_natCast] at h;have oq:k<=ll.length:=by omega
 have np:k<=cap:=Nat.le_trans oq rx.le;have hl:(ll.take k).length=k:=by rw[List.length_take];omega
 rw[hl] at h;exact bBw hw qd hx hu hi .none (.some hy) .none rx hk a8 (zG np) oq np rfl h
variable {q:Addr}{ks:KL}{c:CL}{xs:VL}{m off:Nat}{dd:TypeDesc}{ii:TI}
end
end Go.AM
namespace Go.AM
open Go.RowKit
variable [σ:Sg]
abbrev RL:Type:=List (List Value×Nat)
mutual
def cY(k:Kd):CT->RL->Value×RL
 |.v u,R=>(u,R)
 |.row l,R=>match k with
  |.row _ ks=>bif l.isEmpty then(.slice none 0 1,R) else
   (.slice (some ⟨2*(cnRows ks l R).2.length+1,0,none⟩) l.length l.length,(cnRows ks l R).2++[((cnRows ks l R).1,ks.length)])
  |_=>(undef,R)
def bC:KL->List CT->RL->List Value×RL
 |ks,[],R=>([],R)
 |ks,c::cs,R=>match ks with
  |k::ks=>((cY k c R).1::(bC ks cs (cY k c R).2).1,(bC ks cs (cY k c R).2).2)
  |[]=>([],R)
def cnRows(ks:KL):LX->RL->List Value×RL
 |[],R=>([],R)
 |c::l,R=>((bC ks c R).1++(cnRows ks l (bC ks c R).2).1,(cnRows ks l (bC ks c R).2).2)
end
mutual
def aQy:Kd->Bool
 |.row _ ks=>!ks.isEmpty&&kdsOk ks
 |_=>true
def kdsOk:KL->Bool
 |[]=>true
 |k::ks=>aQy k&&kdsOk ks
end
def RR(w:World)(R:RL)(ψ:PL):Prop:=ψ.length=R.length/\∀(i:Nat) c,R[i]?=some c->∃p x,ψ[i]?=some p/\w.heap[p.blk]?=some x/\RoR ψ p c x
theorem RR.push{w:World}{R:RL}{ψ:PL}(h:RR w R ψ){c:List Value×Nat}{p:Place}{x:Obj}(hx:w.heap[p.blk]?=some x)(hr:RoR ψ p c x):RR w (R++[c]) (ψ++[p]):=by
 refine⟨by simp[h.1],fun i d hd=>?_⟩;rcases Nat.lt_or_ge i R.length with hi|hi
 ·rw[List.getElem?_append_left hi] at hd;obtain⟨q,y,h1,h2,h3⟩:=h.2 i d hd;exact⟨q,y,by grind,h2,h3.mono ⟨_,rfl⟩⟩
 ·rw[List.getElem?_append_right hi] at hd;have h0:i - R.length=0:=by grind
  rw[h0] at hd;simp at hd;subst hd;refine⟨p,x,?_,hx,hr.mono ⟨_,rfl⟩⟩;rw[List.getElem?_append_right (by rw[h.1];exact hi),h.1,h0];rfl
section
variable [π:Pins]{φ:PL}{S:AH}{w:World}{A:NQ}
theorem wA{φ ψ:PL}{u x:Value}(h:VR φ u x)(hf:(∃k n,u=.int k n)\/(∃b,u=.bool b)\/∃s,u=.string s):VR ψ u x:=by
 rcases hf with⟨k,n,rfl⟩|⟨b,rfl⟩|⟨s,rfl⟩
 ·cases h;exact .int _ _
 ·cases h;exact .bool _
 ·cases h;exact .string _
theorem zU{w:World}{a:Addr}{v:Value}(h:w.cell? a=some v):a.spot=none/\∃C e lo hi,w.heap[a.block]?=some (.cells C e (lo,hi))/\C[a.off]?=some v:=by
 unfold World.cell? at h;split at h
 ·rename_i C e fr hx;cases hs:a.spot with
  |none=>grind
  |some s=>rw[hs] at h;simp at h
 ·cases h
mutual
theorem aYv(R0:Rel φ S w):∀(c:CT) (k:Kd) (x x':Value) (R:RL) (ψ:PL),aQy k=true->CellA A S k x c->RR w R ψ->VR φ x x'->
 ∃ψ',ψ <+: ψ'/\RR w (cY k c R).2 ψ'/\VR ψ' (cY k c R).1 x'
 |.v u,k,x,x',R,ψ,_,h,hR,hx=>by
  refine⟨ψ,List.prefix_refl _,by rw[cY];exact hR,?_⟩;rw[cY];cases k with
  |int k=>
   obtain⟨rfl,n,rfl,_⟩:=(by simpa only[CellA] using h:x=u/\_);exact wA hx (.inl ⟨_,_,rfl⟩)
  |bool=>
   obtain⟨rfl,n,rfl⟩:=(by simpa only[CellA] using h:x=u/\_);exact wA hx (.inr (.inl ⟨_,rfl⟩))
  |str=>
   obtain⟨rfl,n,rfl,_⟩:=(by simpa only[CellA] using h:x=u/\_);exact wA hx (.inr (.inr ⟨_,rfl⟩))
  |row b ks=>simp[CellA] at h
 |.row l,k,x,x',R,ψ,hk,h,hR,hx=>by
  cases k with
  |int k=>simp[CellA] at h
  |bool=>simp[CellA] at h
  |str=>simp[CellA] at h
  |row b ks=>
   simp only[CellA] at h;simp only[aQy,QB,Bool.not_eq_true'] at hk;have rz:0<ks.length:=by
    grind
   cases hl:l.isEmpty with
   |true=>
    have:l=[]:=by simpa using hl
    subst this;rw[cY];simp only[List.isEmpty_nil,QT];refine⟨ψ,List.prefix_refl _,hR,?_⟩;obtain⟨_,_,⟨rfl|⟨rfl,_⟩,_⟩|⟨a,cap,rfl,h1,h2,h3⟩⟩:=h
    ·cases hx;exact .emp ⟨_,_,rfl⟩
    ·cases hx with
     |snil _ _=>exact .emp ⟨_,_,rfl⟩
     |emp e=>exact .emp e
    ·cases hx;exact .emp ⟨_,_,rfl⟩
   |false=>
    have ye:0<l.length:=by
     grind
    rw[cY];simp only[hl,QF];obtain⟨_,_,⟨_,rfl⟩|⟨a,cap,rfl,h1,h2,h3⟩⟩:=h
    ·simp at ye
    ·cases hx with
     | @slc _ a' _ _ c' hs=>
       have hA:ARel φ a a'/\l.length<=c':=by
        rcases hs with⟨_,e,hA⟩|⟨_,q1,q2,q3|⟨hA,_⟩⟩
        ·simp_all
        ·omega
        grind
       obtain⟨ψ1,p1,r1,cells',v1,yd,v2⟩:=cn_rows R0 l ks a a' 0 R ψ hk.2 hA.1 (fun i c hc=>by simp_all) hR;have qe:=v1.1;have yd:0<cells'.length:=by simp_all
       obtain⟨v0,hv0⟩:∃v0,cells'[0]?=some v0:=⟨cells'[0],List.getElem?_eq_getElem yd⟩;have fo:=v2 0 v0 hv0;rw[Nat.zero_mul,Nat.zero_add,show a'.add 0=a' from by unfold Addr.add;simp] at fo;obtain⟨gf,C,e,lo,hi,hx,_⟩:=zU fo;have jh:∀(j:Nat) v,cells'[j]?=some v->C.toList[a'.off+j]?=some v:=fun j v hj=>by
        have:=v2 j v hj;rw[Nat.zero_mul,Nat.zero_add,gP _ gf] at this;obtain⟨_,C2,e2,lo2,v5,rl,xt⟩:=zU this
        simp_all
       have nq:(C.toList.drop a'.off).take cells'.length=cells':=by
        apply List.ext_getElem?
        grind
       refine⟨ψ1++[⟨a'.block,a'.off,a'.off+c'*esz ks.length,ks.length⟩],p1.trans ⟨_,rfl⟩,r1.push hx ⟨C,e,lo,hi,rfl,rfl,by simp_all⟩,?_⟩;have zf:(2*(cnRows ks l R).2.length+1)%2=1:=by omega
       have r7:(2*(cnRows ks l R).2.length+1) / 2=ψ1.length:=by rw[r1.1];omega
       refine .slc (.inr ⟨zf,Nat.le_refl _,hA.2,.inr ⟨.inr ⟨zf,rfl,gf,⟨a'.block,a'.off,a'.off+c'*esz ks.length,ks.length⟩,?_,rfl,rfl⟩,fun p hp=>?_⟩⟩)
       ·simp_all
       grind
theorem vY(R0:Rel φ S w):∀(cs:CL) (ks:KL) (xs xs':VL) (R:RL) (ψ:PL),kdsOk ks=true->CellsA A S ks xs cs->RR w R ψ->VRs φ xs xs'->
 ∃ψ',ψ <+: ψ'/\RR w (bC ks cs R).2 ψ'/\VRs ψ' (bC ks cs R).1 xs'
 |[],[],[],[],R,ψ,_,_,hR,_=>⟨ψ,List.prefix_refl _,by rw[bC];exact hR,by rw[bC];exact VRs.nil ψ⟩
 |c::cs,k::ks,x::xs,x'::xs',R,ψ,hk,h,hR,hv=>by
  simp only[CellsA] at h;simp only[kdsOk,QB] at hk;obtain⟨ψ1,p1,r1,v1⟩:=aYv R0 c k x x' R ψ hk.1 h.1 hR hv.head;obtain⟨ψ2,p2,r2,v2⟩:=vY R0 cs ks xs xs' _ ψ1 hk.2 h.2 r1 hv.tail;exact⟨ψ2,p1.trans p2,by rw[bC];exact r2,by rw[bC];exact VRs.cons (v1.mono p2) v2⟩
 |[],[],[],_::_,_,_,_,_,_,hv=>by have:=hv.1;simp at this
 |_::_,_::_,_::_,[],_,_,_,_,_,hv=>by have:=hv.1;simp at this
 |[],[],_::_,_,_,_,_,h,_,_=>by simp[CellsA] at h
 |[],_::_,[],_,_,_,_,h,_,_=>by simp[CellsA] at h
 |[],_::_,_::_,_,_,_,_,h,_,_=>by simp[CellsA] at h
 |_::_,[],[],_,_,_,_,h,_,_=>by simp[CellsA] at h
 |_::_,[],_::_,_,_,_,_,h,_,_=>by simp[CellsA] at h
 |_::_,_::_,[],_,_,_,_,h,_,_=>by simp[CellsA] at h
theorem cn_rows(R0:Rel φ S w):∀(l:LX) (ks:KL) (a a':Addr) (i0:Nat) (R:RL) (ψ:PL),kdsOk ks=true->ARel φ a a'->
 (∀(i:Nat) c,l[i]?=some c->∃xs,aloads S (a.add ((i0+i)*ks.length)) ks.length=some xs/\CellsA A S ks xs c)->RR w R ψ->
 ∃ψ',ψ <+: ψ'/\RR w (cnRows ks l R).2 ψ'/\∃cells',VRs ψ' (cnRows ks l R).1 cells'/\cells'.length=l.length*ks.length/\∀(j:Nat) v,cells'[j]?=some v->w.cell? (a'.add (i0*ks.length+j))=some v
 |[],ks,a,a',i0,R,ψ,_,_,_,hR=>⟨ψ,List.prefix_refl _,by rw[cnRows];exact hR,[],by rw[cnRows];exact VRs.nil ψ,by simp,fun j v h=>by simp at h⟩
 |c::l,ks,a,a',i0,R,ψ,hk,hA,h,hR=>by
  obtain⟨xs,h1,h2⟩:=h 0 c rfl;rw[Nat.add_zero] at h1;obtain⟨xs',q1,q2,q3⟩:=iJ R0 (.inr (hA.add _)) h1;obtain⟨ψ1,p1,r1,v1⟩:=vY R0 c ks xs xs' R ψ hk h2 hR q1;obtain⟨ψ2,p2,r2,cells',v2,l2,c2⟩:=cn_rows R0 l ks a a' (i0+1) _ ψ1 hk hA (fun i d hd=>by
   have:=h (i+1) d (by simpa using hd)
   grind) r1
  refine⟨ψ2,p1.trans p2,by rw[cnRows];exact r2,xs'++cells',by rw[cnRows];exact VRs.append (v1.mono p2) v2,?_,fun j v hj=>?_⟩
  ·grind
  grind [List.getElem?_append_left,jP,List.getElem?_append_right,Nat.add_mul]
end
mutual
theorem bFw:∀(c:CT) (k:Kd) (R:RL),R <+: (cY k c R).2
 |.v u,k,R=>by rw[cY];simp_all
 |.row l,k,R=>by
  cases k with
  |row b ks=>
   rw[cY];cases hl:l.isEmpty with
   |true=>simp_all
   |false=>simp only[QF];exact List.IsPrefix.trans (cn_preR l ks R) (List.prefix_append _ _)
  |int k=>grind [cY,List.prefix_refl]
  |bool=>grind [cY,List.prefix_refl]
  |str=>grind [cY,List.prefix_refl]
theorem aDd:∀(cs:CL) (ks:KL) (R:RL),R <+: (bC ks cs R).2
 |[],ks,R=>by rw[bC];simp_all
 |c::cs,[],R=>by rw[bC];simp_all
 |c::cs,k::ks,R=>by rw[bC];exact List.IsPrefix.trans (bFw c k R) (aDd cs ks _)
theorem cn_preR:∀(l:LX) (ks:KL) (R:RL),R <+: (cnRows ks l R).2
 |[],ks,R=>by rw[cnRows];simp_all
 |c::l,ks,R=>by rw[cnRows];exact List.IsPrefix.trans (aDd c ks R) (cn_preR l ks _)
end
def HR(w0:World)(R:RL):AH:=⟨{w0 with rd:=fun i=>R[i]?,em:=true},R.length,.nil⟩
theorem tZ:∀(cs:CL) (ks:KL) (R:RL),cs.length=ks.length->(bC ks cs R).1.length=ks.length
 |[],[],R,_=>by rw[bC];rfl
 |c::cs,k::ks,R,h=>by rw[bC];simp[tZ cs ks _ (by simpa using h)]
 |[],_::_,_,h=>by simp at h
 |_::_,[],_,h=>by simp at h
variable (w0:World)
mutual
theorem aXd:∀(c:CT) (k:Kd) (x:Value) (R Rf:RL),aQy k=true->CellA A S k x c->(cY k c R).2 <+: Rf->CellA (fun j=>j<Rf.length) (HR w0 Rf) k (cY k c R).1 c
 |.v u,k,x,R,Rf,_,h,_=>by
  rw[cY];cases k with
  |int k=>simp only[CellA] at h ⊢;simp_all
  |bool=>simp only[CellA] at h ⊢;simp_all
  |str=>simp only[CellA] at h ⊢;simp_all
  |row b ks=>simp[CellA] at h
 |.row l,k,x,R,Rf,hk,h,hp=>by
  cases k with
  |int k=>simp[CellA] at h
  |bool=>simp[CellA] at h
  |str=>simp[CellA] at h
  |row b ks=>
   simp only[CellA] at h;simp only[aQy,QB,Bool.not_eq_true'] at hk;have rz:0<ks.length:=by
    grind
   rw[cY] at hp ⊢;cases hl:l.isEmpty with
   |true=>
    have:l=[]:=by simpa using hl
    subst this;simp only[List.isEmpty_nil,QT,CellA];exact⟨h.1,h.2.1,.inl ⟨.inr ⟨trivial,rfl⟩,trivial⟩⟩
   |false=>
    simp only[hl,QF] at hp ⊢;simp only[CellA];obtain⟨pf,wv,h⟩:=h;refine⟨pf,wv,.inr ⟨_,l.length,rfl,Nat.le_refl _,?_⟩⟩;have cm:∀(i:Nat) c,l[i]?=some c->∃xs,CellsA A S ks xs c:=fun i c hc=>by
     grind
    obtain⟨qe,jh⟩:=cn_typedR l ks R Rf hk.2 cm ((List.prefix_append _ _).trans hp);have hg:Rf[(cnRows ks l R).2.length]?=some ((cnRows ks l R).1,ks.length):=getElem?_prefix hp (by simp);have qm:=lt_of_getElem? hg;have zf:(2*(cnRows ks l R).2.length+1)%2=1:=by omega
    have r7:(2*(cnRows ks l R).2.length+1) / 2=(cnRows ks l R).2.length:=by omega
    refine⟨⟨.inr (by simp_all),fun _=>.inr ⟨Tr.get_nil _,(cnRows ks l R).1,by show Rf[_ / 2]?=_;simp_all⟩⟩,fun i c hc=>⟨_,?_,jh i c hc⟩⟩;have hi:=lt_of_getElem? hc;rw[gP _ rfl];unfold aloads;rw[show Nat.beq ks.length 0=false by(cases e:ks.length with|zero=>omega|succ n=>rfl),QF,show Nat.beq ((2*(cnRows ks l R).2.length+1)%2) 0=false by rw[zf];rfl,QF];simp only[r7];have qf:Nat.ble (0+i*ks.length+ks.length) (cnRows ks l R).1.length=true:=by
     refine Nat.ble_eq_true_of_le ?_;rw[qe,Nat.zero_add];have:(i+1)*ks.length<=l.length*ks.length:=Nat.mul_le_mul_right _ hi
     grind
    have nr:(HR w0 Rf).tr.get (cnRows ks l R).2.length=none:=Tr.get_nil _;have vq:(HR w0 Rf).w0.rd (cnRows ks l R).2.length=some ((cnRows ks l R).1,ks.length):=hg
    grind
theorem sR:∀(cs:CL) (ks:KL) (xs:VL) (R Rf:RL),kdsOk ks=true->CellsA A S ks xs cs->(bC ks cs R).2 <+: Rf->CellsA (fun j=>j<Rf.length) (HR w0 Rf) ks (bC ks cs R).1 cs
 |[],[],[],R,Rf,_,_,_=>by rw[bC];simp[CellsA]
 |c::cs,k::ks,x::xs,R,Rf,hk,h,hp=>by
  simp only[CellsA] at h;simp only[kdsOk,QB] at hk;rw[bC] at hp ⊢;simp only[CellsA];exact⟨aXd c k x R Rf hk.1 h.1 ((aDd cs ks _).trans hp),sR cs ks xs _ Rf hk.2 h.2 hp⟩
 |[],[],_::_,_,_,_,h,_=>by simp[CellsA] at h
 |[],_::_,[],_,_,_,h,_=>by simp[CellsA] at h
 |[],_::_,_::_,_,_,_,h,_=>by simp[CellsA] at h
 |_::_,[],[],_,_,_,h,_=>by simp[CellsA] at h
 |_::_,[],_::_,_,_,_,h,_=>by simp[CellsA] at h
 |_::_,_::_,[],_,_,_,h,_=>by simp[CellsA] at h
theorem cn_typedR:∀(l:LX) (ks:KL) (R Rf:RL),kdsOk ks=true->(∀(i:Nat) c,l[i]?=some c->∃xs,CellsA A S ks xs c)->(cnRows ks l R).2 <+: Rf->
 (cnRows ks l R).1.length=l.length*ks.length/\∀(i:Nat) c,l[i]?=some c->CellsA (fun j=>j<Rf.length) (HR w0 Rf) ks (((cnRows ks l R).1.drop (i*ks.length)).take ks.length) c
 |[],ks,R,Rf,_,_,_=>by grind [cnRows]
 |d::l,ks,R,Rf,hk,h,hp=>by
  rw[cnRows] at hp ⊢;obtain⟨xs,hd⟩:=h 0 d rfl;have xc:(bC ks d R).1.length=ks.length:=tZ d ks R hd.len.2;obtain⟨h1,h2⟩:=cn_typedR l ks _ Rf hk (fun i c hc=>h (i+1) c (by simpa using hc)) hp;have h0:=sR d ks xs R Rf hk hd ((cn_preR l ks _).trans hp);refine⟨by grind,fun i c hc=>?_⟩;cases i with
  |zero=>
   simp_all
  |succ i=>
   grind [bC,Nat.add_mul,List.drop_drop,List.drop_left]
end
end
theorem XCall.det{P:PG}{g:FuncId}{ks:KL}{k:IntKind}(rz:kdsOk ks=true)(Gl:World->Prop)(pre:CL->Prop)(Q:CL->Int->Prop)
 (tot:∀(S:AH) (A:NQ) (xs:VL) (c:CL),Gl S.w0.toWorld->pre c->(∀j,A j->j<S.nx)->CellsA A S ks xs c->XCall P g [.agg ⟨xs⟩] S fun u _=>∃n,u=.int k n/\Q c n)
 (w0:World)(c:CL):∃n,∀(S:AH) (A:NQ) (xs:VL),S.w0.toWorld=w0->Gl w0->pre c->(∀j,A j->j<S.nx)->CellsA A S ks xs c->
  XCall P g [.agg ⟨xs⟩] S fun u H'=>u=.int k n/\H'=S/\Q c n:=by
 by_cases yz:Gl w0/\pre c/\∃(S:AH) (A:NQ) (xs:VL),CellsA A S ks xs c
 ·obtain⟨hg,hp,S0,A0,xs0,h0⟩:=yz;have cn:=sR (π:=oU) (S:=S0) (A:=A0) w0 c ks xs0 [] _ rz h0 (List.prefix_refl _);obtain⟨v,K0,⟨n,rfl,hQ⟩,hw,qh⟩:=tot (HR w0 (bC ks c []).2) _ _ c hg hp (fun j hj=>hj) cn;refine⟨n,fun S A xs hS _ _ hA hx=>⟨.int k n,S,⟨rfl,rfl,hQ⟩,rfl,fun π φ args' w hv hR=>?_⟩⟩;obtain⟨x',rfl,zc⟩:∃x',args'=[x']/\VR φ (.agg ⟨xs⟩) x':=by
   match args',hv with
   |[x'],hv=>exact⟨x',rfl,hv.head⟩
   |[],hv=>have:=hv.1;simp at this
   |_::_::_,hv=>have:=hv.1;simp at this
  cases zc with
  | @agg _ xs' ha va=>
    obtain⟨ψ,_,r,vr⟩:=vY (A:=A) hR c ks xs xs' [] [] rz hx ⟨rfl,fun i c h=>by simp at h⟩ ⟨ha,va⟩;have px:=hR.below;have ji:=hR.len;have nt:=hR.obj;have jk:=hR.inj;have tf:=hR.pin;have co:=hR.lt;have cq:=hR.ro;generalize hπ:(⟨⟨fun b=>w.heap[b]?,π.ds⟩⟩:Pins)=π';have ot:∀b,@Pins.pin π' b=w.heap[b]?:=fun b=>by subst hπ;rfl
    have hn:(HR w0 (bC ks c []).2).nx=(bC ks c []).2.length:=rfl;have R1:Rel (π:=π') ψ (HR w0 (bC ks c []).2) w:=by
     refine @Rel.mk σ π' _ _ _ ?_ r.1 (fun i o h=>by simp[HR,Tr.get_nil] at h) (fun i j o o' p q h=>by simp[HR,Tr.get_nil] at h) (fun b x hb=>⟨(ot b).symm.trans hb,fun i p hp hi=>?_⟩) (fun i p hp=>?_) (fun i d hd=>?_)
     ·have:=px;rw[hS] at this;exact this
     ·have hi:(bC ks c []).2[i]?=none:=hi;have:=lt_of_getElem? hp;rw[r.1] at this
      simp_all
     ·have hi:=lt_of_getElem? hp;rw[r.1] at hi;obtain⟨q,x,h1,h2,_⟩:=r.2 i _ (List.getElem?_eq_getElem hi)
      grind
     ·obtain⟨p,x,h1,h2,h3⟩:=r.2 i d hd;exact⟨Tr.get_nil _,p,x,h1,(ot _).trans h2,h3⟩
    refine(qh π' ψ [.agg ⟨xs'⟩] w (VRs.cons (.agg vr.1 vr.2) (VRs.nil ψ)) R1).mono ?_;rintro e w' ⟨ψ1,u,u',K,p1,rfl,ov,R2,hk,rfl,rfl⟩;cases ov;have same:∀b,b<w.heap.size->w'.heap[b]?=w.heap[b]?:=fun b hb=>by
     grind [Pins.pin,Rel.pin]
    have bel:= @Rel.below σ π' _ _ _ R2;rw[hw] at bel;have zi:w.heap.size<=w'.heap.size:=by
     grind
    refine⟨φ,.int k n,.int k n,S,List.prefix_refl _,rfl,.int _ _,?_,rfl,rfl,rfl⟩;refine @Rel.mk σ π _ _ _ (by rw[hS];exact bel) ji (fun i o hi=>?_) jk (fun b x hb=>⟨(same b (alt_of_getElem? (tf b x hb).1)).trans (tf b x hb).1,(tf b x hb).2⟩) (fun i p hp=>Nat.lt_of_lt_of_le (co i p hp) zi) cq
    grind
 simp_all
end Go.AM
namespace Go.AM
open Go.RowKit
variable [σ:Sg]
variable [γ:Gam]
omit [γ:Gam] in
abbrev sJ(n:Int):Prop:= -9223372036854775808<=n/\n<=9223372036854775807
section
variable {A:NQ}{H:AH}
theorem CellA.mkI{k:IntKind}{n:Int}(h:(Lit.int k n).wf=true):CellA A H (.int k) (.int k n) (.v (.int k n)):=by simp only[CellA];simp_all
theorem CellA.mkB{b:Bool}:CellA A H .bool (.bool b) (.v (.bool b)):=by simp only[CellA];simp_all
theorem CellA.mkS{s:BA}(h:s.size<=maxLen):CellA A H .str (.string s) (.v (.string s)):=by simp only[CellA];simp_all
theorem CellsA.cellI{ks:KL}{xs:VL}{c:CL}{k:IntKind}(h:CellsA A H ks xs c){j:Nat}(hk:ks[j]?=some (.int k)):CellA A H (.int k) (.int k (cI c j)) (.v (.int k (cI c j))):=by
 have hj:=lt_of_getElem? hk;obtain⟨h1,h2⟩:=h.len;have hc:=h.at hk (List.getElem?_eq_getElem (by omega:j<xs.length)) (List.getElem?_eq_getElem (by omega:j<c.length));obtain⟨n,e1,e2,e3⟩:=hc.int
 grind [cI,cV,List.getElem?_eq_getElem]
theorem CellsA.rngI{ks:KL}{xs:VL}{c:CL}{k:IntKind}(h:CellsA A H ks xs c){j:Nat}(hk:ks[j]?=some (.int k)):k.min<=cI c j/\cI c j<=k.max:=by
 have:=h.cellI hk;obtain⟨n,e1,_,e3⟩:=this.int;injection e1 with _ e1
 rw[e1];simp only[Lit.wf,QB,decide_eq_true_eq] at e3;exact e3
theorem CellsA.rng_i64{ks:KL}{xs:VL}{c:CL}(h:CellsA A H ks xs c){j:Nat}(hk:ks[j]?=some (.int .i64)):sJ (cI c j):=by have:=h.rngI hk;grind [IntKind.min,IntKind.max,IntKind.bits,IntKind.signed]
end
theorem bB(k:IntKind)(n:Int):k.min<=k.wrap n/\k.wrap n<=k.max:=by
 cases k<;>grind [IntKind.min,IntKind.max,IntKind.wrap,IntKind.bits,IntKind.signed]<;>omega
section
variable {P:PG}{E:Env P}{G:RG}{i n d:Nat}{r:OL2}{Q:FQ}{t:Tr Value}{l:LV}{S H0:AH}{A0 A:NQ}{L L':OL}{v:Value}
 {ty:TY}{ps:String}{af:Array Edge}{gd:OB}{x y:Operand}
theorem bAk{c:Call}{z:Operand}{g:FuncId}{fa fb vs args:VL}{T:Value->Prop}(hw:gok G.ops l gd=true)(qd:Nat.ble (d+1) n=true)(hm:G.D=true->i∈G.ms)(hc:c.callee=.value z)(hz:opv l z=some (.func (.func g) ⟨fa⟩ ⟨fb⟩))(hg:∃fn,E.fn g=some fn)(ha:Opvs l c.args.toList vs)(qj:fa++(vs++fb)=args)
 (hk:∀H,HS G.S H0 G.A0 A L H->XCall P g args H fun u H'=>T u/\Kept H.nx H H')
 (h:∀u,T u->SO E G (i+1) r Q (fr n t ((d,u)::l)) H0 A L):SO E G i (⟨some d,.call c,ty,ps,af,gd⟩::r) Q (fr n t l) H0 A L:=
 dM hw rfl qd hm fun hD H hH=>by
  obtain⟨fn,hg⟩:=hg;obtain⟨u,H',⟨hT,uj⟩,zj,qh⟩:=hk H hH;refine⟨u,H',H0,A,L,.inr ⟨zj,g,args,?_,qh⟩,hH.later uj,hD,h u hT⟩;simp only[bM,hc,aG hz,hg,ha.ok,qj]
theorem aNc{zs:List Int}(h:zs.length=3):∃a b c,zs=[a,b,c]:=by
 match zs,h with
 |[a,b,c],_=>simp_all
end
end Go.AM
namespace Go.AM
open Go.RowKit
variable [σ:Sg]
variable [γ:Gam]
omit [γ:Gam] in
def Typd(A:NQ)(H:AH)(ks:KL)(l:LX)(cs:VL):Prop:=
 cs.length=l.length*ks.length/\aZ cs=true/\∀(i:Nat) c,l[i]?=some c->CellsA A H ks ((cs.drop (i*ks.length)).take ks.length) c
omit [γ:Gam] in
def OwS(A:NQ)(H:AH)(b:Nat)(ks:KL)(l:LX)(x:Value)(Lr:OL):Prop:=
 l.length<=140737488351232/\l.length*b<=140737488351232/\((l=[]/\x=.slice none 0 0/\Lr=[])\/∃M cs ex,x=.slice (some ⟨2*M+1,0,none⟩) l.length l.length/\Lr=[(M,.cells cs ks.length ex)]/\Typd A H ks l cs)
theorem Takes.perm{T L L0:OL}(h:Takes T L L0):(T++L0).Perm L:=by
 induction h with
 |nil=>exact List.Perm.refl _
 | @cons N o r L L1 L2 h k ih=>
   have:((N,o)::L1).Perm L:=by
    clear k ih
    induction h with
    |zero=>exact List.Perm.refl _
    |succ h ih=>exact(List.Perm.swap ..).trans (ih.cons _)
   exact(ih.cons _).trans this
theorem Takes.skipA{T L L0 X:OL}(h:Takes T L L0):Takes T (X++L) (X++L0):=by
 induction X with
 |nil=>exact h
 |cons x X ih=>exact ih.skip x
section
variable {A A':NQ}{H H':AH}{b:Nat}{ks:KL}{l l1 l2:LX}{x:Value}{Lr:OL}{cs cs1 cs2:VL}
theorem Typd.gr(h:Typd A H ks l cs)(g:Gr A H A' H'):Typd A' H' ks l cs:=⟨h.1,h.2.1,fun i c hc=>CellsA.gr g _ _ _ (h.2.2 i c hc)⟩
theorem Typd.nil:Typd A H ks [] []:=⟨by simp,rfl,fun i c h=>by simp at h⟩
theorem Typd.app(h1:Typd A H ks l1 cs1)(h2:Typd A H ks l2 cs2):Typd A H ks (l1++l2) (cs1++cs2):=by
 refine⟨by simp[h1.1,h2.1,Nat.add_mul],oX h1.2.1 h2.2.1,fun i c hc=>?_⟩;rcases Nat.lt_or_ge i l1.length with hi|hi
 ·rw[List.getElem?_append_left hi] at hc;have qf:(i+1)*ks.length<=l1.length*ks.length:=Nat.mul_le_mul_right _ hi;rw[Nat.add_mul,Nat.one_mul] at qf;have:=h1.1;rw[List.drop_append_of_le_length (by omega),List.take_append_of_le_length (by grind)];exact h1.2.2 i c hc
 ·rw[List.getElem?_append_right hi] at hc;have:=h2.2.2 _ c hc;have e:i*ks.length=cs1.length+(i - l1.length)*ks.length:=by rw[h1.1,<-Nat.add_mul];congr 1;omega
  simp_all
theorem Typd.one{c:CL}(h:CellsA A H ks cs c):Typd A H ks [c] cs:=by
 have hl:=h.len.1;refine⟨by simp[hl],h.one,fun i d hd=>?_⟩;cases i with
 |zero=>
  grind
 |succ i=>simp at hd
theorem Typd.rep{c:CL}(h:CellsA A H ks cs c):∀n,Typd A H ks (List.replicate n c) (List.replicate n cs).flatten
 |0=>Typd.nil
 |n+1=>by
  have:=(Typd.one h).app (Typd.rep h n)
  grind
theorem Typd.el(h:Typd A H ks l cs)(j:Int)(h0:0<=j)(h1:j<((l.length:Nat):Int)):j.toNat*ks.length+ks.length<=cs.length/\CellsA A H ks ((cs.drop (j.toNat*ks.length)).take ks.length) (elC l j):=by
 have hi:j.toNat<l.length:=by omega
 have qf:(j.toNat+1)*ks.length<=l.length*ks.length:=Nat.mul_le_mul_right _ hi;rw[Nat.add_mul,Nat.one_mul,<-h.1] at qf;refine⟨qf,?_⟩;have:=h.2.2 j.toNat l[j.toNat] (List.getElem?_eq_getElem hi)
 grind [elC,List.getElem?_eq_getElem]
theorem OwS.nil:OwS A H b ks [] (.slice none 0 0) []:=⟨by simp,by simp,.inl ⟨rfl,rfl,rfl⟩⟩
theorem OwS.gr(h:OwS A H b ks l x Lr)(g:Gr A H A' H'):OwS A' H' b ks l x Lr:=by
 obtain⟨h1,h2,h|⟨M,cs,ex,h3,h4,h5⟩⟩:=h
 ·exact⟨h1,h2,.inl h⟩
 ·exact⟨h1,h2,.inr ⟨M,cs,ex,h3,h4,h5.gr g⟩⟩
theorem OwS.mk{M:Nat}{ex:Bool}(h1:l.length<=140737488351232)(h2:l.length*b<=140737488351232)(h:Typd A H ks l cs):OwS A H b ks l (.slice (some ⟨2*M+1,0,none⟩) l.length l.length) [(M,.cells cs ks.length ex)]:=⟨h1,h2,.inr ⟨M,cs,ex,rfl,rfl,h⟩⟩
theorem OwS.shape(h:OwS A H b ks l x Lr):∃a,x=.slice a l.length l.length:=by
 obtain⟨_,_,⟨rfl,rfl,_⟩|⟨M,cs,ex,rfl,_⟩⟩:=h
 ·exact⟨none,rfl⟩
 ·exact⟨_,rfl⟩
omit [γ:Gam] in
def aCj(S H0:AH)(A0 A:NQ)(L:OL)(ks:KL)(l:LX)(w:Value):Prop:=∃new,lH S H0 A0 A L ks.length l.length w new/\Typd A H0 ks l new
theorem OwS.firsts{S:AH}{A0:NQ}{L:OL}(h:OwS A H b ks l x Lr)(hm:∀p∈Lr,p∈L):aCj S H A0 A L ks l x:=by
 obtain⟨_,_,⟨rfl,rfl,rfl⟩|⟨M,cs,ex,rfl,rfl,h5⟩⟩:=h
 ·exact⟨[],⟨rfl,by simp,fun H hH=>rfl,rfl⟩,Typd.nil⟩
 ·exact⟨cs,aNa (hm _ (List.mem_cons_self ..)) h5.1,h5⟩
theorem RowD.firsts{S:AH}{A0:NQ}{L:OL}{a:Option Addr}{cap:Nat}(h:RowD A H b ks l a cap):aCj S H A0 A L ks l (.slice a l.length cap):=by
 cases a with
 |none=>
  have:l=[]:=by
   rcases Nat.eq_zero_or_pos l.length with e|e
   ·simp_all
   ·obtain⟨p,_,_,e1,_⟩:=h.at' 0 e;cases e1
  subst this;exact⟨[],⟨rfl,by simp,fun H hH=>rfl,rfl⟩,Typd.nil⟩
 |some p=>
  obtain⟨cells,h1,h2,h3⟩:=h.whole l.length (Nat.le_refl _);have ht:∀(i:Nat) c,l[i]?=some c->CellsA A H ks ((cells.drop (i*ks.length)).take ks.length) c:=fun i c hc=>h3 i c (lt_of_getElem? hc) hc;refine⟨cells,aIy (h.inA p rfl) h1,h2,?_,ht⟩;rcases Nat.eq_zero_or_pos ks.length with e|e
  ·have:cells=[]:=List.eq_nil_of_length_eq_zero (by simp_all);rw[this];rfl
  ·exact aWf h2 (by omega) fun i hi=>(ht i _ (List.getElem?_eq_getElem hi)).one
end
theorem oT{z:Array Value}{n:Nat}(hz:z.size≠0):extL (cP z (n*z.size))=(List.replicate n (extL z.toList)).flatten:=by
 have extL_map:∀l:VL,extL l=l.map ext:=fun l=>by
  induction l with
  |nil=>rw[extL];rfl
  |cons v r ih=>rw[extL,ih];rfl
 rw[extL_map,extL_map];apply List.ext_getElem?;intro i;have oa:0<z.size:=Nat.pos_of_ne_zero hz;have u7:∀(n i:Nat),(List.replicate n (z.toList.map ext)).flatten[i]?=if i<n*z.size then(z[i%z.size]?).map ext else none:=by
  intro n
  induction n with
  |zero=>intro i;simp
  |succ n ih=>
   intro i;rw[List.replicate_succ,List.flatten_cons];rcases Nat.lt_or_ge i z.size with h|h
   ·rw[List.getElem?_append_left (by simpa using h),if_pos (by rw[Nat.add_mul];omega),Nat.mod_eq_of_lt h,List.getElem?_map,Array.getElem?_toList]
   ·rw[List.getElem?_append_right (by simpa using h),ih];simp only[List.length_map,Array.length_toList];rw[Nat.add_mul,Nat.one_mul];have e:(i - z.size)%z.size=i%z.size:=by
     conv=>rhs;rw[show i=i - z.size+z.size by omega]
     rw[Nat.add_mod_right]
    grind
 rw[u7];simp only[cP,List.getElem?_map,Array.getElem?_toList,Array.getElem?_map];by_cases hi:i<n*z.size
 ·rw[if_pos hi]
  grind [Nat.mod_lt]
 grind
section
variable {P:PG}{E:Env P}{G:RG}{i n d:Nat}{r:OL2}{Q:FQ}{t:Tr Value}{l:LV}{S H0:AH}{A0 A:NQ}{L L' Lr:OL}{v xv w:Value}
 {ty:TY}{ps:String}{af:Array Edge}{gd:OB}{x y:Operand}{b:Nat}{ks:KL}{l1 l2:LX}
theorem aUu{c:Call}{e sT xT:TY}{dx:TypeDesc}{ii:TI}{zv:Value}(ow:OwS A H0 b ks l1 xv Lr)(hT:Takes Lr L L')(hf:aCj G.S H0 G.A0 A L ks l2 w)(hw:gok G.ops l gd=true)(qd:Nat.ble (d+1) n=true)(hm:G.D=true->i∈G.ms)(hc:c.callee=.builtin .append)(ha:c.args.toList=[x,y])(ht:c.argTypes.toList=[sT,xT])
 (hx:opv l x=some xv)(hy:opv l y=some w)(hu:E.und sT=some (.slice e))(xr:E.und xT=some dx)(z5:eR dx=false)(hi:E.inf e=some ii)(hz:ii.zero=some zv)(hs:ii.size=ks.length)(yo:ks.length≠0)(wm:ii.bytes=b)
 (hb:(l1.length+l2.length)*b<=140737488351232)(wv:l1.length+l2.length<=140737488351232)(qo:G.D=true->G.Lw.Sublist L')
 (h:∀xv' Lr',OwS A H0 b ks (l1++l2) xv' Lr'->SO E G (i+1) r Q (fr n t ((d,xv')::l)) H0 A (Lr'++L')):SO E G i (⟨some d,.call c,ty,ps,af,gd⟩::r) Q (fr n t l) H0 A L:=by
 obtain⟨new,hf,cr⟩:=hf;rcases Nat.eq_zero_or_pos l2.length with e0|e0
 ·have e1:l2=[]:=List.eq_nil_of_length_eq_zero e0;subst e1;obtain⟨a,rfl⟩:=ow.shape;have h:=h _ _ (by rw[List.append_nil];exact ow);exact aYw hw qd hm hc ha ht hx hy hu xr z5 hi hz (by rw[hs];exact yo) (by rw[hs];exact hf) (Nat.le_refl _) (aYk hT.perm (fun hD=>(qo hD).trans (List.sublist_append_right _ _)) h)
 ·obtain⟨o1,o2,⟨rfl,rfl,rfl⟩|⟨M,cs,ex,rfl,rfl,h5⟩⟩:=ow
  ·obtain rfl:=hT.nil'
   exact aAh (m:=l2.length) (base:=none) (sl:=0) (old:=[]) hw qd hm hc ha ht hx hy hu xr z5 hi hz hs yo wm (by omega) hf (.inl ⟨rfl,rfl,rfl⟩) (rE (by grind)) (by omega) rfl (Nat.zero_add _) fun M=>h _ _ (by
    have:=OwS.mk (M:=M) (ex:=false) (A:=A) (H:=H0) (b:=b) (by omega) (by simp_all) cr;rw[List.nil_append];exact this)
  ·exact aPf (m:=l2.length) hw qd hm hc ha ht hx hy hu xr z5 hi hz hs yo wm (by omega) hf hT.one h5.1 cr.2.1 (rE (by omega)) (by omega) rfl qo (List.length_append (as:=l1) (bs:=l2)).symm fun M=>h _ _ (OwS.mk (by simp_all) (by simp_all) (h5.app cr))
theorem HS.freezeS{S H0 H:AH}{A0 A:NQ}{L L' Lr:OL}{b:Nat}{ks:KL}{l1:LX}{xv:Value}(hH:HS S H0 A0 A L H)(ow:OwS A H0 b ks l1 xv Lr)(hT:Takes Lr L L'):
 ∃A1,Gr A H0 A1 H/\HS S H A0 A1 L' H/\∃a,xv=.slice a l1.length l1.length/\RowD A1 H b ks l1 a l1.length:=by
 obtain⟨o1,o2,⟨rfl,rfl,rfl⟩|⟨M,cs,ex,rfl,rfl,h5⟩⟩:=ow
 ·obtain rfl:=hT.nil';refine⟨A,hH.gr,⟨hH.kept,fun _ _=>rfl,rfl,hH.sub,hH.lt,hH.own,hH.dist⟩,none,rfl,⟨o1,o2,Nat.le_refl _,fun _=>.inl rfl,(fun p h=>by cases h),(fun p h=>by cases h),fun i hi=>absurd hi (Nat.not_lt_zero _)⟩⟩
 ·have hr:=hT.one;have g:Gr A H0 (fun j=>A j\/j=M) H:=⟨fun _ h=>.inl h,hH.base,hH.w0.symm⟩;refine⟨_,g,hH.freeze hr,some _,rfl,?_⟩;have hc:=aMc (A:=fun j=>A j\/j=M) (hH.own _ hr.mem).1 (.inr rfl) (b:=b) rfl rfl (by rw[h5.1];exact Nat.le_refl _) (fun i c hc=>CellsA.gr g _ _ _ (h5.2.2 i c hc)) (Nat.le_refl _) o1 o2;obtain⟨l2,a,cap,e1,e2,rx⟩:=hc.rowD
  simp_all
theorem aPs{f:Fr}{ops:OL2}(ow:OwS A H0 b ks l1 xv Lr)(hT:Takes Lr L L')(qo:G.D=true->G.Lw.Sublist L')(h:∀H1 A1 a,Gr A H0 A1 H1->xv=.slice a l1.length l1.length->RowD A1 H1 b ks l1 a l1.length->SO E G i ops Q f H1 A1 L'):SO E G i ops Q f H0 A L:=fun hD H hH=>by
 obtain⟨A1,g,hs,a,hx,rx⟩:=hH.freezeS ow hT;refine h H A1 a g hx rx (fun qw=>?_) H hs;obtain⟨d1,d2,d3,d4⟩:=hD qw;exact⟨fun p hp=>(qo qw).subset hp,d2,fun j hj=>⟨g.sub j (d3 j hj).1,(g.get j (d3 j hj).1).trans (d3 j hj).2⟩,d4.trans g.w0.symm⟩
end
end Go.AM
namespace Go.AM
variable [σ:Sg]
variable [γ:Gam]
variable {P:PG}{K:AQ}{x y:Code}{S:AH}{A0:NQ}{H0:AH}{A:NQ}{L:OL}{n:Nat}{l:LV}
theorem RowD.zero{H:AH}{b:Nat}{ks:KL}:RowD A H b ks [] none 0:=
 ⟨Nat.zero_le _,by simp,Nat.le_refl _,fun _=>.inl rfl,(fun _ h=>nomatch h),(fun _ h=>nomatch h),fun _ h=>absurd h (Nat.not_lt_zero _)⟩
end Go.AM
namespace Go.AM
variable [σ:Sg]
variable [γ:Gam]
theorem cN(op:BinOp)(k:IntKind)(x y:Int):k.min<=bits op k x y/\bits op k x y<=k.max:=bB k _
theorem uZ(k:IntKind){n:Int}(h0:0<=n)(h1:n<=k.max):k.wrap n=n:=by
 cases k<;>grind [IntKind.min,IntKind.max,IntKind.wrap,IntKind.bits,IntKind.signed]<;>omega
theorem jF{n:Nat}{c:Int}(h0:0<=c)(h1:c<2^n):(((BitVec.ofInt n c).toNat:Nat):Int)=c:=by
 grind [BitVec.toNat_ofInt,Int.emod_eq_of_lt,Int.natCast_pow]
theorem aJg(k:IntKind):k.max<2^k.bits:=by cases k<;>decide
theorem aVh{k:IntKind}{x c:Int}(h0:0<=c)(h1:c<=k.max):0<=bits .and k x c/\bits .and k x c<=c:=by
 have e:(((BitVec.ofInt k.bits c).toNat:Nat):Int)=c:=jF h0 (Int.lt_of_le_of_lt h1 (aJg k));have e2:(((BitVec.ofInt k.bits x &&& BitVec.ofInt k.bits c).toNat:Nat):Int)<=c:=by
  grind [BitVec.toNat_and,Nat.and_le_right,BitVec.ofInt]
 have e3:bits .and k x c=(((BitVec.ofInt k.bits x &&& BitVec.ofInt k.bits c).toNat:Nat):Int):=uZ k (Int.natCast_nonneg _) (Int.le_trans e2 h1);omega
section
variable {P:PG}{E:Env P}{G:RG}{i n d:Nat}{r:OL2}{Q:FQ}{t:Tr Value}{l:LV}{S H0:AH}{A0 A:NQ}{L L':OL}{v:Value}
 {ty:TY}{ps:String}{af:Array Edge}{gd:OB}{x y:Operand}
theorem aDq{F:Func}{g:FuncId}(hF:P.funcs[g]?=some F)(hb:F.body=none)(ho:F.origin= "")(args:VL):
 aNv P g args=(bif F.name== "math/bits.Add64" then aDf args else bif F.name== "internal/bytealg.IndexByteString" then aQc args else bif F.name== "internal/abi.NoEscape" then aJx args else bif F.name== "internal/bytealg.CountString" then aXf args else none):=by
 grind [aNv]
theorem aZm{c:Call}{g:FuncId}{F:Func}{a b e:Int}(hF:P.funcs[g]?=some F)(hb:F.body=none)(ho:F.origin= "")(hn:(F.name== "math/bits.Add64")=true)(hw:gok G.ops l gd=true)(qd:Nat.ble (d+1) n=true)(hm:G.D=true->i∈G.ms)(hc:c.callee=.value (.func g))
 (ha:Opvs l c.args.toList [.int .u64 a,.int .u64 b,.int .u64 e])(h1:0<=a/\a<=18446744073709551615)(h2:0<=b/\b<=18446744073709551615)(h3:0<=e/\e<=1)
 (h:∀z1 z2,0<=z1/\z1<=18446744073709551615->0<=z2/\z2<=1->SO E G (i+1) r Q (fr n t ((d,.tuple ⟨[.int .u64 z1,.int .u64 z2]⟩)::l)) H0 A L):SO E G i (⟨some d,.call c,ty,ps,af,gd⟩::r) Q (fr n t l) H0 A L:=by
 refine nY hw qd hm hc ha (v:=.tuple ⟨[.int .u64 ((a+b+e)%18446744073709551616),.int .u64 ((a+b+e) / 18446744073709551616)]⟩) ?_ (h _ _ (by omega) (by omega));rw[aDq hF hb ho,hn,QT];simp only[aDf];simp_all
theorem aEn(s:BA)(c:UInt8): -1<=firstIdx s c/\firstIdx s c<((s.data.toList.length:Nat):Int):=by
 unfold firstIdx;split
 ·simp_all
 ·omega
theorem bDs{c:Call}{g:FuncId}{F:Func}{s:BA}{b:Int}(hF:P.funcs[g]?=some F)(hb:F.body=none)(ho:F.origin= "")(hn:(F.name== "math/bits.Add64")=false/\(F.name== "internal/bytealg.IndexByteString")=true)(hw:gok G.ops l gd=true)(qd:Nat.ble (d+1) n=true)(hm:G.D=true->i∈G.ms)(hc:c.callee=.value (.func g))
 (ha:Opvs l c.args.toList [.string s,.int .u8 b])
 (h:∀z,-1<=z/\z<((s.data.toList.length:Nat):Int)->SO E G (i+1) r Q (fr n t ((d,.int .i64 z)::l)) H0 A L):SO E G i (⟨some d,.call c,ty,ps,af,gd⟩::r) Q (fr n t l) H0 A L:=by
 refine nY hw qd hm hc ha (v:=.int .i64 (firstIdx s b.toNat.toUInt8)) ?_ (h _ (aEn _ _));rw[aDq hF hb ho,hn.1,hn.2,QT,QF];rfl
omit [γ:Gam] in
def aOg(s:BA)(c:UInt8)(stop:Nat)(h:stop<=s.size)(i j:Nat)(b:Int):Int:=ByteArray.foldlM.loop (m:=_root_.Id) (fun n x=>pure (if x==c then n+1 else n)) s stop h i j b
theorem aKm(s:BA)(c:UInt8)(stop:Nat)(h:stop<=s.size)(i j:Nat)(b:Int):aOg s c stop h i j b=if hj:j<stop then(match i with|0=>b|i'+1=>aOg s c stop h i' (j+1) (if s[j]==c then b+1 else b)) else b:=by
 unfold aOg;rw[ByteArray.foldlM.loop];split<;>rfl
theorem aZc(s:BA)(c:UInt8)(stop:Nat)(h:stop<=s.size):∀(i j:Nat) (b:Int),b<=aOg s c stop h i j b/\aOg s c stop h i j b<=b+((i:Nat):Int):=by
 intro i
 induction i with
 |zero=>
  grind [aKm]
 |succ i ih=>
  grind [aKm,Int.le_trans]
theorem aQp(s:BA)(c:UInt8):0<=s.foldl (fun n x=>if x==c then n+1 else n) (((0:Nat):Int))/\s.foldl (fun n x=>if x==c then n+1 else n) (((0:Nat):Int))<=((s.data.toList.length:Nat):Int):=by
 have e:s.size=s.data.toList.length:=by simp_all
 have e2:s.foldl (fun n x=>if x==c then n+1 else n) (((0:Nat):Int))=aOg s c s.size (Nat.le_refl _) (s.size - 0) 0 (((0:Nat):Int)):=by
  unfold ByteArray.foldl ByteArray.foldlM;rw[dif_pos (Nat.le_refl _)];rfl
 have:=aZc s c s.size (Nat.le_refl _) (s.size - 0) 0 (((0:Nat):Int));rw[e2];omega
theorem bEh{c:Call}{g:FuncId}{F:Func}{s:BA}{b:Int}(hF:P.funcs[g]?=some F)(hb:F.body=none)(ho:F.origin= "")(hn:((F.name== "math/bits.Add64")=false/\(F.name== "internal/bytealg.IndexByteString")=false)/\(F.name== "internal/abi.NoEscape")=false/\(F.name== "internal/bytealg.CountString")=true)(hw:gok G.ops l gd=true)(qd:Nat.ble (d+1) n=true)(hm:G.D=true->i∈G.ms)(hc:c.callee=.value (.func g))
 (ha:Opvs l c.args.toList [.string s,.int .u8 b])
 (h:∀z,0<=z/\z<=((s.data.toList.length:Nat):Int)->SO E G (i+1) r Q (fr n t ((d,.int .i64 z)::l)) H0 A L):SO E G i (⟨some d,.call c,ty,ps,af,gd⟩::r) Q (fr n t l) H0 A L:=by
 refine nY hw qd hm hc ha (v:=.int .i64 (s.foldl (fun n x=>if x==b.toNat.toUInt8 then n+1 else n) (((0:Nat):Int)))) ?_ (h _ (aQp _ _));rw[aDq hF hb ho,hn.1.1,hn.1.2,hn.2.1,hn.2.2,QF,QF,QF,QT];rfl
omit [γ:Gam] in
def GT(w:World)(g m:Nat)(k:IntKind):Prop:=∀j,j<m->∃z,w.cell? ⟨g,j,none⟩=some (.int k z)/\k.min<=z/\z<=k.max
theorem bDl{kk:IntKind}{g m:Nat}{j:Int}{e:TY}{ii:TI}{ta:TY}(hw:gok G.ops l gd=true)(qd:Nat.ble (d+1) n=true)(hy:opv l y=some (.int kk j))(hu:E.und ta=some (.array m e))(hi:E.inf e=some ii)(hs:ii.size=1)
 (h0:0<=j)(h1:j<((m:Nat):Int))(h:SO E G (i+1) r Q (fr n t ((d,.pointer (some ⟨2*g,j.toNat,none⟩))::l)) H0 A L):SO E G i (⟨some d,.indexAddr ta (.global g) y,ty,ps,af,gd⟩::r) Q (fr n t l) H0 A L:=by
 obtain⟨a,rfl⟩:∃a:Nat,j=((a:Nat):Int):=⟨j.toNat,by omega⟩;have ha:a<m:=by omega
 exact bL hw rfl qd rfl (fun H=>by
  have:nZ (.int kk ((a:Nat):Int)) m=some a:=by simp only[nZ];simp_all
  have e0:aK (fr n t l) (.global g)=.pointer (some ⟨2*g,0,none⟩):=rfl;simp only[aop,e0,aG hy,bJ,hu,hi,this,aL,hs,Addr.add,Nat.zero_add,Nat.mul_one];split<;>simp_all) h
end
theorem HS.w0'{S H0 H:AH}{A0 A:NQ}{L:OL}(h:HS S H0 A0 A L H):H.w0=S.w0:=h.kept.w0
end Go.AM
namespace Go.AM
variable [σ:Sg]
variable [γ:Gam]
section
variable {P:PG}{E:Env P}{G:RG}{i n d:Nat}{r:OL2}{rs:List ResultVar}{R:Value->AH->Prop}{Q:FQ}{t:Tr Value}{l:LV}{S H H0 H1:AH}{A0 A A1:NQ}{L L' Li Lo:OL}{v:Value}
 {ty:TY}{ps:String}{af:Array Edge}{gd:OB}
theorem vJ{g:FuncId}{c:Code}{args:VL}(hg:E.fn g=some ⟨n,rs,c⟩)(hf:rC args n=fr n .nil l)(h:SX (γ:=allG) P c (uE E rs R) (fr n .nil l) S A0 H0 A L)(hH:HS S H0 A0 A L H):XCall P g args H R:=
 XCall.body E hg (by rw[hf];exact h H hH)
omit [γ:Gam] in
def bEl(S H0:AH)(A0 A:NQ)(L0:OL)(T:Value->AH->NQ->OL->Prop)(u:Value)(H':AH):Prop:=
 ∃H1 A1 Lo,Gr A H0 A1 H1/\HS S H1 A0 A1 (Lo++L0) H'/\T u H1 A1 Lo
theorem aPi{c:Call}{z:Operand}{g:FuncId}{fa fb vs args:VL}{L0:OL}(T:Value->AH->NQ->OL->Prop)(hw:gok G.ops l gd=true)(qd:Nat.ble (d+1) n=true)(hm:G.D=true->i∈G.ms)(hc:c.callee=.value z)(hz:opv l z=some (.func (.func g) ⟨fa⟩ ⟨fb⟩))(hg:∃fn,E.fn g=some fn)(ha:Opvs l c.args.toList vs)(qj:fa++(vs++fb)=args)(ht:Takes Li L L0)(wi:G.D=true->G.Lw.Sublist L0)
 (hk:∀H,HS G.S H0 G.A0 A (Li++L0) H->XCall P g args H fun u H'=>bEl G.S H0 G.A0 A L0 T u H')
 (h:∀u H1 A1 Lo,Gr A H0 A1 H1->T u H1 A1 Lo->SO E G (i+1) r Q (fr n t ((d,u)::l)) H1 A1 (Lo++L0)):SO E G i (⟨some d,.call c,ty,ps,af,gd⟩::r) Q (fr n t l) H0 A L:=
 dM hw rfl qd hm fun hD H hH=>by
  obtain⟨fn,hg⟩:=hg;obtain⟨u,H',⟨H1,A1,Lo,q2,q1,hu⟩,zj,qh⟩:=hk H (hH.perm ht.perm);refine⟨u,H',H1,A1,Lo++L0,.inr ⟨zj,g,args,?_,qh⟩,q1,((hD.list wi).fresh (H:=H) q2).list fun hD=>(wi hD).trans (List.sublist_append_right _ _),h u H1 _ Lo q2 hu⟩;simp only[bM,hc,aG hz,hg,ha.ok,qj]
end
omit [γ:Gam] in
def OwW(A:NQ)(H:AH)(b:Nat)(ks:KL)(l:LX)(x:Value)(Lr:OL):Prop:=(Lr=[]/\l=[]/\∃a n c,x=.slice a n c)\/OwS A H b ks l x Lr
section
variable {A A':NQ}{H H':AH}{b:Nat}{ks:KL}{l:LX}{x:Value}{Lr:OL}
theorem OwW.gr(h:OwW A H b ks l x Lr)(g:Gr A H A' H'):OwW A' H' b ks l x Lr:=h.imp id fun h=>h.gr g
theorem OwW.own(h:OwW A H b ks l x Lr)(hl:1<=l.length):OwS A H b ks l x Lr:=by
 rcases h with⟨_,rfl,_⟩|h
 ·simp at hl
 ·exact h
theorem OwW.lost{a:Option Addr}{n c:Nat}:OwW A H b ks [] (.slice a n c) []:=.inl ⟨rfl,rfl,_,_,_,rfl⟩
end
theorem aYs{K:AQ}{e:Exit}{f:Fr}{S H0:AH}{A0 A:NQ}{L L':OL}(hp:L'.Perm L)(h:SK K e f S A0 H0 A L'):SK K e f S A0 H0 A L:=fun H hH=>h H (hH.perm hp)
theorem wS{P:PG}{c:Code}{f:Fr}{K:AQ}{S H0:AH}{A0 A:NQ}{L L':OL}{b:Nat}{ks:KL}{l1:LX}{xv:Value}{Lr:OL}(ow:OwS A H0 b ks l1 xv Lr)(hT:Takes Lr L L')(h:∀H1 A1 a,Gr A H0 A1 H1->xv=.slice a l1.length l1.length->RowD A1 H1 b ks l1 a l1.length->SX P c K f S A0 H1 A1 L'):SX P c K f S A0 H0 A L:=fun H hH=>by
 obtain⟨A1,g,hs,a,hx,rx⟩:=hH.freezeS ow hT;exact h H A1 a g hx rx H hs
end Go.AM
namespace Go.AM
open Go.RowKit
variable [σ:Sg]
variable [γ:Gam]
section
variable {A:NQ}{H:AH}{ks:KL}{l:LX}{cs:VL}
theorem Typd.setX{vs:VL}(h:Typd A H ks l cs){j o:Nat}(hj:j<l.length)(ho:o+vs.length<=ks.length){d:CL}(hv:CellsA A H ((ks.drop o).take vs.length) vs d):
 Typd A H ks (l.set j (l[j].take o++(d++l[j].drop (o+vs.length)))) (cs.take (j*ks.length+o)++(vs++cs.drop (j*ks.length+o+vs.length))):=by
 have hc:=h.2.2 j l[j] (List.getElem?_eq_getElem hj);have qf:(j+1)*ks.length<=l.length*ks.length:=Nat.mul_le_mul_right _ hj;rw[Nat.add_mul,Nat.one_mul,<-h.1] at qf;have cm:=hc.len;have nc:((cs.drop (j*ks.length)).take ks.length).length=ks.length:=cm.1;have zu:CellsA A H ks (((cs.drop (j*ks.length)).take o)++(vs++((cs.drop (j*ks.length+o+vs.length)).take (ks.length - (o+vs.length))))) (l[j].take o++(d++l[j].drop (o+vs.length))):=by
  have h1:=hc.part 0 o;have h2:=hc.part (o+vs.length) (ks.length - (o+vs.length));simp only[List.drop_zero] at h1;rw[List.take_take,Nat.min_eq_left (by omega)] at h1;have e2:(((cs.drop (j*ks.length)).take ks.length).drop (o+vs.length)).take (ks.length - (o+vs.length))=(cs.drop (j*ks.length+o+vs.length)).take (ks.length - (o+vs.length)):=by
   rw[List.drop_take,List.drop_drop,List.take_take,Nat.min_self,Nat.add_assoc]
  grind [List.take_of_length_le,List.length_drop,CellsA.append,List.drop_drop,List.take_append_drop]
 have qe:(cs.take (j*ks.length+o)++(vs++cs.drop (j*ks.length+o+vs.length))).length=cs.length:=by simp;omega
 refine⟨by rw[qe,h.1,List.length_set],?_,fun i c hi=>?_⟩
 ·have h1:=h.2.1;refine oX (sU fun v mr=>pN h1 v (List.mem_of_mem_take mr)) (oX hv.one (sU fun v mr=>pN h1 v (List.mem_of_mem_drop mr)))
 ·rw[List.getElem?_set] at hi;split at hi
  ·rename_i yq;subst yq;cases hi;have e:((cs.take (j*ks.length+o)++(vs++cs.drop (j*ks.length+o+vs.length))).drop (j*ks.length)).take ks.length=((cs.drop (j*ks.length)).take o)++(vs++((cs.drop (j*ks.length+o+vs.length)).take (ks.length - (o+vs.length)))):=by
    rw[List.drop_append_of_le_length (by simp;omega),List.drop_take,show j*ks.length+o - j*ks.length=o by omega];rw[List.take_append,List.take_take,Nat.min_eq_right (by omega)];congr 1;have e9:((cs.drop (j*ks.length)).take o).length=o:=by grind
    rw[e9,List.take_append,List.take_of_length_le (by omega)];congr 2;omega
   rw[e];exact zu
  ·rename_i yq;have xt:=h.2.2 i c hi;have qi:=lt_of_getElem? hi;have yb:(i+1)*ks.length<=l.length*ks.length:=Nat.mul_le_mul_right _ qi;rw[Nat.add_mul,Nat.one_mul,<-h.1] at yb;have e:((cs.take (j*ks.length+o)++(vs++cs.drop (j*ks.length+o+vs.length))).drop (i*ks.length)).take ks.length=(cs.drop (i*ks.length)).take ks.length:=by
    apply List.ext_getElem?;intro q;rw[List.getElem?_take,List.getElem?_take];by_cases hq:q<ks.length
    ·rw[if_pos hq,if_pos hq,List.getElem?_drop,List.getElem?_drop];rcases Nat.lt_or_ge i j with qm|ki
     ·have:(i+1)*ks.length<=j*ks.length:=Nat.mul_le_mul_right _ qm
      grind
     ·have qm:j<i:=by omega
      have:(j+1)*ks.length<=i*ks.length:=Nat.mul_le_mul_right _ qm;rw[Nat.add_mul,Nat.one_mul] at this;have e1:(cs.take (j*ks.length+o)).length=j*ks.length+o:=by simp;omega
      rw[List.getElem?_append_right (by omega),e1,List.getElem?_append_right (by omega),List.getElem?_drop];congr 1;omega
    grind
   rw[e];exact xt
end
section
variable {P:PG}{E:Env P}{G:RG}{i n d:Nat}{r:OL2}{Q:FQ}{t:Tr Value}{l:LV}{H0:AH}{A:NQ}{L L':OL}{v:Value}{b:Nat}{ks:KL}{l1:LX}
 {ty:TY}{ps:String}{af:Array Edge}{gd:OB}{x y:Operand}
theorem bEu{L'':VL->OL}{ta:TY}{M o m:Nat}{j:Int}{cs vs:VL}{ex:Bool}{ii:TI}{dc:CL}(o1:l1.length<=140737488351232)(o2:l1.length*b<=140737488351232)(ty1:Typd A H0 ks l1 cs)(h0:0<=j)(h1:j<((l1.length:Nat):Int))(hw:gok G.ops l gd=true)(hm:G.D=true->i∈G.ms)(hx:opv l x=some (.pointer (some ⟨2*M+1,j.toNat*m+o,none⟩)))(vu:m=ks.length)(hy:opv l y=some v)(hi:E.inf ta=some ii)(hc:v.cells.toList=vs)(hs:vs.length=ii.size)
 (ho:Nat.ble (o+vs.length) ks.length=true)(hv:CellsA A H0 ((ks.drop o).take vs.length) vs dc)(hu:∀cs',Upd M (.cells cs ks.length ex) (.cells cs' ks.length ex) L (L'' cs'))(hD:∀cs',G.D=true->G.Lw.Sublist (L'' cs'))
 (h:∀cs' l',l'.length=l1.length/\l'=l1.set j.toNat ((elC l1 j).take o++(dc++(elC l1 j).drop (o+vs.length)))->Typd A H0 ks l' cs'->SO E G (i+1) r Q (fr n t l) H0 A (L'' cs')):SO E G i (⟨none,.store ta x y,ty,ps,af,gd⟩::r) Q (fr n t l) H0 A L:=by
 subst vu;have ho:=QL ho;have hj:j.toNat<l1.length:=by omega
 have t1:=ty1.setX hj ho hv;have e:elC l1 j=l1[j.toNat]:=by grind [elC,List.getElem?_eq_getElem]
 have qf:(j.toNat+1)*ks.length<=l1.length*ks.length:=Nat.mul_le_mul_right _ hj;rw[Nat.add_mul,Nat.one_mul,<-ty1.1] at qf;exact kE hw hm hx hy hi hc hs hv.one (hu _) rfl (by omega) (hD _) (h _ _ ⟨by simp,by rw[e]⟩ t1)
end
omit [γ:Gam] in
def uD(l:LX):Nat:=l.countP fun c=>!(cB c 0)
theorem aTt{l:LX}{j:Int}{c:CL}(h0:0<=j)(h1:j<((l.length:Nat):Int))(hf:cB (elC l j) 0=false)(hc:cB c 0=true):uD (l.set j.toNat c)+1=uD l:=by
 obtain⟨a,rfl⟩:∃a:Nat,j=((a:Nat):Int):=⟨j.toNat,by omega⟩
 grind [elC,Int.toNat_natCast,List.getElem?_eq_getElem,uD,List.set]
end Go.AM
namespace Go.AM
open Go.RowKit
inductive SV where
 |undef
 |int (k:IntKind) (n:Int)
 |bool (b:Bool)
 |str (s:BA)
 |nil
 |pnil
 |row (b:Nat) (ks:KL) (l:LX)
 |el (ks:KL) (c:CL) (o:Nat)
 |ptr (i o:Nat)
 |ow (i:Nat)
 |op (i:Nat) (j:Int) (o m:Nat)
 |fn (g:Nat) (cs:List SV)
 |gp (g o:Nat)
 |rng (lo hi:Int)
 |xp (i o m:Nat)
 |any
 |yl (i:Nat)
 /-- a pointer to data whose cells are known -/
 |ep (b:Nat) (ks:KL) (c:CL) (o:Nat) (l:List SV)
 |agg (l:List SV)
 |tup (l:List SV)
inductive SJx where
 |wk (b:Nat) (ks:KL) (l:LX)
 |ho (b:Nat) (ks:KL) (l:LX) (j:Int) (id:Nat)
 |mp (kk:IntKind) (vk:KL) (ag:Bool) (m:Int->Option CL)
 |vals (us:VL) (cs:List SV)
 /-- a strings.Builder:what is written -/
 |bl (t:TY) (u:BL)
 /-- an own row whose elements are known one by one:pointers -/
 |vr (cs:List SV)
inductive SJ where
 |box (t:TY) (cs:List SV)
 |row (b:Nat) (ks:KL) (l:LX)
 |oth (o:SJx)
abbrev FR:=List (Nat×SV)
abbrev HP:=List (Nat×SJ)
abbrev RM:=Nat->Option Value
def kSV(k:Kd)(c:CL)(j:Nat):SV:=match k with
 |.int k=>.int k (cI c j)
 |.bool=>.bool (cB c j)
 |.str=>.str (cS c j)
 |.row b ks=>.row b ks (cR c j)
def aN:KL->List CT->Nat->List SV
 |[],_,_=>[]
 |k::r,c,j=>kSV k c j::aN r c (j+1)
section
variable [σ:Sg]
abbrev SP:=SV->Prop
abbrev SL:=List SV
theorem aMx(p:Addr)(n:Nat):(p.add n).block=p.block:=by grind [Addr.add]
mutual
def Rep(ρ:RM)(A:NQ)(H:AH):SV->Value->Prop
 |.undef,v=>v=undef
 |.int k n,v=>v=.int k n/\(Lit.int k n).wf=true
 |.bool b,v=>v=.bool b
 |.str s,v=>v=.string s/\s.size<=maxLen
 |.nil,v=>v=.slice none 0 0
 |.pnil,v=>v=.pointer none
 |.row b ks l,v=>CellA A H (.row b ks) v (.row l)
 |.el ks c o,v=>∃p xs,v=.pointer (some (p.add o))/\InA A p.block/\aloads H p ks.length=some xs/\CellsA A H ks xs c
 |.ptr i o,v=>∃N,ρ i=some (.pointer (some ⟨2*N+1,0,none⟩))/\v=.pointer (some ⟨2*N+1,o,none⟩)
 |.ow i,v=>ρ i=some v
 |.op i j o m,v=>∃M n c,ρ i=some (.slice (some ⟨2*M+1,0,none⟩) n c)/\v=.pointer (some ⟨2*M+1,j.toNat*m+o,none⟩)
 |.fn g cs,v=>∃vs,v=.func (.func g) ⟨[]⟩ ⟨vs⟩/\Reps ρ A H cs vs
 |.gp g o,v=>v=.pointer (some ⟨2*g,o,none⟩)
 |.rng lo hi,v=>∃z,v=.int .i64 z/\(Lit.int .i64 z).wf=true/\lo<=z/\z<=hi
 |.xp i o m,v=>∃N k,ρ i=some (.pointer (some ⟨2*N+1,0,none⟩))/\k<m/\v=.pointer (some ⟨2*N+1,o+k,none⟩)
 |.ep b ks c o l,v=>l=aN ks c 0/\∃(p:Addr) (xs:VL),v=.pointer (some (p.add o))/\InA A p.block/\aloads H (p.add b) ks.length=some xs/\CellsA A H ks xs c
 |.any,_=>True
 |.yl i,v=>v=.func (.yield (2*i+1)) ⟨[]⟩ ⟨[]⟩
 |.agg l,v=>∃vs,v=.agg ⟨vs⟩/\Reps ρ A H l vs
 |.tup l,v=>∃vs,v=.tuple ⟨vs⟩/\Reps ρ A H l vs
def Reps(ρ:RM)(A:NQ)(H:AH):SL->List Value->Prop
 |[],[]=>True
 |s::r,v::vs=>Rep ρ A H s v/\Reps ρ A H r vs
 |_,_=>False
end
def RMle(ρ ρ':RM):Prop:=∀i v,ρ i=some v->ρ' i=some v
theorem RMle.refl(ρ:RM):RMle ρ ρ:=fun _ _ h=>h
theorem RMle.trans{a b c:RM}(h:RMle a b)(k:RMle b c):RMle a c:=fun i v e=>k i v (h i v e)
section
variable {ρ ρ':RM}{A A':NQ}{H H':AH}
mutual
theorem Rep.mono(hr:RMle ρ ρ')(g:Gr A H A' H'):∀{s:SV} {v:Value},Rep ρ A H s v->Rep ρ' A' H' s v
 |.undef,v,h=>by grind [Rep]
 |.int _ _,v,h=>by grind [Rep]
 |.bool _,v,h=>by grind [Rep]
 |.str _,v,h=>by grind [Rep]
 |.nil,v,h=>by grind [Rep]
 |.pnil,v,h=>by grind [Rep]
 |.row b ks l,v,h=>by grind [Rep,CellA.gr]
 |.el ks c o,v,h=>by
  simp only[Rep] at h ⊢;obtain⟨p,xs,h1,h2,h3,h4⟩:=h;exact⟨p,xs,h1,g.inA h2,by rw[g.aloads h2];exact h3,CellsA.gr g _ _ _ h4⟩
 |.ep b ks c o l,v,h=>by
  simp only[Rep] at h ⊢;obtain⟨h0,p,xs,h1,h2,h3,h4⟩:=h;exact⟨h0,p,xs,h1,g.inA h2,by rw[g.aloads (p:=p.add b) (by rw[aMx];exact h2)];exact h3,CellsA.gr g _ _ _ h4⟩
 |.ptr i o,v,h=>by simp only[Rep] at h ⊢;obtain⟨N,h1,h2⟩:=h;exact⟨N,hr _ _ h1,h2⟩
 |.ow i,v,h=>by simp only[Rep] at h ⊢;exact hr _ _ h
 |.op i j o m,v,h=>by simp only[Rep] at h ⊢;obtain⟨M,n,c,h1,h2⟩:=h;exact⟨M,n,c,hr _ _ h1,h2⟩
 |.fn g' cs,v,h=>by simp only[Rep] at h ⊢;obtain⟨vs,h1,h2⟩:=h;exact⟨vs,h1,Reps.mono hr g h2⟩
 |.gp _ _,v,h=>by grind [Rep]
 |.rng _ _,v,h=>by grind [Rep]
 |.any,v,h=>by simp only[Rep]
 |.yl _,v,h=>by grind [Rep]
 |.xp i o m,v,h=>by simp only[Rep] at h ⊢;obtain⟨N,k,h1,h2⟩:=h;exact⟨N,k,hr _ _ h1,h2⟩
 |.agg l,v,h=>by simp only[Rep] at h ⊢;obtain⟨vs,h1,h2⟩:=h;exact⟨vs,h1,Reps.mono hr g h2⟩
 |.tup l,v,h=>by simp only[Rep] at h ⊢;obtain⟨vs,h1,h2⟩:=h;exact⟨vs,h1,Reps.mono hr g h2⟩
theorem Reps.mono(hr:RMle ρ ρ')(g:Gr A H A' H'):∀{s:SL} {v:VL},Reps ρ A H s v->Reps ρ' A' H' s v
 |[],[],h=>by simp only[Reps]
 |s::r,v::vs,h=>by simp only[Reps] at h ⊢;exact⟨Rep.mono hr g h.1,Reps.mono hr g h.2⟩
 |[],_::_,h=>by simp only[Reps] at h
 |_::_,[],h=>by simp only[Reps] at h
end
theorem Reps.len:∀{s:SL} {v:VL},Reps ρ A H s v->v.length=s.length
 |[],[],_=>rfl
 |s::r,v::vs,h=>by simp only[Reps] at h;simp[Reps.len h.2]
 |[],_::_,h=>by simp only[Reps] at h
 |_::_,[],h=>by simp only[Reps] at h
theorem Reps.at:∀{s:SL} {v:VL},Reps ρ A H s v->∀{j:Nat} {x:SV},s[j]?=some x->∃y,v[j]?=some y/\Rep ρ A H x y
 |s::r,v::vs,h,j,x,e=>by
  simp only[Reps] at h;cases j with
  |zero=>simp_all
  |succ j=>simp only[List.getElem?_cons_succ] at e ⊢;exact Reps.at h.2 e
 |[],[],h,j,x,e=>by simp at e
 |[],_::_,h,_,_,_=>by simp only[Reps] at h
 |_::_,[],h,_,_,_=>by simp only[Reps] at h
theorem Reps.app:∀{s s':SL} {v v':VL},Reps ρ A H s v->Reps ρ A H s' v'->Reps ρ A H (s++s') (v++v')
 |[],s',[],v',_,h=>h
 |s::r,s',v::vs,v',h,k=>by simp only[Reps,List.cons_append] at h ⊢;exact⟨h.1,Reps.app h.2 k⟩
 |[],_,_::_,_,h,_=>by simp only[Reps] at h
 |_::_,_,[],_,h,_=>by simp only[Reps] at h
theorem Reps.take:∀{n:Nat} {s:SL} {v:VL},Reps ρ A H s v->Reps ρ A H (s.take n) (v.take n)
 |0,_,_,_=>by simp[Reps]
 |n+1,[],[],h=>by simp[Reps]
 |n+1,s::r,v::vs,h=>by simp only[Reps,List.take_succ_cons] at h ⊢;exact⟨h.1,Reps.take h.2⟩
 |n+1,[],_::_,h=>by simp only[Reps] at h
 |n+1,_::_,[],h=>by simp only[Reps] at h
theorem Reps.drop:∀{n:Nat} {s:SL} {v:VL},Reps ρ A H s v->Reps ρ A H (s.drop n) (v.drop n)
 |0,_,_,h=>by simpa using h
 |n+1,[],[],h=>by simp[Reps]
 |n+1,s::r,v::vs,h=>by simp only[Reps,List.drop_succ_cons] at h ⊢;exact Reps.drop h.2
 |n+1,[],_::_,h=>by simp only[Reps] at h
 |n+1,_::_,[],h=>by simp only[Reps] at h
end
section
variable {ρ:RM}{A:NQ}{H:AH}
theorem CellA.rep{k:Kd}{x:Value}{c:CL}{j:Nat}{d:CT}(h:CellA A H k x d)(hd:c[j]?=some d):Rep ρ A H (kSV k c j) x:=by
 cases k with
 |int k=>
  obtain⟨n,rfl,rfl,hn⟩:=h.int;simp only[kSV,Rep,cI,cV,hd];exact⟨trivial,hn⟩
 |bool=>
  obtain⟨b,rfl,rfl⟩:=h.bool
  grind [kSV,Rep,cB,cV]
 |str=>
  obtain⟨s,rfl,rfl,hs⟩:=h.str;simp only[kSV,Rep,cS,cV,hd];exact⟨trivial,hs⟩
 |row b ks=>
  obtain⟨l,rfl,_⟩:=h.row
  grind [kSV,Rep,cR]
theorem CellsA.reps{c:CL}:∀{ks:KL} {xs:VL} {cs:CL} {j:Nat},CellsA A H ks xs cs->c.drop j=cs->Reps ρ A H (aN ks c j) xs
 |[],[],[],j,_,_=>by simp only[aN,Reps]
 |k::ks,x::xs,d::cs,j,h,e=>by
  simp only[CellsA] at h;have hd:c[j]?=some d:=by
   have:(c.drop j)[0]?=some d:=by rw[e];rfl
   grind
  simp only[aN,Reps];exact⟨h.1.rep hd,CellsA.reps h.2 (by rw[<-List.drop_drop,e];rfl)⟩
 |[],_::_,_,_,h,_=>by simp[CellsA] at h
 |[],[],_::_,_,h,_=>by simp[CellsA] at h
 |_::_,[],_,_,h,_=>by simp[CellsA] at h
 |_::_,_::_,[],_,h,_=>by simp[CellsA] at h
theorem nA:∀{ks:KL} {c:CL} {i j:Nat} {k:Kd},ks[i]?=some k->(aN ks c j)[i]?=some (kSV k c (j+i))
 |k::ks,c,0,j,k',h=>by grind [aN]
 |k::ks,c,i+1,j,k',h=>by
  simp only[List.getElem?_cons_succ,aN] at h ⊢;rw[nA h];congr 2;omega
 |[],_,_,_,_,h=>by simp at h
theorem sO:∀{o n:Nat} {ks:KL} {c:CL} {j:Nat},((aN ks c j).drop o).take n=aN ((ks.drop o).take n) c (j+o)
 |0,0,ks,c,j=>by simp[aN]
 |0,n+1,[],c,j=>by simp[aN]
 |0,n+1,k::ks,c,j=>by
  have:=sO (o:=0) (n:=n) (ks:=ks) (c:=c) (j:=j+1);simp only[List.drop_zero,Nat.add_zero] at this;simp only[aN,List.drop_zero,List.take_succ_cons,Nat.add_zero,this]
 |o+1,n,[],c,j=>by simp[aN]
 |o+1,n,k::ks,c,j=>by
  simp only[aN,List.drop_succ_cons];rw[sO (o:=o)];congr 1;omega
end
end
end Go.AM
