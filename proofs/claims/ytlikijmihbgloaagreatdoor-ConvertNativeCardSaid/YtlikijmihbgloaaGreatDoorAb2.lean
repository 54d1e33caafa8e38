/-
  An abstract machine that runs a program of the given form, and its soundness, part 2.
-/
import Derived.Test.YtlikijmihbgloaaGreatDoorAb1
import Derived.Deep.DeepAppendWide
set_option linter.unusedVariables false
set_option linter.unusedSimpArgs false
set_option linter.unusedSectionVars false
noncomputable section
namespace Go.AM
open Go.RowKit
variable [σ:Sg]
theorem Rel.kill [Pins]{φ:PL}{H:AH}{w:World}(R:Rel φ H w)(i:Nat):Rel φ {H with tr:=H.tr.set i none} w:=by
 have back:∀j o,(H.tr.set i none).get j=some o->H.tr.get j=some o:=by
  intro j o h;by_cases e:j=i
  ·subst e;rw[Tr.get_set_same] at h;cases h
  ·rwa [Tr.get_set_ne _ _ e] at h
 exact⟨R.below,R.len,fun j o h=>R.obj j o (back j o h),fun j k o1 o2 p q h1 h2=>R.inj j k o1 o2 p q (back _ _ h1) (back _ _ h2),R.pin,R.lt,R.ro' rfl (List.prefix_refl _) fun j _ h=>by
  simp only[Tr.get_set];split
  ·rfl
  ·exact h⟩
theorem ORel.mono{φ φ':PL}(h:φ <+: φ'){p:Place}{o:AObj}{x:Option Obj}(hO:ORel φ p o x):ORel φ' p o x:=by
 cases o with
 |cells cs s e=>obtain⟨C,e,lo,hi,hx,h1,h2,h3,h4,h5,h6⟩:=hO;exact⟨C,e,lo,hi,hx,h1,h2,h3,h4,h5,h6.mono h⟩
 |map es c=>
  obtain⟨es',hx,h1,h2⟩:=hO;exact⟨es',hx,h1,fun i k v b e he df=>let ⟨a1,a2,a3⟩:=h2 i k v b e he df;⟨a1.mono h,a2.mono h,a3⟩⟩
 |iter s q=>exact hO
theorem Rel.takeOver [Pins]{φ:PL}{H:AH}{w:World}(R:Rel φ H w){i:Nat}{cs:VL}{sz:Nat}{ex:Bool}(hg:H.tr.get i=some (.cells cs sz ex)){p:Place}(hp:φ[i]?=some p)
 {base2:Nat}{cs2:VL}{C C2:VL}{e:TY}{lo hi:Nat}(hC:w.heap[p.blk]?=some (.cells C.toArray e (lo,hi)))(hl:C2.length=C.length)
 (qf:base2+cs2.length<=C.length)(hv:VRs φ cs2 ((C2.drop base2).take cs2.length))(qw:sz<=bB+5):
 Rel (φ++[⟨p.blk,base2,p.tot,p.sz⟩]) (dI {H with tr:=H.tr.set i none} (.cells cs2 sz false)) {w with heap:=w.heap.setIfInBounds p.blk (.cells C2.toArray e (lo,hi))}:=by
 have qo:φ <+: φ++[⟨p.blk,base2,p.tot,p.sz⟩]:=⟨_,rfl⟩;obtain⟨q,hq,hN,hO⟩:=R.obj _ _ hg;rw[hp] at hq;cases hq;obtain⟨C',e',lo',ql,hx,hf,ht,hs,yg,y0,hr⟩:=hO;rw[hC] at hx;cases hx;simp only[List.size_toArray] at hf ht;have zt:=alt_of_getElem? hC;have other:∀k,k≠p.blk->({w with heap:=w.heap.setIfInBounds p.blk (.cells C2.toArray e (lo,hi))}:World).heap[k]?=w.heap[k]?:=by
  intro k hk;simp only[Array.getElem?_setIfInBounds];rw[if_neg (fun h=>hk h.symm)]
 have back:∀j o,(dI {H with tr:=H.tr.set i none} (.cells cs2 sz false)).tr.get j=some o->j≠H.nx->H.tr.get j=some o/\j≠i:=by
  intro j o h qn;simp only[dI] at h;rw[Tr.get_set_ne _ _ qn] at h;by_cases e:j=i
  ·subst e;rw[Tr.get_set_same] at h;cases h
  ·rw[Tr.get_set_ne _ _ e] at h;exact⟨h,e⟩
 have zq:∀j o,H.tr.get j=some o->j<H.nx:=by
  intro j o hj;obtain⟨q,hq,_⟩:=R.obj j o hj;rw[<-R.len];exact lt_of_getElem? hq
 have pl:∀j q,j<H.nx->(φ++[⟨p.blk,base2,p.tot,p.sz⟩])[j]?=some q->φ[j]?=some q:=by
  intro j q hl hq
  rwa [List.getElem?_append_left (by rw[R.len];exact hl)] at hq
 have pn:∀q,(φ++[(⟨p.blk,base2,p.tot,p.sz⟩:Place)])[H.nx]?=some q->q.blk=p.blk:=by
  intro q hq;rw[<-R.len] at hq;simp at hq;subst hq;rfl
 refine⟨⟨R.below.os,R.below.tape,R.below.output,by have:=R.below.size;simpa [dI] using this,fun k hk=>?_⟩,by simp[dI,R.len],fun j o hj=>?_,fun j k o1 o2 p1 p2 hj hk ya zk hE=>?_,fun b x hb=>⟨(aBj R hp (R.rdN hg) _ b x hb).1,qO R b x hb ((R.pin b x hb).2 i p hp (R.rdN hg))⟩,by simpa using tZ R.lt (Nat.le_refl _) (q:=⟨p.blk,base2,p.tot,p.sz⟩) (R.lt i p hp),R.ro' rfl qo fun j hj h=>by
  have h1:j≠H.nx:=by have:=R.len;omega
  simp only[dI];rw[Tr.get_set_ne _ _ h1,Tr.get_set];split
  ·rfl
  ·exact h⟩
 ·have uo:k<H.w0.heap.size:=hk;rw[other k (by omega)];exact R.below.block k hk
 ·by_cases av:j=H.nx
  ·subst av;simp only[dI,Tr.get_set_same] at hj;cases hj;refine⟨⟨p.blk,base2,p.tot,p.sz⟩,by rw[<-R.len];simp,hN,C2.toArray,e,lo,hi,by simp[zt],?_,?_,⟨hs.1,hs.2.1,fun q=>absurd q (by omega)⟩,?_,fun h=>by simp at h,?_⟩
   ·simp only[List.size_toArray,hl];exact hf
   ·simp only[List.size_toArray,hl];exact ht
   ·simp only[List.size_toArray,hl];exact qf
   ·exact hv.mono qo
  ·obtain⟨xk,yk⟩:=back j o hj av;obtain⟨q,hq,sx,sy⟩:=R.obj _ _ xk;refine⟨q,getElem?_prefix qo hq,sx,?_⟩;have qn:q.blk≠p.blk:=fun hE=>yk (R.inj j i _ _ q p xk hg hq hp hE);rw[other _ qn];exact sy.mono qo
 ·by_cases h1:j=H.nx<;>by_cases h2:k=H.nx
  ·omega
  ·obtain⟨uo,oe⟩:=back k o2 hk h2;have hq:=pl k p2 (zq k o2 uo) zk;subst h1;rw[pn p1 ya] at hE;exact absurd (R.inj i k _ _ p p2 hg uo hp hq hE).symm oe
  ·obtain⟨xk,yk⟩:=back j o1 hj h1;have hq:=pl j p1 (zq j o1 xk) ya;subst h2;rw[pn p2 zk] at hE;exact absurd (R.inj j i _ _ p1 p xk hg hq hp hE) yk
  ·obtain⟨xk,_⟩:=back j o1 hj h1;obtain⟨uo,_⟩:=back k o2 hk h2;exact R.inj j k _ _ p1 p2 xk uo (pl j p1 (zq j o1 xk) ya) (pl k p2 (zq k o2 uo) zk) hE
section
variable {P:PG}(E:Env P)
def bO(v:Option Value)(dflt y:Nat):Option Nat:=
 match v with
 |none=>some dflt
 |some (.int _ i)=>if 0<=i/\i<=y then some i.toNat else none
 |_=>none
def bC(len cap:Nat)(low high max:Option Value):Option (Nat×Nat×Nat):=
 match bO max cap cap with
 |some m=>(match (match high,max with
  |some v,_=>bO (some v) 0 m
  |none,none=>some len
  |none,some _=>none) with
  |some h=>(match bO low 0 h with
   |some l=>some (l,h,m)
   |none=>none)
  |none=>none)
 |none=>none
def uT(φ:PL)(v v':Option Value):Prop:=(v=none/\v'=none)\/∃a a',v=some a/\v'=some a'/\VR φ a a'
theorem pE{v:Option Value}{d y n:Nat}(h:bO v d y=some n)(hd:v=none->d<=y):n<=y:=by
 unfold bO at h;split at h
 ·cases h;exact hd rfl
 ·split at h
  ·rename_i hi;cases h;omega
  ·cases h
 ·cases h
theorem iF{φ:PL}{v v':Option Value}{d y y' n:Nat}(hv:uT φ v v')(h:bO v d y=some n)(hy:y<=y')(code:BoundsCode)(w:World):
 (v=none/\v'=none/\n=d)\/∃x,v'=some x/\(Instr.sliceBound x y' code).run P w=.ok n w:=by
 rcases hv with⟨rfl,rfl⟩|⟨a,a',rfl,rfl,hr⟩
 ·simp[bO] at h;exact .inl ⟨rfl,rfl,h.symm⟩
 ·right;refine⟨a',rfl,?_⟩;unfold bO at h;split at h
  ·rename_i e;cases e
  ·rename_i k i e;cases e;cases hr;split at h
   ·rename_i hi;cases h;rw[run_sliceBound _ _ _ _ _ hi.1 (by omega)]
   ·cases h
  ·cases h
theorem fL{φ:PL}{len cap cap' l h m:Nat}{lo hi mx lo' ql mx':Option Value}(wq:uT φ lo lo')(ud:uT φ hi ql)(ue:uT φ mx mx')(qe:len<=cap)(hc:cap<=cap')
 (hb:bC len cap lo hi mx=some (l,h,m))(b:Bool)(w:World):
 l<=h/\h<=m/\m<=cap/\∃m',(m'=m\/m'=cap'/\m=cap)/\(Instr.sliceBounds b len cap' lo' ql mx').run P w=.ok (l,h,m') w:=by
 unfold bC at hb;split at hb
 ·rename_i m0 hm;split at hb
  ·rename_i h0 hh;split at hb
   ·rename_i l0 hl;cases hb;have dh:=pE hm (fun _=>Nat.le_refl _);have pe:=pE hl (fun _=>Nat.zero_le _);rcases iF (P:=P) ue hm hc (if b then .slice3Acap else .slice3Alen) w with⟨rfl,rfl,rfl⟩|⟨mxv,rfl,aw⟩
    ·-- no max
     cases hi with
     |none=>
      rcases ud with⟨_,rfl⟩|⟨a,a',e,_⟩
      ·simp at hh;subst hh;refine⟨pe,qe,Nat.le_refl _,cap',.inr ⟨rfl,rfl⟩,?_⟩;rcases iF (P:=P) wq hl (Nat.le_refl _) .sliceB w with⟨rfl,rfl,rfl⟩|⟨x,rfl,hr⟩
       ·simp[Instr.sliceBounds]
       ·simp[Instr.sliceBounds,hr]
      ·cases e
     |some hv=>
      simp only at hh;have fm:=pE hh (by simp);refine⟨pe,fm,Nat.le_refl _,cap',.inr ⟨rfl,rfl⟩,?_⟩;rcases iF (P:=P) ud hh hc (if b then .sliceAcap else .sliceAlen) w with⟨e,_⟩|⟨y,rfl,kr⟩
      ·cases e
      ·rcases iF (P:=P) wq hl (Nat.le_refl _) .sliceB w with⟨rfl,rfl,rfl⟩|⟨x,rfl,hr⟩
       ·simp[Instr.sliceBounds,kr]
       ·simp[Instr.sliceBounds,kr,hr]
    ·-- a max
     cases hi with
     |none=>
      cases mx with
      |none=>rcases ue with⟨_,e⟩|⟨a,a',e,_⟩<;>cases e
      |some _=>cases hh
     |some hv=>
      simp only at hh;have fm:=pE hh (by simp);refine⟨pe,fm,dh,m,.inl rfl,?_⟩;rcases iF (P:=P) ud hh (Nat.le_refl _) .slice3B w with⟨e,_⟩|⟨y,rfl,kr⟩
      ·cases e
      ·rcases iF (P:=P) wq hl (Nat.le_refl _) .slice3C w with⟨rfl,rfl,rfl⟩|⟨x,rfl,hr⟩
       ·simp[Instr.sliceBounds,aw,kr]
       ·simp[Instr.sliceBounds,aw,kr,hr]
   ·cases hb
  ·cases hb
 ·cases hb
def mP(t:TY)(x:Value)(lo hi mx:Option Value)(H:AH):Option Value:=
 match E.und t,x with
 |some .string,.string s=>
  (match mx with
  |none=>(match bC s.data.toList.length s.data.toList.length lo hi none with
   |some (l,h,_)=>some (.string ⟨⟨(s.data.toList.take h).drop l⟩⟩)
   |none=>none)
  |some _=>none)
 |some (.slice e),.slice none 0 0=>(match E.inf e,bC 0 0 lo hi mx with
  |some _,some _=>some (.slice none 0 0)
  |_,_=>none)
 |some (.slice e),.slice none 0 1=>(match E.inf e,bC 0 0 lo hi mx with
  |some _,some _=>some (.slice none 0 1)
  |_,_=>none)
 |some (.slice e),.slice (some a) len cap=>
  (match E.inf e with
  |some i=>
   bif Nat.ble len cap then
    (match bC len cap lo hi mx with
    |some (l,h,m)=>
     bif Nat.beq (a.block%2) 0 then some (.slice (some (if m=l then a else a.add (l*i.size))) (h - l) (m - l))
     else(match H.tr.get (a.block / 2) with
      |some (.cells _ sz _)=>bif Nat.beq sz i.size then some (.slice (some (a.add (l*i.size))) (h - l) (m - l)) else none
      |none=>(match H.w0.rd (a.block / 2) with
       |some c=>bif Nat.beq c.2 i.size then some (.slice (some (a.add (l*i.size))) (h - l) (m - l)) else none
       |none=>none)
      |_=>none)
    |none=>none)
   else none
  |none=>none)
 |some (.array n e),.pointer (some a)=>
  (match E.inf e with
  |some i=>
   (match bC n n lo hi mx with
   |some (l,h,m)=>
    bif Nat.beq (a.block%2) 0 then some (.slice (some (if m=l then a else a.add (l*i.size))) (h - l) (m - l))
    else(match H.tr.get (a.block / 2) with
     |some (.cells cs sz _)=>bif Nat.beq sz i.size&&Nat.ble (a.off+n*i.size) cs.length then some (.slice (some (a.add (l*i.size))) (h - l) (m - l)) else none
     |_=>none)
   |none=>none)
  |none=>none)
 |_,_=>none
theorem tK [Pins]{φ:PL}{H:AH}{w:World}(R:Rel φ H w){i:Nat}{cs:VL}{sz:Nat}{ex:Bool}(hg:H.tr.get i=some (.cells cs sz ex)){p:Place}(hp:φ[i]?=some p):
 p.sz=sz/\p.base+cs.length<=p.tot/\(ex=true->p.base+cs.length=p.tot):=by
 obtain⟨q,hq,hN,hO⟩:=R.obj _ _ hg;rw[hp] at hq;cases hq;obtain⟨C,e,lo,hi,hx,hf,ht,hs,yg,y0,hr⟩:=hO;exact⟨hs.1,by omega,fun h=>by have:=y0 h;omega⟩
theorem ro_sz [π:Pins]{φ:PL}{H:AH}{w:World}(R:Rel φ H w){i:Nat}{c:List Value×Nat}(hc:H.w0.rd i=some c){p:Place}(hp:φ[i]?=some p):p.sz=c.2:=by
 obtain⟨_,q,x,hq,hx,C,e,lo,hi,rfl,h,hr⟩:=R.ro i c hc;rw[hp] at hq;cases hq;exact h
theorem dD{n:Nat}(h:Nat.beq (n%2) 0=false):n%2=1:=by
 have:n%2≠0:=fun e=>by rw[e] at h;cases h
 omega
theorem bR(a:Addr)(n:Nat):(a.add n).block=a.block:=by unfold Addr.add;split<;>rfl
theorem iY(a:Addr)(n:Nat):(a.add n).off=a.off+n:=by unfold Addr.add;split<;>simp_all
theorem SRel.part{φ:PL}{a a':Addr}{len cap cap' size l h m m':Nat}(hs:SRel φ a a' len cap cap')(pe:l<=h)(fm:h<=m)(hmc:m<=cap)(wt:m'=m\/m'=cap'/\m=cap)
 (zm:a.block%2=1)(qu:∀p,φ[a.block / 2]?=some p->esz p.sz=size):
 SRel φ (a.add (l*size)) (if m'=l then a' else a'.add (l*size)) (h - l) (m - l) (m' - l):=by
 rcases hs with⟨h0,_⟩|⟨_,h1,h2,h3⟩
 ·omega
 ·have rc:m<=m':=by rcases wt with rfl|⟨rfl,rfl⟩<;>omega
  refine .inr ⟨by rw[bR];exact zm,by omega,by omega,?_⟩;by_cases ic:m'=l
  ·left;omega
  ·rw[if_neg ic];rcases h3 with h3|⟨hA,hb⟩
   ·left;rcases wt with rfl|⟨rfl,rfl⟩<;>omega
   ·right;refine⟨hA.add _,fun p hp=>?_⟩;rw[bR] at hp;have e1:=hb p hp;have e2:=qu p hp;rw[e2] at e1;rw[iY,e2];have qf:m'<=cap':=by rcases wt with rfl|⟨rfl,rfl⟩<;>omega
    have e3:l*size+(m' - l)*size=m'*size:=by rw[<-Nat.add_mul];congr 1;omega
    have e4:m'*size<=cap'*size:=Nat.mul_le_mul_right _ qf;omega
theorem zP [Pins]{φ:PL}{H:AH}{w:World}(R:Rel φ H w){t:TY}{x x':Value}{lo hi mx lo' ql mx':Option Value}{v:Value}(hx:VR φ x x')(wq:uT φ lo lo')(ud:uT φ hi ql)(ue:uT φ mx mx')
 (h:mP E t x lo hi mx H=some v):∃v',VR φ v v'/\(Instr.sliceAt t x' lo' ql mx').run P w=.ok v' w:=by
 unfold mP at h;split at h
 ·-- strings
  rename_i s hu;cases hx;split at h
  ·split at h
   ·rename_i l hh m hb;cases h;rcases ue with⟨_,rfl⟩|⟨a,a',e,_⟩
    ·obtain⟨h1,h2,h3,m',_,hr⟩:=fL (P:=P) wq ud (.inl ⟨rfl,rfl⟩) (Nat.le_refl _) (Nat.le_refl _) hb false w;refine⟨_,.string _,?_⟩;have yq:s.data.toList.length=s.size:=by rw[Array.length_toList];rfl
     rw[yq] at hr;have y0:s.extract l hh=⟨⟨(s.data.toList.take hh).drop l⟩⟩:=by
      apply ByteArray.ext;rw[ByteArray.data_extract];rw[<-Array.toList_inj];simp only[Array.toList_extract,List.extract_eq_drop_take']
     simp[Instr.sliceAt,Instr.slice,aG E hu,hr,y0]
    ·cases e
   ·cases h
  ·cases h
 ·-- nil
  rename_i e hu;cases hx;split at h
  ·rename_i i r hi hb;cases h;obtain⟨l,hh,m⟩:=r;obtain⟨h1,h2,h3,m',wt,hr⟩:=fL (P:=P) wq ud ue (Nat.le_refl _) (Nat.le_refl _) hb true w;have:m'=0:=by rcases wt with rfl|⟨rfl,_⟩<;>omega
   subst this;obtain rfl:l=0:=by omega
   obtain rfl:hh=0:=by omega
   exact⟨_,.snil 0 0,by simp[Instr.sliceAt,Instr.slice,aG E hu,hr,aL E hi]⟩
  ·cases h
 ·-- an empty slice of which nothing else is known
  rename_i e hu;have hx:EmpV x':=by
   cases hx with
   |snil _ _=>exact⟨_,_,rfl⟩
   |emp h=>exact h
  split at h
  ·rename_i i r hi hb;cases h;obtain⟨l,hh,m⟩:=r;obtain⟨a',c',rfl⟩:=hx;obtain⟨h1,h2,h3,m',wt,hr⟩:=fL (P:=P) wq ud ue (Nat.le_refl _) (Nat.zero_le c') hb true w;obtain rfl:l=0:=by omega
   obtain rfl:hh=0:=by omega
   refine⟨.slice (if m'=0 then a' else a'.map (·.add (0*i.size))) 0 (m' - 0),.emp ⟨_,_,rfl⟩,?_⟩;simp[Instr.sliceAt,Instr.slice,aG E hu,hr,aL E hi]
  ·cases h
 ·-- slices
  rename_i e a len cap hu;cases hx with
  | @slc _ a' _ _ cap' hs=>
    split at h
    ·rename_i i hi;cases wz:Nat.ble len cap with
     |false=>rw[wz] at h;cases h
     |true=>
      rw[wz,QT] at h;have re:=QL wz;split at h
      ·rename_i l hh m hb;cases qz:Nat.beq (a.block%2) 0 with
       |true=>
        rw[qz,QT] at h;cases h;have uq:=QN qz;rcases hs with⟨h0,rfl,hA⟩|⟨h0,_⟩
        ·obtain⟨h1,h2,h3,m',wt,hr⟩:=fL (P:=P) wq ud ue re (Nat.le_refl _) hb true w;obtain rfl:m'=m:=by rcases wt with rfl|⟨rfl,rfl⟩<;>rfl
         refine⟨.slice (some (if m'=l then a' else a'.add (l*i.size))) (hh - l) (m' - l),.slc (.inl ⟨?_,rfl,?_⟩),?_⟩
         ·split
          ·exact h0
          ·rw[bR];exact h0
         ·split
          ·exact hA
          ·exact hA.add _
         ·simp[Instr.sliceAt,Instr.slice,aG E hu,hr,aL E hi];split<;>rfl
        ·omega
       |false=>
        rw[qz,QF] at h;have zm:=dD qz;split at h
        ·rename_i cs sz ex hg;cases qu:Nat.beq sz i.size with
         |false=>rw[qu] at h;cases h
         |true=>
          rw[qu,QT] at h;cases h;have xc:=QN qu;have zj:cap<=cap':=by rcases hs with⟨h0,_⟩|⟨_,_,h2,_⟩<;>omega
          obtain⟨h1,h2,h3,m',wt,hr⟩:=fL (P:=P) wq ud ue re zj hb true w;refine⟨.slice (some (if m'=l then a' else a'.add (l*i.size))) (hh - l) (m' - l),.slc (hs.part h1 h2 h3 wt zm fun p hp=>by rw[(tK R hg hp).1,xc,cC (E.sz_lt _ _ hi)]),?_⟩;simp[Instr.sliceAt,Instr.slice,aG E hu,hr,aL E hi];split<;>rfl
        ·split at h
         ·rename_i c hc;cases qu:Nat.beq c.2 i.size with
          |false=>rw[qu] at h;cases h
          |true=>
           rw[qu,QT] at h;cases h;have xc:=QN qu;have zj:cap<=cap':=by rcases hs with⟨h0,_⟩|⟨_,_,h2,_⟩<;>omega
           obtain⟨h1,h2,h3,m',wt,hr⟩:=fL (P:=P) wq ud ue re zj hb true w;refine⟨.slice (some (if m'=l then a' else a'.add (l*i.size))) (hh - l) (m' - l),.slc (hs.part h1 h2 h3 wt zm fun p hp=>by rw[ro_sz R hc hp,xc,cC (E.sz_lt _ _ hi)]),?_⟩;simp[Instr.sliceAt,Instr.slice,aG E hu,hr,aL E hi];split<;>rfl
         ·cases h
        ·cases h
      ·cases h
    ·cases h
 ·-- arrays
  rename_i n e a hu;cases hx with
  | @ptr _ a' hA=>
    split at h
    ·rename_i i hi;split at h
     ·rename_i l hh m hb;obtain⟨h1,h2,h3,m',wt,hr⟩:=fL (P:=P) wq ud ue (Nat.le_refl _) (Nat.le_refl _) hb false w;obtain rfl:m'=m:=by rcases wt with rfl|⟨rfl,rfl⟩<;>rfl
      have qp:(Instr.sliceAt t (.pointer (some a')) lo' ql mx').run P w=.ok (.slice (some (if m'=l then a' else a'.add (l*i.size))) (hh - l) (m' - l)) w:=by
       simp[Instr.sliceAt,Instr.sureAddr,aG E hu,hr,aL E hi]
      cases qz:Nat.beq (a.block%2) 0 with
      |true=>
       rw[qz,QT] at h;cases h;have uq:=QN qz;refine⟨_,.slc (.inl ⟨?_,rfl,?_⟩),qp⟩
       ·split
        ·exact uq
        ·rw[bR];exact uq
       ·split
        ·exact hA
        ·exact hA.add _
      |false=>
       rw[qz,QF] at h;have zm:=dD qz;split at h
       ·rename_i cs sz ex hg;cases qu:(Nat.beq sz i.size&&Nat.ble (a.off+n*i.size) cs.length) with
        |false=>rw[qu] at h;cases h
        |true=>
         rw[qu,QT] at h;cases h;simp only[QB] at qu;have xc:=QN qu.1;have qf:=QL qu.2;refine⟨_,.slc (SRel.part (len:=n) (cap:=n) (cap':=n) (.inr ⟨zm,Nat.le_refl _,Nat.le_refl _,.inr ⟨hA,fun p hp=>?_⟩⟩) h1 h2 h3 (.inl rfl) zm fun p hp=>by rw[(tK R hg hp).1,xc,cC (E.sz_lt _ _ (by assumption))]),qp⟩;have:=tK R hg hp;rw[this.1,xc,cC (E.sz_lt _ _ (by assumption))];omega
       ·cases h
     ·cases h
    ·cases h
 ·cases h
def jT(t:TY)(len cap:Value)(H:AH):Option (Value×AH):=
 match E.und t,len,cap with
 |some (.slice e),.int _ l,.int _ c=>(match E.inf e with
  |some i=>(match i.zero with
   |some z=>
    if 0<=l/\l<=c/\c<=140737488355328/\i.bytes*c<=281474976710656 then
     some (cH H l.toNat c.toNat,dI H (.cells (extL (cT (if c.toNat*i.size=0 then #[] else z.cells) (c.toNat*i.size))) i.size true))
    else none
   |none=>none)
  |none=>none)
 |_,_,_=>none
theorem zM(z:Array Value)(n:Nat):(cT z n).length=n:=by simp[cT]
theorem qQ{n:Int}(h0:0<=n)(h1:n<=140737488355328):IntKind.i64.wrap n=n:=by
 simp only[IntKind.wrap,IntKind.bits,IntKind.signed];have e:n%(2^64:Int)=n:=Int.emod_eq_of_lt h0 (by omega);simp only[e];rw[if_neg (by simp;omega)]
theorem yY [Pins]{φ:PL}{H H':AH}{w:World}(R:Rel φ H w){t:TY}{len len' cap cap':Value}{v:Value}(hl:VR φ len len')(hc:VR φ cap cap')(h:jT E t len cap H=some (v,H')):
 SOk P (Instr.makeSlice t len' cap') φ w v H':=by
 unfold jT at h;split at h
 ·rename_i e k l k2 c hu;cases hl;cases hc;split at h
  ·rename_i i hi;split at h
   ·rename_i z hz;split at h
    ·rename_i ur;obtain⟨h0,h1,h2,h3⟩:=ur;cases h;have hv:=VRs.ext φ (cT (if c.toNat*i.size=0 then #[] else z.cells) (c.toNat*i.size));refine⟨_,_,_,⟨_,rfl⟩,R.newCells hv e i.size (SzE.small (E.sz_lt _ _ hi)),.slc (SRel.new R.len _ rfl (c:=c.toNat) (by omega) (Nat.le_refl _) (by simp only;rw[cC (E.sz_lt _ _ hi),zM];exact Nat.le_refl _)),?_⟩;obtain⟨ii,v6,e1,e2,e3⟩:=yX E hi w;have fo:¬(281474976710656<(i.bytes:Int)*c):=by omega
     have og:(i.bytes:Int)*l<=(i.bytes:Int)*c:=Int.mul_le_mul_of_nonneg_left h1 (by omega);have di:¬c<0:=by omega
     have ym:¬l<0:=by omega
     have wz:¬c<l:=by omega
     simp only[Instr.makeSlice,Sem.run_bind,aG E hu,Result.andThen_ok,asInt,asIntOf,Sem.run_pure,v6,qQ h0 (by omega:l<=140737488355328),qQ (by omega:0<=c) h2,e2];have ut:((2:Int)^48)=281474976710656:=by decide
     have dj:((decide (c<0)||decide ((i.bytes:Int)*c>2^48))||decide (l<0)||decide (l>c))=false:=by
      simp only[ut];simp;omega
     simp only[dj,Bool.false_eq_true,if_false,Sem.run_bind,run_askRoom,Result.andThen_ok,aL E hi];by_cases wy:c.toNat*i.size=0
     ·simp only[wy,if_true,Sem.run_pure,Result.andThen_ok,newRow,Sem.run_bind,run_newObj];rfl
     ·simp only[wy,if_false,Sem.run_bind,bD E hi hz,Sem.run_pure,Result.andThen_ok,newRow,run_newObj];rfl
    ·cases h
   ·cases h
  ·cases h
 ·cases h
end
end Go.AM
namespace Go.AM
open Go.RowKit
variable [σ:Sg]
def iV(need bytes:Nat):Bool:=Nat.ble (need*bytes) 140737488355328||Nat.ble ((need+need / 4+192)*bytes) 281474976710656
theorem rE{need bytes:Nat}(h:need*bytes<=140737488355328):iV need bytes=true:=by
 unfold iV;rw[Nat.ble_eq_true_of_le h];rfl
theorem aHo{need old bytes:Nat}(h:old<need)(hb:iV need bytes=true):Builtin.nextslicecap need old*bytes<=281474976710656:=by
 rcases Bool.or_eq_true_iff.1 hb with hb|hb
 ·exact growslice_fits h (QL hb)
 ·exact growslice_fits_wide h (QL hb)
theorem Rel.congr [Pins]{φ:PL}{H H2:AH}{w:World}(R:Rel φ H w)(h0:H2.w0=H.w0)(h1:H2.nx=H.nx)(h2:∀j,H2.tr.get j=H.tr.get j):Rel φ H2 w:=
 ⟨by rw[h0];exact R.below,by rw[h1];exact R.len,fun i o h=>by rw[h0];exact R.obj i o (by rw[<-h2];exact h),fun i j o o' p q hi hj=>R.inj i j o o' p q (by rw[<-h2];exact hi) (by rw[<-h2];exact hj),by rw[h0];exact R.pin,R.lt,R.ro' h0 (List.prefix_refl _) fun i _ h=>by rw[h2];exact h⟩
section
variable {P:PG}(E:Env P)
def fM:TypeDesc->Bool
 |.int _=>true
 |_=>false
def cU(size n:Nat)(x:Value)(H:AH):Option VL:=
 match x with
 |.slice (some a) _ _=>aloads H a (n*size)
 |.slice none _ _=>bif Nat.beq n 0 then some [] else none
 |.string s=>some ((s.data.toList.take n).map fun b=>.int .u8 b.toNat)
 |_=>none
def iQ(x:Value):Option Nat:=
 match x with
 |.slice _ n _=>some n
 |.string s=>some s.data.toList.length
 |_=>none
theorem iC{φ:PL}{x x':Value}{n:Nat}(hx:VR φ x x')(h:iQ x=some n)(w:World):(Builtin.lenOf x').run P w=.ok n w:=by
 unfold iQ at h;split at h
 ·cases h;cases hx with
  |emp e=>obtain⟨_,_,rfl⟩:=e;simp[Builtin.lenOf]
  |_=>simp[Builtin.lenOf]
 ·cases h;cases hx;simp[Builtin.lenOf]
 ·cases h
theorem pC [Pins]{φ:PL}{H:AH}{w:World}(R:Rel φ H w){size n m:Nat}{x x':Value}{l:VL}(hx:VR φ x x')(hm:iQ x=some m)(hn:n<=m)(h:cU size n x H=some l):
 ∃l',VRs φ l l'/\(Builtin.firstCells size n x').run P w=.ok ⟨l'⟩ w:=by
 unfold cU at h;split at h
 ·rename_i a k c;cases hx with
  | @slc _ a' _ _ c' hs=>
    simp[iQ] at hm;subst hm;have hA:n*size=0\/ARel φ a a':=by
     rcases hs with⟨_,_,hA⟩|⟨_,h1,h2,h3|⟨hA,_⟩⟩
     ·exact .inr hA
     ·left;obtain rfl:n=0:=by omega
      simp
     ·exact .inr hA
    obtain⟨l',h1,h2,h3⟩:=lJ R hA h;refine⟨l',h1,?_⟩;have:=run_loadCells_list (P:=P) w a' l' h3;rw[h2] at this;simp[Builtin.firstCells,this]
 ·cases hb:Nat.beq n 0 with
  |false=>rw[hb] at h;cases h
  |true=>
   rw[hb,QT] at h;cases h;cases hx with
   |snil _ _=>exact⟨[],VRs.nil φ,by simp[Builtin.firstCells]⟩
   |emp e=>
    obtain⟨a',c',rfl⟩:=e;have hb:=QN hb;subst hb;refine⟨[],VRs.nil φ,?_⟩;cases a' with
    |none=>simp[Builtin.firstCells]
    |some a'=>simp[Builtin.firstCells,loadCells,loadCellsFrom]
 ·rename_i s;cases h;cases hx;have key:∀bs:BL,VRs φ (bs.map fun b=>Value.int .u8 (b.toNat:Int)) (bs.map fun b=>Value.int .u8 (b.toNat:Int)):=by
   intro bs
   induction bs with
   |nil=>exact VRs.nil φ
   |cons b bs ih=>exact VRs.cons (.int _ _) ih
  refine⟨_,key _,?_⟩;simp only[Builtin.firstCells,Sem.run_pure];congr 1;rw[<-Array.toList_inj];simp[ByteArray.data_extract]
 ·cases h
def aUd:Value->Bool
 |.string _=>true
 |_=>false
def rA(e:TY)(x:Value)(size:Nat):Nat:=bif aUd x&&(Nat.beq e 5&&Nat.beq size 1) then bB+5 else size
def lX(sz size:Nat)(e:TY):Bool:=Nat.beq sz size||(Nat.beq sz (bB+5)&&(Nat.beq e 5&&Nat.beq size 1))
theorem aAy{e:TY}{x:Value}{size:Nat}(h:size<bB):esz (rA e x size)=size/\SzE (rA e x size) e:=by
 unfold rA;cases q:(aUd x&&(Nat.beq e 5&&Nat.beq size 1)) with
 |false=>rw[QF];exact⟨cC h,SzE.small h⟩
 |true=>
  rw[QT];simp only[QB] at q;have q1:=QN q.2.1;have q2:=QN q.2.2;rw[q1,q2];exact⟨aKt (by decide),fun _=>by decide⟩
theorem aOw{sz size:Nat}{e:TY}(h:size<bB)(q:lX sz size e=true):esz sz=size/\SzE sz e/\sz<=bB+5:=by
 unfold lX at q;rw[Bool.or_eq_true] at q;rcases q with q|q
 ·have q:=QN q;subst q;exact⟨cC h,SzE.small h,by omega⟩
 ·simp only[QB] at q;have q0:=QN q.1;have q1:=QN q.2.1;have q2:=QN q.2.2;rw[q0,q1,q2];exact⟨aKt (by decide),fun _=>by decide,Nat.le_refl _⟩
def dJ(tg size bytes n:Nat)(s:Value)(sLen:Nat)(new:VL)(H:AH):Option (Value×AH):=
 match cU size sLen s H with
 |some old=>bif iV (sLen+n) bytes&&(Nat.ble (sLen+n) 140737488355328&&(Nat.beq old.length (sLen*size)&&Nat.beq new.length (n*size))) then
  some (cH H (sLen+n) (sLen+n),dI H (.cells (old++new) tg false))
  else none
 |none=>none
def sW(i:TI)(s x:Value)(H:AH):Option (Value×AH):=
 match s,x,i.zero with
 |.slice none 0 0,.int _ n,some z=>
  if 0<=n/\n<=140737488355328/\n.toNat*i.bytes<=140737488355328 then
   (if n.toNat=0\/i.size=0 then none else some (cH H n.toNat n.toNat,dI H (.cells (extL (Builtin.zeroCells z.cells n.toNat).toList) i.size false)))
  else none
 |_,_,_=>none
theorem aFq [Pins]{φ:PL}{H H':AH}{w:World}(R:Rel φ H w){e sT xT:TY}{i:TI}(hu:E.und sT=some (.slice e)){k0:IntKind}(hx:E.und xT=some (.int k0))(hi:E.inf e=some i){s s' x x' v:Value}(ty:TY)
 (hs:VR φ s s')(xn:VR φ x x')(h:sW i s x H=some (v,H')):SOk P (Builtin.append_ #[sT,xT] ty #[s',x']) φ w v H':=by
 unfold sW at h;split at h
 ·rename_i k n z hz;cases hs;cases xn;split at h
  ·rename_i hc;obtain⟨h0,h1,h2⟩:=hc;split at h
   ·cases h
   ·rename_i qn;cases h;have sq:n.toNat≠0:=fun e=>qn (.inl e);have xa:i.size≠0:=fun e=>qn (.inr e);have ku:=E.zs_ok _ _ _ hi hz;obtain⟨ii,v6,e1,e2,e3⟩:=E.inf_ok e i hi;have zb:∀w,(typeInfo e).run P w=.ok ii w:=fun w=>by simp[typeInfo,v6]
    have ie:IntKind.i64.wrap n=n:=qQ h0 h1;have ym:¬n<0:=by omega
    have ut:((2:Int)^48)=281474976710656:=by decide
    have kw:(2:Nat)^48=281474976710656:=by decide
    have hb:¬(n*(ii.bytes:Int)>2^48):=by
     rw[ut,e2];have:((n.toNat*i.bytes:Nat):Int)<=((140737488355328:Nat):Int):=Int.ofNat_le.2 h2;have om:((n.toNat:Nat):Int)=n:=Int.toNat_of_nonneg h0;rw[Int.natCast_mul,om] at this;omega
    have dm:=growslice_fits (need:=n.toNat) (old:=0) (bytes:=i.bytes) (by omega) h2;have c1:¬(((0+n.toNat:Nat):Int)>IntKind.i64.max/\(True\/ii.bytes=0)):=by
     simp only[IntKind.max_i64];omega
    have c2:¬(Builtin.nextslicecap (0+n.toNat) 0*ii.bytes>2^48):=by rw[e2,kw,Nat.zero_add];omega
    have rf:¬(0+n.toNat<=0):=by omega
    have uf:¬(n.toNat*i.size=0):=by
     intro e;rcases Nat.mul_eq_zero.1 e with e|e
     ·exact sq e
     ·exact xa e
    let cap:=(Question.appendCap (0+n.toNat) 0 e).cut (w.tape w.drawn (.appendCap (0+n.toNat) 0 e))
    have rg:n.toNat<=cap:=by
     show n.toNat<=0+n.toNat+_;omega
    have hq:(Question.appendCap (0+n.toNat) 0 e).forced=false:=rfl;have dn:=VRs.ext φ (Builtin.zeroCells z.cells n.toNat).toList;have hR:=R.drew.newSpare (more:=(Builtin.zeroCells z.cells (cap - (0+n.toNat))).toList) dn e i.size (SzE.small (E.sz_lt _ _ hi));refine⟨_,_,_,⟨_,rfl⟩,hR,.slc (SRel.new R.len _ rfl (Nat.le_refl _) rg ?_),?_⟩
    ·show cap*esz i.size<=_;rw[cC (E.sz_lt _ _ hi)];simp only[List.length_append,Builtin.zeroCells,Array.toList_map,List.length_map,Array.length_toList,Array.size_range];rw[ku,<-Nat.add_mul];apply Nat.mul_le_mul_right;omega
    ·have fin:((Builtin.zeroCells z.cells n.toNat).toList++(Builtin.zeroCells z.cells (cap - (0+n.toNat))).toList).toArray=((#[]:Array Value)++Builtin.zeroCells z.cells n.toNat)++Builtin.zeroCells z.cells (cap - (0+n.toNat)):=by
      rw[<-Array.toList_inj];simp
     rw[fin];refine Eq.trans (b:=Result.ok (Value.slice (some ⟨w.drew.heap.size,0,none⟩) (0+n.toNat) cap) (w.drew.alloc (.cells ((#[]:Array Value)++Builtin.zeroCells z.cells n.toNat++Builtin.zeroCells z.cells (cap - (0+n.toNat))) e))) ?_ (by rw[Nat.zero_add])
     simp only[Builtin.append_,List.getElem?_toArray,List.getElem?_cons_zero,List.getElem?_cons_succ,Sem.run_bind,aG E hu,Result.andThen_ok,aL E hi,aG E hx,asInt,asIntOf,Sem.run_pure,ie,ym,zb,hb,rf,c1,c2,uf,
      if_true,if_false,Bool.not_true,Bool.false_eq_true,run_choose,hq,run_askRoom,World.drew_eq,Builtin.firstCells,bD E hi hz,newRow,run_newObj,World.alloc_eq]
     rfl
  ·cases h
 ·cases h
def gJ(sT xT:TY)(s x:Value)(H:AH):Option (Value×AH):=
 match E.und sT,E.und xT with
 |some (.slice e),some dx=>
  bif fM dx then(match E.inf e with
   |some i=>sW i s x H
   |none=>none)
  else
  (match E.inf e,iQ x with
  |some i,some n=>
   bif Nat.beq i.size 0||i.zero.isNone then none else
   (match cU i.size n x H with
   |some new=>
    (match s with
    |.slice base sLen sCap=>
     bif Nat.beq n 0 then(bif Nat.ble sLen sCap then some (s,H) else none) else
     (match base with
     |none=>bif Nat.beq sLen 0&&Nat.beq sCap 0 then dJ (rA e x i.size) i.size i.bytes n s sLen new H else none
     |some a=>
      bif Nat.beq (a.block%2) 0 then(bif Nat.ble (sLen+n) sCap then none else dJ i.size i.size i.bytes n s sLen new H)
      else(match H.tr.get (a.block / 2) with
       |some (.cells cs sz ex)=>
        bif lX sz i.size e then
         bif Nat.ble (sLen+n) sCap then
          (match gP H (a.add (sLen*i.size)) new with
          |some H'=>some (.slice base (sLen+n) sCap,H')
          |none=>none)
         else bif ex then(bif Nat.ble (cs.length+1) (a.off+(sLen+n)*i.size) then dJ sz i.size i.bytes n s sLen new H else none)
         else bif Nat.beq (a.off+sLen*i.size) cs.length&&(iV (sLen+n) i.bytes&&(Nat.ble (sLen+n) 140737488355328&&(Nat.beq new.length (n*i.size)&&aY new))) then
          some (cH H (sLen+n) (sLen+n),dI {H with tr:=H.tr.set (a.block / 2) none} (.cells (cs.drop a.off++new) sz false))
         else none
        else none
       |_=>none))
    |_=>none)
   |none=>none)
  |_,_=>none)
 |_,_=>none
theorem qE{e sT xT:TY}{i:TI}{z:Value}(hu:E.und sT=some (.slice e)){dx:TypeDesc}(hx:E.und xT=some dx)(yd:fM dx=false)(hi:E.inf e=some i)(hz:i.zero=some z)
 {base:Option Addr}{sLen sCap n:Nat}{x:Value}(ty:TY){w:World}(qe:∀w,(Builtin.lenOf x).run P w=.ok n w)(z7:sCap<sLen+n)(hb:iV (sLen+n) i.bytes=true)(ky:sLen+n<=140737488355328)
 {old new:VL}(v7:(Builtin.firstCells i.size sLen (.slice base sLen sCap)).run P w.drew=.ok ⟨old⟩ w.drew)(zn:(Builtin.firstCells i.size n x).run P w.drew=.ok ⟨new⟩ w.drew):
 ∃c,sLen+n<=c/\(Builtin.append_ #[sT,xT] ty #[.slice base sLen sCap,x]).run P w=.ok (.slice (some ⟨w.heap.size,0,none⟩) (sLen+n) c) (w.drew.alloc (.cells ((old++new)++(Builtin.zeroCells z.cells (c - (sLen+n))).toList).toArray e)):=by
 have dm:=aHo z7 hb;refine⟨(Question.appendCap (sLen+n) sCap e).cut (w.tape w.drawn (.appendCap (sLen+n) sCap e)),by simp[Question.cut],?_⟩;obtain⟨ii,v6,e1,e2,e3⟩:=E.inf_ok e i hi;have zb:∀w,(typeInfo e).run P w=.ok ii w:=fun w=>by simp[typeInfo,v6]
 have c1:¬(((sLen+n:Nat):Int)>IntKind.i64.max/\(False\/ii.bytes=0)):=by
  simp only[IntKind.max_i64];omega
 have ut:(2:Nat)^48=281474976710656:=by decide
 have c2:¬(Builtin.nextslicecap (sLen+n) sCap*ii.bytes>2^48):=by rw[e2,ut];omega
 have rf:¬(sLen+n<=sCap):=by omega
 have hq:(Question.appendCap (sLen+n) sCap e).forced=false:=rfl;simp only[Builtin.append_,List.getElem?_toArray,List.getElem?_cons_zero,List.getElem?_cons_succ,Sem.run_bind,aG E hu,Result.andThen_ok,aL E hi]
 have fin:((old++new)++(Builtin.zeroCells z.cells ((Question.appendCap (sLen+n) sCap e).cut (w.tape w.drawn (.appendCap (sLen+n) sCap e)) - (sLen+n))).toList).toArray=
  (⟨old⟩++⟨new⟩:Array Value)++Builtin.zeroCells z.cells ((Question.appendCap (sLen+n) sCap e).cut (w.tape w.drawn (.appendCap (sLen+n) sCap e)) - (sLen+n)):=by
  rw[<-Array.toList_inj];simp
 rw[fin];cases dx
 case int k=>simp[fM] at yd
 all_goals
  simp only[aG E hx,Result.andThen_ok,Bool.false_eq_true,if_false,qe,rf,zb,c1,c2,Sem.run_bind,run_choose,hq,run_askRoom,World.drew_eq,v7,Bool.not_false,if_true,zn,bD E hi hz,newRow,run_newObj,Sem.run_pure,World.alloc_eq];rfl
theorem dH{e sT xT:TY}{i:TI}(hu:E.und sT=some (.slice e)){dx:TypeDesc}(hx:E.und xT=some dx)(yd:fM dx=false)(hi:E.inf e=some i)
 {base:Option Addr}{sLen sCap n:Nat}{x:Value}(ty:TY){w w':World}(qe:(Builtin.lenOf x).run P w=.ok n w)(z7:sLen+n<=sCap)
 {new:VL}(zn:(Builtin.firstCells i.size n x).run P w=.ok ⟨new⟩ w)(qr:match base with|some a=>(storeCells (a.add (sLen*i.size)) new 0).run P w=.ok () w'|none=>w'=w):
 (Builtin.append_ #[sT,xT] ty #[.slice base sLen sCap,x]).run P w=.ok (.slice base (sLen+n) sCap) w':=by
 simp only[Builtin.append_,List.getElem?_toArray,List.getElem?_cons_zero,List.getElem?_cons_succ,Sem.run_bind,aG E hu,Result.andThen_ok,aL E hi];cases dx
 case int k=>simp[fM] at yd
 all_goals
  simp only[aG E hx,Result.andThen_ok,Bool.false_eq_true,if_false,qe,z7,Sem.run_bind,Bool.not_false,if_true,zn,Sem.run_pure];cases base with
  |none=>simp only at qr;subst qr;rfl
  |some a=>simp only at qr;simp only[Sem.run_bind,qr,Result.andThen_ok,Sem.run_pure]
theorem kC [Pins]{φ:PL}{H H':AH}{w:World}(R:Rel φ H w){e sT xT:TY}{i:TI}(hu:E.und sT=some (.slice e)){dx:TypeDesc}(hx:E.und xT=some dx)(yd:fM dx=false)
 (hi:E.inf e=some i)(hz:i.zero.isNone=false){base base':Option Addr}{sLen sCap sCap' n:Nat}{x x' v:Value}(ty:TY)(hs:VR φ (.slice base sLen sCap) (.slice base' sLen sCap'))(xn:VR φ x x')(hn:iQ x=some n)
 {new:VL}(zn:cU i.size n x H=some new)(z7:sCap'<sLen+n){tg:Nat}(ig:esz tg=i.size)(z9:SzE tg e)(h:dJ tg i.size i.bytes n (.slice base sLen sCap) sLen new H=some (v,H')):
 SOk P (Builtin.append_ #[sT,xT] ty #[.slice base' sLen sCap',x']) φ w v H':=by
 unfold dJ at h;split at h
 ·rename_i old v7;cases hb:(iV (sLen+n) i.bytes&&(Nat.ble (sLen+n) 140737488355328&&(Nat.beq old.length (sLen*i.size)&&Nat.beq new.length (n*i.size)))) with
  |false=>rw[hb] at h;cases h
  |true=>
   rw[hb,QT] at h;cases h;simp only[QB] at hb;obtain⟨uw,w8,m8,kz⟩:=hb;have w8:=QL w8;have m8:=QN m8;have kz:=QN kz;obtain⟨z,xy⟩:∃z,i.zero=some z:=by cases ja:i.zero with|none=>rw[ja] at hz;cases hz|some z=>exact⟨z,rfl⟩
   obtain⟨old',kc,jb⟩:=pC (P:=P) R.drew hs (m:=sLen) rfl (Nat.le_refl _) v7;obtain⟨new',jc,dp⟩:=pC (P:=P) R.drew xn hn (Nat.le_refl _) zn;obtain⟨c,hc,qp⟩:∃c,sLen+n<=c/\(Builtin.append_ #[sT,xT] ty #[.slice base' sLen sCap',x']).run P w=.ok (.slice (some ⟨w.heap.size,0,none⟩) (sLen+n) c) (w.drew.alloc (.cells ((old'++new')++(Builtin.zeroCells z.cells (c - (sLen+n))).toList).toArray e)):=
    qE E hu hx yd hi xy ty (fun w=>iC xn hn w) z7 uw w8 jb dp
   have dn:=kc.append jc;have hR:=R.drew.newSpare (more:=(Builtin.zeroCells z.cells (c - (sLen+n))).toList) dn e tg z9;refine⟨_,_,_,⟨_,rfl⟩,hR,.slc (SRel.new R.len _ rfl (Nat.le_refl _) hc ?_),qp⟩;show c*esz tg<=_;rw[ig];have ku:=E.zs_ok _ _ _ hi xy;have e1:=kc.1;have e2:=jc.1;simp only[List.length_append,Builtin.zeroCells,Array.toList_map,List.length_map,Array.length_toList,Array.size_range];rw[ku,<-e1,<-e2,m8,kz,<-Nat.add_mul,<-Nat.add_mul];apply Nat.mul_le_mul_right;omega
 ·cases h
theorem aGy [Pins]{φ:PL}{H H':AH}{w:World}(R:Rel φ H w){sT xT:TY}{s s' x x' v:Value}(ty:TY)(hs:VR φ s s')(hx:VR φ x x')(h:gJ E sT xT s x H=some (v,H')):
 SOk P (Builtin.append_ #[sT,xT] ty #[s',x']) φ w v H':=by
 unfold gJ at h;split at h
 ·rename_i e dx hu su;cases yd:fM dx with
  |true=>
   rw[yd,QT] at h;split at h
   ·rename_i i hi;cases dx with
    |int k0=>exact aFq E R hu su hi ty hs hx h
    |_=>simp[fM] at yd
   ·cases h
  |false=>
   rw[yd,QF] at h;split at h
   ·rename_i i n hi hn;cases qu:(Nat.beq i.size 0||i.zero.isNone) with
    |true=>rw[qu] at h;cases h
    |false=>
     rw[qu,QF] at h;simp only[Bool.or_eq_false_iff] at qu;have yq:i.size≠0:=fun e=>by rw[e] at qu;cases qu.1
     split at h
     ·rename_i new zn;obtain⟨new',jd,rf⟩:=pC (P:=P) R hx hn (Nat.le_refl _) zn;split at h
      ·rename_i base sLen sCap;cases sq:Nat.beq n 0 with
       |true=>
        rw[sq,QT] at h;obtain rfl:=QN sq;cases wz:Nat.ble sLen sCap with
        |false=>rw[wz] at h;cases h
        |true=>
         rw[wz,QT] at h;cases h;have re:=QL wz;have je:new'=[]:=by
          have hl:new.length=0:=by
           unfold cU at zn;split at zn
           ·simp[aloads] at zn;rw[zn];rfl
           ·simp at zn;rw[zn];rfl
           ·cases zn;simp
           ·cases zn
          have:=jd.1;exact List.eq_nil_of_length_eq_zero (by omega)
         subst je;cases hs with
         |snil l c=>exact .here R (.snil _ _) (dH E hu su yd hi ty (iC hx hn w) (by omega) rf rfl)
         |emp e=>
          obtain⟨a',c',rfl⟩:=e;refine .here R (.emp ⟨_,_,rfl⟩) (dH E hu su yd hi ty (iC hx hn w) (Nat.zero_le _) rf ?_);cases a' with
          |none=>rfl
          |some a'=>simp[storeCells]
         | @slc _ a' _ _ c' wu=>
           have zj:sCap<=c':=by rcases wu with⟨_,rfl,_⟩|⟨_,_,h2,_⟩<;>omega
           exact .here R (.slc wu) (dH E hu su yd hi ty (iC hx hn w) (by omega) rf (by simp[storeCells]))
       |false=>
        rw[sq,QF] at h;have ij:n≠0:=fun e=>by rw[e] at sq;cases sq
        split at h
        ·-- nil
         cases hz:(Nat.beq sLen 0&&Nat.beq sCap 0) with
         |false=>rw[hz] at h;cases h
         |true=>
          rw[hz,QT] at h;simp only[QB] at hz;have e1:=QN hz.1;have e2:=QN hz.2;cases hs with
          |emp _=>cases e2
          |snil _ _=>
          exact kC E R hu su yd hi qu.2 ty (.snil _ _) hx hn zn (by omega) (aAy (E.sz_lt _ _ hi)).1 (aAy (E.sz_lt _ _ hi)).2 h
        ·rename_i a;cases hs with
         | @slc _ a' _ _ c' wu=>
           cases qz:Nat.beq (a.block%2) 0 with
           |true=>
            rw[qz,QT] at h;have uq:=QN qz;cases hr:Nat.ble (sLen+n) sCap with
            |true=>rw[hr] at h;cases h
            |false=>
             rw[hr,QF] at h;have ke:sCap<sLen+n:=by
              rcases Nat.lt_or_ge sCap (sLen+n) with h'|h'
              ·exact h'
              ·rw[Nat.ble_eq_true_of_le h'] at hr;cases hr
             have zj:c'=sCap:=by rcases wu with⟨_,e,_⟩|⟨h0,_⟩<;>omega
             exact kC E R hu su yd hi qu.2 ty (.slc wu) hx hn zn (by omega) (cC (E.sz_lt _ _ hi)) (SzE.small (E.sz_lt _ _ hi)) h
           |false=>
            rw[qz,QF] at h;have zm:=dD qz;split at h
            ·rename_i cs sz ex hg;cases rh:lX sz i.size e with
             |false=>rw[rh] at h;cases h
             |true=>
              rw[rh,QT] at h;obtain⟨vo,oq,ik⟩:=aOw (E.sz_lt _ _ hi) rh;have dq:=wu;rcases dq with⟨h0,_⟩|⟨_,h1,h2,h3⟩
              ·omega
              cases hr:Nat.ble (sLen+n) sCap with
              |true=>
               rw[hr,QT] at h;have ke:=QL hr;split at h
               ·rename_i H2 qr;cases h;rcases h3 with h3|⟨hA,x9⟩
                ·omega
                ·obtain⟨w',ux,vp⟩:=pZ P R (hA.add (sLen*i.size)) jd qr;exact⟨φ,_,w',List.prefix_refl _,vp,.slc (.inr ⟨zm,ke,h2,.inr ⟨hA,x9⟩⟩),dH E hu su yd hi ty (iC hx hn w) (by omega) rf ux⟩
               ·cases h
              |false=>
               rw[hr,QF] at h;cases ex with
               |true=>
                rw[QT] at h;cases qf:Nat.ble (cs.length+1) (a.off+(sLen+n)*i.size) with
                |false=>rw[qf] at h;cases h
                |true=>
                 rw[qf,QT] at h;have ul:=QL qf;refine kC E R hu su yd hi qu.2 ty (.slc wu) hx hn zn ?_ vo oq h;rcases h3 with h3|⟨hA,x9⟩
                 ·omega
                 ·rcases hA with⟨h0,_⟩|⟨_,_,_,p,hp,_⟩
                  ·omega
                  ·have hb:=x9 p hp;obtain⟨o1,o2,o3⟩:=tK R hg hp;have o3:=o3 rfl;rw[o1,vo] at hb;rcases Nat.lt_or_ge c' (sLen+n) with h'|h'
                   ·exact h'
                   ·have:=Nat.mul_le_mul_right i.size h';omega
               |false=>
                rw[QF] at h;cases hb:(Nat.beq (a.off+sLen*i.size) cs.length&&(iV (sLen+n) i.bytes&&(Nat.ble (sLen+n) 140737488355328&&(Nat.beq new.length (n*i.size)&&aY new)))) with
                |false=>rw[hb] at h;cases h
                |true=>
                 rw[hb,QT] at h;simp only[QB] at hb;obtain⟨ay,uw,w8,m8,kz⟩:=hb;have ay:=QN ay;have w8:=QL w8;have ot:=QN m8;rcases Nat.lt_or_ge c' (sLen+n) with z7|z7
                 ·-- no room in the world:a new row
                  have v7:cU i.size sLen (.slice (some a) sLen sCap) H=some (cs.drop a.off):=by
                   show aloads H a (sLen*i.size)=_;unfold aloads;by_cases wy:sLen*i.size=0
                   ·rw[wy];simp;omega
                   ·rw[show Nat.beq (sLen*i.size) 0=false by(cases hq:sLen*i.size with|zero=>exact absurd hq wy|succ m=>rfl),QF,qz,QF,hg];simp only;rw[Nat.ble_eq_true_of_le (by omega),QT];congr 1;apply List.take_of_length_le;simp;omega
                  have hH:dJ sz i.size i.bytes n (.slice (some a) sLen sCap) sLen new H=some (cH H (sLen+n) (sLen+n),dI H (.cells (cs.drop a.off++new) sz false)):=by
                   unfold dJ;rw[v7];simp only;rw[uw,Nat.ble_eq_true_of_le w8,m8,show Nat.beq (cs.drop a.off).length (sLen*i.size)=true by(rw[Nat.beq_eq];simp;omega)];rfl
                  obtain⟨φ',v',w',q1,q2,q3,q4⟩:=kC E R hu su yd hi qu.2 ty (.slc wu) hx hn zn z7 vo oq hH;cases h;refine⟨φ',v',w',q1,?_,q3,q4⟩;refine(q2.kill (a.block / 2)).congr rfl rfl fun j=>?_;have qj:a.block / 2<H.nx:=by
                   obtain⟨p,hp,_⟩:=R.obj _ _ hg;rw[<-R.len];exact lt_of_getElem? hp
                  simp only[dI];rw[Tr.get_set,Tr.get_set,Tr.get_set,Tr.get_set];by_cases j1:j=H.nx
                  ·rw[if_pos j1,if_neg (by omega),if_pos j1]
                  ·rw[if_neg j1,if_neg j1]
                 ·-- room:the old row is taken over
                  cases h;rcases h3 with h3|⟨hA,x9⟩
                  ·omega
                  rcases hA with⟨h0,_⟩|⟨_,kf,jf,p,hp,zt,v8⟩
                  ·omega
                  have hb:=x9 p hp;obtain⟨o1,o2,_⟩:=tK R hg hp;obtain⟨q,hq,hN,hO⟩:=R.obj _ _ hg;rw[hp] at hq;cases hq;obtain⟨C,ee,lo,wx,xn,hf,ht,xg,yg,y0,v9⟩:=hO;have hC:w.heap[p.blk]?=some (.cells C.toList.toArray ee (lo,wx)):=by simpa using xn
                  have dt:=Nat.mul_le_mul_right i.size z7;rw[Nat.add_mul] at dt;rw[o1,vo] at hb;have jg:new'.length=n*i.size:=by rw[<-jd.1,ot]
                  have jh:C.toList.length=C.size:=Array.length_toList;have qr:=nA P new' 0 w (a'.add (sLen*i.size)) C.toList ee lo wx (by rw[bR,zt];exact hC) (by rw[lO _ jf]) (by simpa using hf) (by rw[iY,v8,jg];omega) (qY jd kz);rw[bR,iY,zt,v8,Nat.add_zero] at qr;refine⟨_,_,_,⟨_,rfl⟩,R.takeOver hg hp (base2:=p.base+a.off) (cs2:=cs.drop a.off++new) (C2:=splice C.toList (p.base+a.off+sLen*i.size) new') hC (eQ (by omega)) ?_ ?_ ik,?_,dH E hu su yd hi ty (iC hx hn w) z7 rf qr⟩
                  ·simp only[List.length_append,List.length_drop,ot];omega
                  ·have hd:=v9.drop a.off;have:=hd.append jd;have e5:((splice C.toList (p.base+a.off+sLen*i.size) new').drop (p.base+a.off)).take (cs.drop a.off++new).length=((C.toList.drop p.base).take cs.length).drop a.off++new':=by
                    apply List.ext_getElem?;intro k;rw[List.getElem?_take,List.getElem?_drop,qC (by omega)];simp only[List.length_append,List.length_drop,ot];by_cases k1:k<sLen*i.size
                    ·rw[if_pos (by omega),if_pos (by omega),List.getElem?_append_left (by simp;omega),List.getElem?_drop,List.getElem?_take,if_pos (by omega),List.getElem?_drop];congr 1;omega
                    ·by_cases k2:k<sLen*i.size+n*i.size
                     ·rw[if_pos (by omega),if_neg (by omega),if_pos (by omega),List.getElem?_append_right (by simp;omega)];congr 1;simp;omega
                     ·rw[if_neg (by omega)];symm;apply List.getElem?_eq_none;simp;omega
                   rw[e5];exact this
                  ·refine .slc (.inr ⟨by simp only;omega,Nat.le_refl _,z7,.inr ⟨.inr ⟨by simp only;omega,rfl,jf,⟨p.blk,p.base+a.off,p.tot,p.sz⟩,?_,zt,by simp[v8]⟩,fun q hq=>?_⟩⟩)
                   ·have:(2*H.nx+1) / 2=φ.length:=by rw[R.len];omega
                    simp[this]
                   ·have:(2*H.nx+1) / 2=φ.length:=by rw[R.len];omega
                    simp only[this] at hq;simp at hq;subst hq;simp only;rw[o1,vo];omega
            ·cases h
      ·cases h
     ·cases h
   ·cases h
 ·cases h
end
end Go.AM
namespace Go.AM
open Go.RowKit
variable [σ:Sg]
section
variable {P:PG}(E:Env P)
def aFu(dT:TY)(d x:Value)(H:AH):Option (Value×AH):=
 match E.und dT,d,iQ x with
 |some (.slice e),.slice base dLen dc,some m=>(match E.inf e with
  |some i=>
   (match cU i.size (Nat.min m dLen) x H with
   |some l=>
    (match base with
    |some a=>bif Nat.beq l.length 0 then some (.int .i64 (Nat.min m dLen),H) else(match gP H a l with
     |some H'=>some (.int .i64 (Nat.min m dLen),H')
     |none=>none)
    |none=>bif Nat.beq dc 1 then none else some (.int .i64 (Nat.min m dLen),H))
   |none=>none)
  |none=>none)
 |_,_,_=>none
theorem aXk [Pins]{φ:PL}{H H':AH}{w:World}(R:Rel φ H w){dT xT:TY}{d d' x x' v:Value}(ty:TY)(hd:VR φ d d')(hx:VR φ x x')(h:aFu E dT d x H=some (v,H')):
 SOk P (Builtin.copy_ #[dT,xT] ty #[d',x']) φ w v H':=by
 unfold aFu at h;split at h
 ·rename_i e base dLen dc m hu hm;split at h
  ·rename_i i hi;split at h
   ·rename_i l hl;obtain⟨l',h1,h2⟩:=pC (P:=P) R hx hm (Nat.min_le_left _ _) hl;have qe:=iC (P:=P) hx hm w;split at h
    ·rename_i a;cases hd with
     | @slc _ a' _ _ c' hs=>
       cases ym:Nat.beq l.length 0 with
       |true=>
        rw[ym,QT] at h;cases h;have e1:=QN ym;have:l'=[]:=List.eq_nil_of_length_eq_zero (by have:=h1.1;omega);subst this;refine .here R (.int _ _) ?_;simp[Builtin.copy_,aG E hu,qe,aL E hi,h2,goInt,storeCells]
       |false=>
        rw[ym,QF] at h;split at h
        ·rename_i H2 qr;cases h;have hA:ARel φ a a':=by
          rcases hs with⟨_,_,hA⟩|⟨zm,q1,q2,h3|⟨hA,_⟩⟩
          ·exact hA
          ·exfalso;obtain rfl:dLen=0:=by omega
           have hz:Nat.min m 0=0:=Nat.min_zero m;rw[hz] at hl;have:l.length=0:=by
            unfold cU at hl;split at hl
            ·simp[aloads] at hl;rw[hl];rfl
            ·simp at hl;rw[hl];rfl
            ·cases hl;simp
            ·cases hl
           rw[this] at ym;cases ym
          ·exact hA
         obtain⟨w',ux,vp⟩:=pZ P R hA h1 qr;refine⟨φ,_,w',List.prefix_refl _,vp,.int _ _,?_⟩;simp[Builtin.copy_,aG E hu,qe,aL E hi,h2,goInt,ux]
        ·cases h
    ·cases uy:Nat.beq dc 1 with
     |true=>rw[uy] at h;cases h
     |false=>
     rw[uy,QF] at h;cases h;cases hd with
     |emp _=>cases uy
     |snil _ _=>
     refine .here R (.int _ _) ?_;simp[Builtin.copy_,aG E hu,qe,aL E hi,h2,goInt]
   ·cases h
  ·cases h
 ·cases h
def aFz(t:TY)(x:Value)(H:AH):Option Value:=
 match E.und t,x with
 |some .string,.string s=>some (.int .i64 s.data.toList.length)
 |some (.array n _),_=>some (.int .i64 n)
 |some (.slice _),.slice _ n _=>some (.int .i64 n)
 |some (.map _ _),.map none=>some (.int .i64 0)
 |some (.map _ _),.map (some r)=>
  bif Nat.beq (r%2) 0 then none else
  (match H.tr.get (r / 2) with
  |some (.map es _)=>some (.int .i64 es.length)
  |_=>none)
 |_,_=>none
theorem sC [Pins]{φ:PL}{H:AH}{w:World}(R:Rel φ H w){r r':Nat}(hr:BRel φ r r')(zm:r%2=1){es:List (Value×Value×Nat)}{clock:Nat}(hg:H.tr.get (r / 2)=some (.map es clock)):
 ∃es':Array MapEntry,w.heap[r']?=some (.map es' clock)/\yW φ es es'.toList:=by
 rcases hr with⟨h0,_⟩|⟨_,p,hp,rfl⟩
 ·omega
 ·obtain⟨q,hq,hN,hO⟩:=R.obj _ _ hg;rw[hp] at hq;cases hq;exact hO
theorem cY{w:World}{r:Nat}{es:Array MapEntry}{c:Nat}(h:w.heap[r]?=some (.map es c)):(getObj r).run P w=.ok (.map es c) w:=by
 simp[getObj,Sem.run,h]
theorem aLb [Pins]{φ:PL}{H:AH}{w:World}(R:Rel φ H w){t ty:TY}{x x' v:Value}(hx:VR φ x x')(h:aFz E t x H=some v):
 ∃v',VR φ v v'/\(Builtin.len_ #[t] ty #[x']).run P w=.ok v' w:=by
 unfold aFz at h;split at h
 ·rename_i hu;cases h;cases hx;exact⟨_,.int _ _,by simp[Builtin.len_,aG E hu,goInt]⟩
 ·rename_i hu;cases h;exact⟨_,.int _ _,by simp[Builtin.len_,aG E hu,goInt]⟩
 ·rename_i hu;cases h;cases hx with
  |emp e=>obtain⟨_,_,rfl⟩:=e;exact⟨_,.int _ _,by simp[Builtin.len_,aG E hu,goInt]⟩
  |_=>exact⟨_,.int _ _,by simp[Builtin.len_,aG E hu,goInt]⟩
 ·rename_i hu;cases h;cases hx;exact⟨_,.int _ _,by simp[Builtin.len_,aG E hu,goInt]⟩
 ·rename_i r hu;cases hx with
  |mp hr=>
   cases qz:Nat.beq (r%2) 0 with
   |true=>rw[qz] at h;cases h
   |false=>
    rw[qz,QF] at h;split at h
    ·rename_i es c hg;cases h;obtain⟨es',h1,h2⟩:=sC R hr (dD qz) hg;refine⟨_,.int _ _,?_⟩;have hl:es'.size=es.length:=by rw[<-Array.length_toList];exact h2.1.symm
     simp[Builtin.len_,aG E hu,goInt,cY h1,hl]
    ·cases h
 ·cases h
def bEw(t:TY)(x:Value)(H:AH):Option Value:=
 match E.und t,x with
 |some (.array n _),_=>some (.int .i64 n)
 |some (.slice _),.slice none _ 0=>some (.int .i64 0)
 |some (.slice e),.slice (some a) _ c=>
  bif Nat.beq (a.block%2) 0 then some (.int .i64 c) else
  (match E.inf e,H.tr.get (a.block / 2) with
  |some i,some (.cells cs sz true)=>bif Nat.beq sz i.size&&Nat.blt cs.length (a.off+(c+1)*sz) then some (.int .i64 c) else none
  |_,_=>none)
 |_,_=>none
theorem aKz [Pins]{φ:PL}{H:AH}{w:World}(R:Rel φ H w){t ty:TY}{x x' v:Value}(hx:VR φ x x')(h:bEw E t x H=some v):
 ∃v',VR φ v v'/\(Builtin.cap_ #[t] ty #[x']).run P w=.ok v' w:=by
 unfold bEw at h;split at h
 ·rename_i hu;cases h;exact⟨_,.int _ _,by simp[Builtin.cap_,aG E hu,goInt]⟩
 ·rename_i hu;cases h;cases hx;exact⟨_,.int _ _,by simp[Builtin.cap_,aG E hu,goInt]⟩
 ·rename_i e a l c hu;cases hx with
  | @slc _ a' _ _ c' hs=>
    have qp:(Builtin.cap_ #[t] ty #[.slice (some a') l c']).run P w=.ok (.int .i64 c') w:=by simp[Builtin.cap_,aG E hu,goInt]
    cases qz:Nat.beq (a.block%2) 0 with
    |true=>
     rw[qz,QT] at h;cases h;have uq:=QN qz;rcases hs with⟨_,rfl,_⟩|⟨h0,_⟩
     ·exact⟨_,.int _ _,qp⟩
     ·omega
    |false=>
     rw[qz,QF] at h;have zm:=dD qz;split at h
     ·rename_i i cs sz hi hg;cases hb:(Nat.beq sz i.size&&Nat.blt cs.length (a.off+(c+1)*sz)) with
      |false=>rw[hb] at h;cases h
      |true=>
       rw[hb,QT] at h;cases h;simp only[QB] at hb;have qj:cs.length+1<=a.off+(c+1)*sz:=QL hb.2;have zj:c'=c:=by
        rcases hs with⟨h0,_⟩|⟨_,h1,h2,h3|⟨hA,x9⟩⟩
        ·omega
        ·omega
        ·rcases hA with⟨h0,_⟩|⟨_,_,_,p,hp,_⟩
         ·omega
         ·have w8:=x9 p hp;obtain⟨o1,o2,o3⟩:=tK R hg hp;have o3:=o3 rfl;rw[o1,show esz sz=sz by(rw[QN hb.1];exact cC (E.sz_lt _ _ hi))] at w8;rcases Nat.lt_or_ge c' (c+1) with h'|h'
          ·omega
          ·have:=Nat.mul_le_mul_right sz h';omega
       subst zj;exact⟨_,.int _ _,qp⟩
     ·cases h
 ·cases h
def rO(H:AH):Value×AH:=(.map (some (2*H.nx+1)),dI H (.map [] 0))
theorem aGh [Pins]{φ:PL}{H:AH}{w:World}(R:Rel φ H w)(t:TY):SOk P (Instr.makeMap t none) φ w (rO H).1 (rO H).2:=by
 refine⟨_,_,_,⟨_,rfl⟩,R.new (.map [] 0) (.map #[] 0) 0 0 ⟨#[],rfl,rfl,fun i k v b e h=>by simp at h⟩,.mp (r':=w.heap.size) (.inr ⟨by omega,⟨w.heap.size,0,0,0⟩,?_,rfl⟩),?_⟩
 ·have:(2*H.nx+1) / 2=φ.length:=by rw[R.len];omega
  simp[this]
 ·simp[Instr.makeMap]
def dV:TypeDesc->Value->Bool
 |.string,.string _=>true
 |.int k,.int k' _=>decide (k=k')
 |_,_=>false
theorem gD{d:TypeDesc}{k:Value}(h:dV d k=true):(d=.string/\∃s,k=.string s)\/∃kk n,d=.int kk/\k=.int kk n:=by
 unfold dV at h;split at h
 ·exact .inl ⟨rfl,_,rfl⟩
 ·rename_i k1 k2 n;simp only[decide_eq_true_eq] at h;subst h;exact .inr ⟨_,_,rfl,rfl⟩
 ·cases h
theorem wF{φ:PL}{d:TypeDesc}{k k':Value}(h:VR φ k k')(hk:dV d k=true):k'=k:=by
 unfold dV at hk;split at hk
 ·cases h;rfl
 ·cases h;rfl
 ·cases hk
def lN:Value->Value->Bool
 |.string a,.string b=>a.data.toList==b.data.toList
 |.int k a,.int k' b=>decide (k=k')&&a==b
 |_,_=>false
def jN(d:TypeDesc)(k:Value):List (Value×Value×Nat)->Nat->Option (Option (Nat×Value))
 |[],_=>some none
 |(k',v,_)::es,i=>bif dV d k' then(bif lN k k' then some (some (i,v)) else jN d k es (i+1)) else none
theorem rN{φ:PL}{d:TypeDesc}{k:Value}(hk:dV d k=true):∀(es:List (Value×Value×Nat)) (es':List MapEntry) (i:Nat) (r:Option (Nat×Value)),yW φ es es'->jN d k es i=some r->
 ∃r',Instr.findNow d k es' i=some r'/\(match r with
  |none=>r'=none
  |some (j,v)=>∃v',r'=some (j,v')/\VR φ v v'/\i<=j/\∃e,es'[j - i]?=some e/\e.key=k):=by
 intro es
 induction es with
 |nil=>
  intro es' i r hE h;simp[jN] at h;subst h;have:es'=[]:=List.eq_nil_of_length_eq_zero hE.1.symm;subst this;exact⟨none,rfl,rfl⟩
 |cons x es ih=>
  intro es' i r hE h;obtain⟨k',v,b⟩:=x;cases es' with
  |nil=>have:=hE.1;simp at this
  |cons e es'=>
   obtain⟨r1,r2,r3⟩:=hE.2 0 k' v b e rfl rfl;simp only[jN] at h;cases ji:dV d k' with
   |false=>rw[ji] at h;cases h
   |true=>
    rw[ji,QT] at h;have w9:e.key=k':=wF r1 ji;have pf:Instr.sameNow d k e.key=some (lN k k'):=by
     rw[w9];rcases gD hk with⟨rfl,s,rfl⟩|⟨kk,n,rfl,rfl⟩<;>rcases gD ji with⟨h1,s',rfl⟩|⟨kk',n',h1,rfl⟩
     ·simp only[Instr.sameNow,lN,beq_toListBytes,ByteArray.toList_eq]
     ·cases h1
     ·cases h1
     ·cases h1;simp[Instr.sameNow,lN]
    cases hs:lN k k' with
    |true=>
     rw[hs,QT] at h;cases h;refine⟨some (i,e.val),by simp[Instr.findNow,pf,hs],e.val,rfl,r2,Nat.le_refl _,e,by simp,?_⟩;rw[w9];rcases gD hk with⟨rfl,s,rfl⟩|⟨kk,n,rfl,rfl⟩<;>rcases gD ji with⟨h1,s',rfl⟩|⟨kk',n',h1,rfl⟩
     ·simp only[lN,beq_iff_eq] at hs;congr 1;apply ByteArray.ext;rw[<-Array.toList_inj];exact hs.symm
     ·cases h1
     ·cases h1
     ·simp only[lN,QB,decide_eq_true_eq,beq_iff_eq] at hs;rw[hs.1,hs.2]
    |false=>
     rw[hs,QF] at h;have du:yW φ es es':=⟨by have:=hE.1;simpa using this,fun j k v b e h1 h2=>hE.2 (j+1) k v b e (by simpa using h1) (by simpa using h2)⟩;obtain⟨r',q1,q2⟩:=ih es' (i+1) r du h;refine⟨r',by simp[Instr.findNow,pf,hs,q1],?_⟩;split
     ·exact q2
     ·rename_i j v;obtain⟨v',a1,a2,a3,e,a4,a5⟩:=q2;refine⟨v',a1,a2,by omega,e,?_,a5⟩;rw[show j - i=(j - (i+1))+1 by omega];simpa using a4
def fJ(t:TY)(x ix:Value)(ok:Bool)(H:AH):Option Value:=
 match E.und t,x with
 |some (.map kt et),.map r=>
  (match E.und kt,E.inf et with
  |some d,some i=>
   bif dV d ix then
    (match i.zero with
    |some z=>
     (match (match r with
      |none=>some []
      |some r=>bif Nat.beq (r%2) 0 then none else(match H.tr.get (r / 2) with
       |some (.map es _)=>some es
       |_=>none)) with
     |some es=>
      (match jN d ix es 0 with
      |some (some (_,v))=>some (if ok then .tuple ⟨[v,.bool true]⟩ else v)
      |some none=>some (if ok then .tuple ⟨[ext z,.bool false]⟩ else ext z)
      |none=>none)
     |none=>none)
    |none=>none)
   else none
  |_,_=>none)
 |_,_=>none
theorem rP{kt:TY}{d:TypeDesc}{k:Value}(hd:E.und kt=some d)(hk:dV d k=true)(b:Bool)(n:Nat)(w:World):(Instr.checkKey b (n+1) kt k).run P w=.ok () w:=by
 simp only[Instr.checkKey,Sem.run_bind,aG E hd,Result.andThen_ok];rcases gD hk with⟨rfl,s,rfl⟩|⟨kk,n,rfl,rfl⟩<;>rfl
theorem aGx [Pins]{φ:PL}{H:AH}{w:World}(R:Rel φ H w){t:TY}{x x' ix ix' v:Value}{ok:Bool}(hx:VR φ x x')(hi:VR φ ix ix')(h:fJ E t x ix ok H=some v):
 ∃v',VR φ v v'/\(Instr.lookup t x' ix' ok).run P w=.ok v' w:=by
 unfold fJ at h;split at h
 ·rename_i kt et r hu;split at h
  ·rename_i d i hd xm;cases hk:dV d ix with
   |false=>rw[hk] at h;cases h
   |true=>
    rw[hk,QT] at h;obtain rfl:=wF hi hk;split at h
    ·rename_i z hz;split at h
     ·rename_i es yx
      have hr:∃es':Array MapEntry,yW φ es es'.toList/\(Instr.lookup t x' ix' ok).run P w=(do
       Instr.checkKey es'.isEmpty 10000 kt ix'
       let (v,o) <-match <-Instr.findKey kt ix' es'.toList with
        |some (_,v)=>pure (v,true)
        |none=>pure (<-zeroValue et,false)
       pure (if ok then .tuple #[v,.bool o] else v):Sem Value).run P w:=by
       cases hx with
       |mnil=>
        simp at yx;subst yx;refine⟨#[],⟨rfl,fun i k v b e h=>by simp at h⟩,?_⟩;unfold Instr.lookup;rw[Sem.run_bind,aG E hu];rfl
       |mp hr=>
        rename_i rr rr';simp only at yx;cases qz:Nat.beq (rr%2) 0 with
        |true=>rw[qz] at yx;cases yx
        |false=>
         rw[qz,QF] at yx;split at yx
         ·rename_i es2 c hg;cases yx;obtain⟨es',h1,h2⟩:=sC R hr (dD qz) hg;refine⟨es',h2,?_⟩;unfold Instr.lookup;rw[Sem.run_bind,aG E hu];simp only[Result.andThen_ok];rw[Sem.run_bind,cY h1];rfl
         ·cases yx
      obtain⟨es',hE,vd⟩:=hr;rw[vd];have xz:=rP E hd hk es'.isEmpty 9999 w;split at h
      ·rename_i j v1 hf;cases h;obtain⟨r',q1,v',rfl,q2,_⟩:=rN hk es es'.toList 0 _ hE hf;have wb:(Instr.findKey kt ix' es'.toList).run P w=.ok (some (j,v')) w:=by simp[Instr.findKey,aG E hd,q1]
       refine⟨if ok then .tuple #[v',.bool true] else v',?_,?_⟩
       ·cases ok
        ·exact q2
        ·exact VR.tuple' (VRs.cons q2 (VRs.cons (.bool true) (VRs.nil φ)))
       ·simp only[Sem.run_bind,xz,Result.andThen_ok,wb,Sem.run_pure]
      ·rename_i hf;cases h;obtain⟨r',q1,rfl⟩:=rN hk es es'.toList 0 _ hE hf;have wb:(Instr.findKey kt ix' es'.toList).run P w=.ok none w:=by simp[Instr.findKey,aG E hd,q1]
       refine⟨if ok then .tuple #[z,.bool false] else z,?_,?_⟩
       ·cases ok
        ·exact VR.ext φ z
        ·exact VR.tuple' (VRs.cons (VR.ext φ z) (VRs.cons (.bool false) (VRs.nil φ)))
       ·simp only[Sem.run_bind,xz,Result.andThen_ok,wb,bD E xm hz,Sem.run_pure]
      ·cases h
     ·cases h
    ·cases h
  ·cases h
 ·cases h
def fR(t:TY)(m k v:Value)(H:AH):Option AH:=
 match E.und t,m with
 |some (.map kt _),.map (some r)=>
  bif Nat.beq (r%2) 0 then none else
  (match E.und kt,H.tr.get (r / 2) with
  |some d,some (.map es c)=>
   bif dV d k then
    (match jN d k es 0 with
    |some (some (j,_))=>some {H with tr:=H.tr.set (r / 2) (some (.map (es.modify j fun e=>(k,v,e.2.2)) c))}
    |some none=>some {H with tr:=H.tr.set (r / 2) (some (.map (es++[(k,v,c)]) (c+1)))}
    |none=>none)
   else none
  |_,_=>none)
 |_,_=>none
theorem Rel.setMap [Pins]{φ:PL}{H:AH}{w:World}(R:Rel φ H w){i:Nat}{es:List (Value×Value×Nat)}{c:Nat}(hg:H.tr.get i=some (.map es c)){p:Place}(hp:φ[i]?=some p)
 {es2:List (Value×Value×Nat)}{c2:Nat}{es2':Array MapEntry}(hE:yW φ es2 es2'.toList):
 Rel φ {H with tr:=H.tr.set i (some (.map es2 c2))} {w with heap:=w.heap.setIfInBounds p.blk (.map es2' c2)}:=by
 obtain⟨q,hq,hN,hO⟩:=R.obj _ _ hg;rw[hp] at hq;cases hq;obtain⟨es',hx,_⟩:=hO;have zt:=alt_of_getElem? hx;have other:∀k,k≠p.blk->({w with heap:=w.heap.setIfInBounds p.blk (.map es2' c2)}:World).heap[k]?=w.heap[k]?:=by
  intro k hk;simp only[Array.getElem?_setIfInBounds];rw[if_neg (fun h=>hk h.symm)]
 refine⟨⟨R.below.os,R.below.tape,R.below.output,by simpa using R.below.size,fun k hk=>?_⟩,R.len,fun j o' hj=>?_,fun j k o1 o2 p1 p2 hj hk ya zk hE=>?_,aBj R hp (R.rdN hg) _,fun i p hp=>by simpa using R.lt i p hp,R.ro' rfl (List.prefix_refl _) fun j _ h=>by
  have:j≠i:=fun e=>by rw[e,hg] at h;cases h
  simp only;rw[Tr.get_set_ne _ _ this];exact h⟩
 ·have uo:k<H.w0.heap.size:=hk;rw[other k (by omega)];exact R.below.block k hk
 ·by_cases yk:j=i
  ·subst yk;simp only[Tr.get_set_same] at hj;cases hj;exact⟨p,hp,hN,es2',by simp[zt],hE⟩
  ·simp only[Tr.get_set_ne _ _ yk] at hj;obtain⟨q,hq,sx,sy⟩:=R.obj _ _ hj;refine⟨q,hq,sx,?_⟩;have qn:q.blk≠p.blk:=fun hE=>yk (R.inj j i _ _ q p hj hg hq hp hE);rw[other _ qn];exact sy
 ·have back:∀j o',(H.tr.set i (some (AObj.map es2 c2))).get j=some o'->∃o'',H.tr.get j=some o'':=by
   intro j o' h;by_cases yk:j=i
   ·subst yk;exact⟨_,hg⟩
   ·exact⟨o',by rwa [Tr.get_set_ne _ _ yk] at h⟩
  obtain⟨o1',h1⟩:=back _ _ hj;obtain⟨o2',h2⟩:=back _ _ hk;exact R.inj j k _ _ p1 p2 h1 h2 ya zk hE
theorem rB{w:World}{r:Nat}{es:Array MapEntry}{c:Nat}(h:w.heap[r]?=some (.map es c))(o:Obj):(setObj r o).run P w=.ok () {w with heap:=w.heap.setIfInBounds r o}:=by
 simp[setObj,Sem.run,h]
theorem yU{d:TypeDesc}{k:Value}(hk:dV d k=true):Instr.sameBits 10000 k k=true:=by
 rcases gD hk with⟨rfl,s,rfl⟩|⟨kk,n,rfl,rfl⟩
 ·simp[Instr.sameBits,beq_toListBytes]
 ·simp[Instr.sameBits]
theorem yV [Pins]{φ:PL}{H H':AH}{w:World}(R:Rel φ H w){t:TY}{m m' k k' v v':Value}(hm:VR φ m m')(hk:VR φ k k')(hv:VR φ v v')(h:fR E t m k v H=some H'):
 ∃w',Rel φ H' w'/\(Instr.mapUpdate t m' k' v').run P w=.ok () w':=by
 unfold fR at h;split at h
 ·rename_i kt et r hu;cases hm with
  |mp hr=>
   rename_i r';cases qz:Nat.beq (r%2) 0 with
   |true=>rw[qz] at h;cases h
   |false=>
    rw[qz,QF] at h;split at h
    ·rename_i d es c hd hg;cases yr:dV d k with
     |false=>rw[yr] at h;cases h
     |true=>
      rw[yr,QT] at h;obtain rfl:=wF hk yr;obtain⟨es',h1,hE⟩:=sC R hr (dD qz) hg;have v9:=hr;rcases v9 with⟨h0,_⟩|⟨_,p,hp,fp⟩
      ·have:=dD qz;omega
      have xz:=rP E hd yr false 9999 w;split at h
      ·rename_i j v1 hf;cases h;obtain⟨rr,q1,v2,rfl,q2,_,e,q3,q4⟩:=rN yr es es'.toList 0 _ hE hf;have wb:(Instr.findKey kt k' es'.toList).run P w=.ok (some (j,v2)) w:=by simp[Instr.findKey,aG E hd,q1]
       have w9:(((es'[j]?).map (·.key)).getD k')=k':=by
        rw[Nat.sub_zero] at q3;rw[<-Array.getElem?_toList,q3];simp[q4]
       refine⟨_,R.setMap hg hp (es2':=es'.modify j fun e=>{e with key:=k',val:=v'}) (c2:=c) ?_,?_⟩
       ·refine⟨by have:=hE.1;simpa using this,fun i kk vv bb ee hi ql=>?_⟩;rw[Array.toList_modify,List.getElem?_modify] at ql;rw[List.getElem?_modify] at hi;by_cases ye:j=i
        ·subst ye;cases yx:es[j]? with
         |none=>rw[yx] at hi;simp at hi
         |some x=>
          cases ov:es'.toList[j]? with
          |none=>rw[ov] at ql;simp at ql
          |some x'=>
           rw[yx] at hi;rw[ov] at ql;simp at hi ql;obtain⟨x1,x2,x3⟩:=x;obtain⟨s1,s2,s3⟩:=hE.2 j x1 x2 x3 x' yx ov;obtain⟨rfl,rfl,rfl⟩:=hi;subst ql;exact⟨hk,hv,s3⟩
        ·simp[ye] at hi ql;exact hE.2 i kk vv bb ee hi (by simpa using ql)
       ·rw[fp] at h1 ⊢;simp only[Instr.mapUpdate,Sem.run_bind,aG E hu,Result.andThen_ok,cY h1,xz,wb,Instr.keyThatStays,w9,yU yr,if_true,Sem.run_pure,rB h1]
      ·rename_i hf;cases h;obtain⟨rr,q1,rfl⟩:=rN yr es es'.toList 0 _ hE hf;have wb:(Instr.findKey kt k' es'.toList).run P w=.ok none w:=by simp[Instr.findKey,aG E hd,q1]
       refine⟨_,R.setMap hg hp (es2':=es'.push {key:=k',val:=v',born:=c}) (c2:=c+1) ?_,?_⟩
       ·refine⟨by have:=hE.1;simpa using this,fun i kk vv bb ee hi ql=>?_⟩;rw[Array.toList_push] at ql;by_cases rj:i<es.length
        ·rw[List.getElem?_append_left rj] at hi;rw[List.getElem?_append_left (by rw[<-hE.1];exact rj)] at ql;exact hE.2 i kk vv bb ee hi ql
        ·rw[List.getElem?_append_right (by omega)] at hi;rw[List.getElem?_append_right (by rw[<-hE.1];omega),<-hE.1] at ql;cases hz:i - es.length with
         |zero=>
          rw[hz] at hi ql;simp at hi ql;obtain⟨rfl,rfl,rfl⟩:=hi;subst ql;exact⟨hk,hv,rfl⟩
         |succ n=>rw[hz] at hi;simp at hi
       ·rw[fp] at h1 ⊢;simp only[Instr.mapUpdate,Sem.run_bind,aG E hu,Result.andThen_ok,cY h1,xz,wb,rB h1]
      ·cases h
    ·cases h
 ·cases h
def nN:Nat->TypeId->Value->Bool
 |0,_,_=>false
 |d+1,t,v=>
  match E.und t with
  |some (.int _)=>true
  |some .string=>true
  |some .bool=>true
  |some (.struct fs)=>(match v with
   |.agg ⟨xs⟩=>fs.toList.all fun f=>(f.name== "_")||(match apart E f.type xs f.offset with
    |some a=>nN d f.type a
    |none=>false)
   |_=>false)
  |_=>false
theorem pP(b:Bool)(m:Nat):∀(d:Nat) (t:TY) (v:Value) (w:World),nN E d t v=true->(Instr.checkKey b (d+m) t v).run P w=.ok () w:=by
 intro d
 induction d with
 |zero=>intro t v w h;simp[nN] at h
 |succ d ih=>
  intro t v w h;rw[show d+1+m=(d+m)+1 by omega];unfold nN at h;split at h
  ·rename_i hu;rw[Instr.checkKey,Sem.run_bind,aG E hu,Result.andThen_ok];rfl
  ·rename_i hu;rw[Instr.checkKey,Sem.run_bind,aG E hu,Result.andThen_ok];rfl
  ·rename_i hu;rw[Instr.checkKey,Sem.run_bind,aG E hu,Result.andThen_ok];rfl
  ·rename_i fs hu;split at h
   ·rename_i xs;rw[Instr.checkKey];simp only[Sem.run_bind,aG E hu,Result.andThen_ok];rw[<-Array.forIn_toList];generalize fs.toList=L at h
    induction L with
    |nil=>simp
    |cons f L ihL=>
     simp only[List.all_cons,QB,Bool.or_eq_true,beq_iff_eq] at h;have ht:=ihL h.2;rcases h.1 with hn|hn
     ·simp only[List.forIn_cons,Sem.run_bind,hn,ne_eq,not_true_eq_false,if_false,Result.andThen_ok,Sem.run_pure];exact ht
     ·by_cases sq:f.name= "_"
      ·simp only[List.forIn_cons,Sem.run_bind,sq,ne_eq,not_true_eq_false,if_false,Result.andThen_ok,Sem.run_pure];exact ht
      ·split at hn
       ·rename_i a ha;simp only[List.forIn_cons,Sem.run_bind,sq,ne_eq,not_false_eq_true,if_true,Result.andThen_ok,lD E ha,ih _ _ w hn,Sem.run_pure];exact ht
       ·cases hn
   ·cases h
  ·cases h
def vC:Value->Bool
 |.agg ⟨xs⟩=>kW xs
 |_=>false
theorem yN{φ:PL}{v v':Value}(h:VR φ v v')(hf:vC v=true):v'=v:=by
 unfold vC at hf;split at hf
 ·cases h with
  |agg ha hv=>rw[jL ⟨ha,hv⟩ hf]
 ·cases hf
def lQ:TypeDesc->Bool
 |.struct _=>true
 |_=>false
def aQy(φ:PL):Option (Nat×Value)->Option (Nat×Value)->Prop
 |none,r'=>r'=none
 |some (j,v),r'=>∃v',r'=some (j,v')/\VR φ v v'
def qP(kt:TY)(k:Value):List (Value×Value×Nat)->Nat->Option (Option (Nat×Value))
 |[],_=>some none
 |(k',v,_)::es,i=>bif vC k' then(match aeq E 9 kt k k' with
  |some true=>some (some (i,v))
  |some false=>qP kt k es (i+1)
  |none=>none) else none
theorem aMy{φ:PL}{kt:TY}{k:Value}(w:World):∀(es:List (Value×Value×Nat)) (es':List MapEntry) (i:Nat) (r:Option (Nat×Value)),yW φ es es'->qP E kt k es i=some r->
 ∃r',(Instr.findAsking kt k es' i).run P w=.ok r' w/\aQy φ r r':=by
 intro es
 induction es with
 |nil=>
  intro es' i r hE h;simp[qP] at h;subst h;have:es'=[]:=List.eq_nil_of_length_eq_zero hE.1.symm;subst this;exact⟨none,by simp[Instr.findAsking],rfl⟩
 |cons x es ih=>
  intro es' i r hE h;obtain⟨k',v,b⟩:=x;cases es' with
  |nil=>have:=hE.1;simp at this
  |cons e es'=>
   obtain⟨r1,r2,r3⟩:=hE.2 0 k' v b e rfl rfl;simp only[qP] at h;cases wb:vC k' with
   |false=>rw[wb] at h;cases h
   |true=>
    rw[wb,QT] at h;have w9:e.key=k':=yN r1 wb;split at h
    ·rename_i hq;cases h;have hr:=aJh E 9991 9 kt k k' true w hq;refine⟨some (i,e.val),?_,e.val,rfl,r2⟩;rw[Instr.findAsking,Sem.run_bind,w9,show(Op.equal kt k k').run P w=.ok true w from hr];simp
    ·rename_i hq;have hr:=aJh E 9991 9 kt k k' false w hq;have du:yW φ es es':=⟨by have:=hE.1;simpa using this,fun j k v b e h1 h2=>hE.2 (j+1) k v b e (by simpa using h1) (by simpa using h2)⟩;obtain⟨r',q1,q2⟩:=ih es' (i+1) r du h;refine⟨r',?_,q2⟩;rw[Instr.findAsking,Sem.run_bind,w9,show(Op.equal kt k k').run P w=.ok false w from hr];simpa using q1
    ·cases h
theorem mF{φ:PL}{kt:TY}{d:TypeDesc}{k:Value}(hd:E.und kt=some d)(hs:lQ d=true)(w:World){es:List (Value×Value×Nat)}{es':List MapEntry}{r:Option (Nat×Value)}(hE:yW φ es es')(h:qP E kt k es 0=some r):
 ∃r',(Instr.findKey kt k es').run P w=.ok r' w/\aQy φ r r':=by
 obtain⟨r',q1,q2⟩:=aMy E w es es' 0 r hE h;refine⟨r',?_,q2⟩;unfold lQ at hs;split at hs
 ·rename_i fs;rw[Instr.findKey,Sem.run_bind,aG E hd,Result.andThen_ok];cases es' with
  |nil=>
   simp only[Instr.findAsking,Sem.run_pure] at q1;simp only[Instr.findNow,Sem.run_pure];exact q1
  |cons e es'=>
   have:Instr.sameNow (.struct fs) k e.key=none:=by cases k<;>rfl
   simp only[Instr.findNow,this];exact q1
 ·cases hs
def wO(t:TY)(x ix:Value)(ok:Bool)(H:AH):Option Value:=
 match E.und t,x with
 |some (.map kt et),.map r=>
  (match E.und kt,E.inf et with
  |some d,some i=>
   bif lQ d&&(vC ix&&nN E 9 kt ix) then
    (match i.zero with
    |some z=>
     (match (match r with
      |none=>some []
      |some r=>bif Nat.beq (r%2) 0 then none else(match H.tr.get (r / 2) with
       |some (.map es _)=>some es
       |_=>none)) with
     |some es=>
      (match qP E kt ix es 0 with
      |some (some (_,v))=>some (if ok then .tuple ⟨[v,.bool true]⟩ else v)
      |some none=>some (if ok then .tuple ⟨[ext z,.bool false]⟩ else ext z)
      |none=>none)
     |none=>none)
    |none=>none)
   else none
  |_,_=>none)
 |_,_=>none
theorem aEm [Pins]{φ:PL}{H:AH}{w:World}(R:Rel φ H w){t:TY}{x x' ix ix' v:Value}{ok:Bool}(hx:VR φ x x')(hi:VR φ ix ix')(h:wO E t x ix ok H=some v):
 ∃v',VR φ v v'/\(Instr.lookup t x' ix' ok).run P w=.ok v' w:=by
 unfold wO at h;split at h
 ·rename_i kt et r hu;split at h
  ·rename_i d i hd xm;cases hk:(lQ d&&(vC ix&&nN E 9 kt ix)) with
   |false=>rw[hk] at h;cases h
   |true=>
    rw[hk,QT] at h;simp only[QB] at hk;obtain⟨qr,yn,wv⟩:=hk;obtain rfl:=yN hi yn;split at h
    ·rename_i z hz;split at h
     ·rename_i es yx
      have hr:∃es':Array MapEntry,yW φ es es'.toList/\(Instr.lookup t x' ix' ok).run P w=(do
       Instr.checkKey es'.isEmpty 10000 kt ix'
       let (v,o) <-match <-Instr.findKey kt ix' es'.toList with
        |some (_,v)=>pure (v,true)
        |none=>pure (<-zeroValue et,false)
       pure (if ok then .tuple #[v,.bool o] else v):Sem Value).run P w:=by
       cases hx with
       |mnil=>
        simp at yx;subst yx;refine⟨#[],⟨rfl,fun i k v b e h=>by simp at h⟩,?_⟩;unfold Instr.lookup;rw[Sem.run_bind,aG E hu];rfl
       |mp hr=>
        rename_i rr rr';simp only at yx;cases qz:Nat.beq (rr%2) 0 with
        |true=>rw[qz] at yx;cases yx
        |false=>
         rw[qz,QF] at yx;split at yx
         ·rename_i es2 c hg;cases yx;obtain⟨es',h1,h2⟩:=sC R hr (dD qz) hg;refine⟨es',h2,?_⟩;unfold Instr.lookup;rw[Sem.run_bind,aG E hu];simp only[Result.andThen_ok];rw[Sem.run_bind,cY h1];rfl
         ·cases yx
      obtain⟨es',hE,vd⟩:=hr;rw[vd];have xz:(Instr.checkKey es'.isEmpty 10000 kt ix').run P w=.ok () w:=pP E es'.isEmpty 9991 9 kt ix' w wv;split at h
      ·rename_i j v1 hf;cases h;obtain⟨r',wb,v',rfl,q2⟩:=mF E hd qr w hE hf;refine⟨if ok then .tuple #[v',.bool true] else v',?_,?_⟩
       ·cases ok
        ·exact q2
        ·exact VR.tuple' (VRs.cons q2 (VRs.cons (.bool true) (VRs.nil φ)))
       ·simp only[Sem.run_bind,xz,Result.andThen_ok,wb,Sem.run_pure]
      ·rename_i hf;cases h;obtain⟨r',wb,rfl⟩:=mF E hd qr w hE hf;refine⟨if ok then .tuple #[z,.bool false] else z,?_,?_⟩
       ·cases ok
        ·exact VR.ext φ z
        ·exact VR.tuple' (VRs.cons (VR.ext φ z) (VRs.cons (.bool false) (VRs.nil φ)))
       ·simp only[Sem.run_bind,xz,Result.andThen_ok,wb,bD E xm hz,Sem.run_pure]
      ·cases h
     ·cases h
    ·cases h
  ·cases h
 ·cases h
def iK(t:TY)(m k v:Value)(H:AH):Option AH:=
 match E.und t,m with
 |some (.map kt _),.map (some r)=>
  bif Nat.beq (r%2) 0 then none else
  (match E.und kt,H.tr.get (r / 2) with
  |some d,some (.map es c)=>
   bif lQ d&&(vC k&&nN E 9 kt k) then
    (match qP E kt k es 0 with
    |some none=>some {H with tr:=H.tr.set (r / 2) (some (.map (es++[(k,v,c)]) (c+1)))}
    |_=>none)
   else none
  |_,_=>none)
 |_,_=>none
theorem yD [Pins]{φ:PL}{H H':AH}{w:World}(R:Rel φ H w){t:TY}{m m' k k' v v':Value}(hm:VR φ m m')(hk:VR φ k k')(hv:VR φ v v')(h:iK E t m k v H=some H'):
 ∃w',Rel φ H' w'/\(Instr.mapUpdate t m' k' v').run P w=.ok () w':=by
 unfold iK at h;split at h
 ·rename_i kt et r hu;cases hm with
  |mp hr=>
   rename_i r';cases qz:Nat.beq (r%2) 0 with
   |true=>rw[qz] at h;cases h
   |false=>
    rw[qz,QF] at h;split at h
    ·rename_i d es c hd hg;cases yr:(lQ d&&(vC k&&nN E 9 kt k)) with
     |false=>rw[yr] at h;cases h
     |true=>
      rw[yr,QT] at h;simp only[QB] at yr;obtain⟨qr,yn,wv⟩:=yr;obtain rfl:=yN hk yn;obtain⟨es',h1,hE⟩:=sC R hr (dD qz) hg;have v9:=hr;rcases v9 with⟨h0,_⟩|⟨_,p,hp,fp⟩
      ·have:=dD qz;omega
      have xz:(Instr.checkKey false 10000 kt k').run P w=.ok () w:=pP E false 9991 9 kt k' w wv;split at h
      ·rename_i hf;cases h;obtain⟨rr,wb,rfl⟩:=mF E hd qr w hE hf;refine⟨_,R.setMap hg hp (es2':=es'.push {key:=k',val:=v',born:=c}) (c2:=c+1) ?_,?_⟩
       ·refine⟨by have:=hE.1;simpa using this,fun i kk vv bb ee hi ql=>?_⟩;rw[Array.toList_push] at ql;by_cases rj:i<es.length
        ·rw[List.getElem?_append_left rj] at hi;rw[List.getElem?_append_left (by rw[<-hE.1];exact rj)] at ql;exact hE.2 i kk vv bb ee hi ql
        ·rw[List.getElem?_append_right (by omega)] at hi;rw[List.getElem?_append_right (by rw[<-hE.1];omega),<-hE.1] at ql;cases hz:i - es.length with
         |zero=>
          rw[hz] at hi ql;simp at hi ql;obtain⟨rfl,rfl,rfl⟩:=hi;subst ql;exact⟨hk,hv,rfl⟩
         |succ n=>rw[hz] at hi;simp at hi
       ·rw[fp] at h1 ⊢;simp only[Instr.mapUpdate,Sem.run_bind,aG E hu,Result.andThen_ok,cY h1,xz,wb,rB h1]
      ·cases h
    ·cases h
 ·cases h
def orE{α:Type}(a b:Option α):Option α:=match a with
 |some x=>some x
 |none=>b
theorem xQ{α:Type}{a b:Option α}{x:α}(h:orE a b=some x):a=some x\/b=some x:=by
 cases a with
 |some y=>exact .inl h
 |none=>exact .inr h
theorem aEj{α:Type}{a b:Option α}{x:α}(h:a=some x):orE a b=some x:=by rw[h];rfl
def rD(t:TY)(x ix:Value)(ok:Bool)(H:AH):Option Value:=orE (fJ E t x ix ok H) (wO E t x ix ok H)
def fY(t:TY)(m k v:Value)(H:AH):Option AH:=orE (fR E t m k v H) (iK E t m k v H)
theorem vB [Pins]{φ:PL}{H:AH}{w:World}(R:Rel φ H w){t:TY}{x x' ix ix' v:Value}{ok:Bool}(hx:VR φ x x')(hi:VR φ ix ix')(h:rD E t x ix ok H=some v):
 ∃v',VR φ v v'/\(Instr.lookup t x' ix' ok).run P w=.ok v' w:=by
 rcases xQ h with h|h
 ·exact aGx E R hx hi h
 ·exact aEm E R hx hi h
theorem nO [Pins]{φ:PL}{H H':AH}{w:World}(R:Rel φ H w){t:TY}{m m' k k' v v':Value}(hm:VR φ m m')(hk:VR φ k k')(hv:VR φ v v')(h:fY E t m k v H=some H'):
 ∃w',Rel φ H' w'/\(Instr.mapUpdate t m' k' v').run P w=.ok () w':=by
 rcases xQ h with h|h
 ·exact yV E R hm hk hv h
 ·exact yD E R hm hk hv h
end
end Go.AM
