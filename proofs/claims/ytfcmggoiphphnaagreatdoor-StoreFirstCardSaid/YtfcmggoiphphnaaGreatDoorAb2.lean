/-
  An abstract machine that runs a program of the given form, and its soundness, part 2.
-/
import Derived.Test.YtfcmggoiphphnaaGreatDoorAb1
import Derived.Deep.DeepAppendWide
set_option linter.unusedVariables false
set_option linter.unusedSimpArgs false
set_option linter.unusedSectionVars false
noncomputable section
namespace Go.AM
open Go.RowKit
variable [σ:Sg]
theorem Rel.kill [Pins]{φ:PL}{H:AH}{w:World}(R:Rel φ H w)(i:Nat):Rel φ {H with tr:=H.tr.set i none} w:=by
 have back:∀j o,(H.tr.set i none).get j=some o->H.tr.get j=some o:=by
  grind [Tr.get_set_same,Tr.get_set_ne]
 exact⟨R.below,R.len,fun j o h=>R.obj j o (back j o h),fun j k o1 o2 p q h1 h2=>R.inj j k o1 o2 p q (back _ _ h1) (back _ _ h2),R.pin,R.lt,R.ro' rfl (List.prefix_refl _) fun j _ h=>by
  grind [Tr.get_set]⟩
theorem ORel.mono{φ φ':PL}(h:φ <+: φ'){p:Place}{o:AObj}{x:Option Obj}(hO:ORel φ p o x):ORel φ' p o x:=by
 cases o with
 |cells cs s e=>obtain⟨C,e,lo,hi,hx,h1,h2,h3,h4,h5,h6⟩:=hO;exact⟨C,e,lo,hi,hx,h1,h2,h3,h4,h5,h6.mono h⟩
 |map es c=>
  obtain⟨es',hx,h1,h2⟩:=hO;exact⟨es',hx,h1,fun i k v b e he fh=>let ⟨a1,a2,a3⟩:=h2 i k v b e he fh;⟨a1.mono h,a2.mono h,a3⟩⟩
 |iter s q=>exact hO
theorem Rel.takeOver [Pins]{φ:PL}{H:AH}{w:World}(R:Rel φ H w){i:Nat}{cs:VL}{sz:Nat}{ex:Bool}(hg:H.tr.get i=some (.cells cs sz ex)){p:Place}(hp:φ[i]?=some p)
 {base2:Nat}{cs2:VL}{C C2:VL}{e:TY}{lo hi:Nat}(hC:w.heap[p.blk]?=some (.cells C.toArray e (lo,hi)))(hl:C2.length=C.length)
 (qf:base2+cs2.length<=C.length)(hv:VRs φ cs2 ((C2.drop base2).take cs2.length))(qn:sz<=bF+5):
 Rel (φ++[⟨p.blk,base2,p.tot,p.sz⟩]) (dC {H with tr:=H.tr.set i none} (.cells cs2 sz false)) {w with heap:=w.heap.setIfInBounds p.blk (.cells C2.toArray e (lo,hi))}:=by
 have qp:φ <+: φ++[⟨p.blk,base2,p.tot,p.sz⟩]:=⟨_,rfl⟩;obtain⟨q,hq,hN,hO⟩:=R.obj _ _ hg;rw[hp] at hq;cases hq;obtain⟨C',e',lo',qi,hx,hf,ht,hs,yb,yz,hr⟩:=hO;rw[hC] at hx;cases hx;simp only[List.size_toArray] at hf ht;have zr:=alt_of_getElem? hC;have other:∀k,k≠p.blk->({w with heap:=w.heap.setIfInBounds p.blk (.cells C2.toArray e (lo,hi))}:World).heap[k]?=w.heap[k]?:=by
  grind
 have back:∀j o,(dC {H with tr:=H.tr.set i none} (.cells cs2 sz false)).tr.get j=some o->j≠H.nx->H.tr.get j=some o/\j≠i:=by
  grind [dC,Tr.get_set_ne,Tr.get_set_same]
 have z4:∀j o,H.tr.get j=some o->j<H.nx:=by
  intro j o hj;obtain⟨q,hq,_⟩:=R.obj j o hj;rw[<-R.len];exact lt_of_getElem? hq
 have pl:∀j q,j<H.nx->(φ++[⟨p.blk,base2,p.tot,p.sz⟩])[j]?=some q->φ[j]?=some q:=by
  intro j q hl hq
  rwa [List.getElem?_append_left (by rw[R.len];exact hl)] at hq
 have pn:∀q,(φ++[(⟨p.blk,base2,p.tot,p.sz⟩:Place)])[H.nx]?=some q->q.blk=p.blk:=by
  intro q hq;rw[<-R.len] at hq;grind
 refine⟨⟨R.below.os,R.below.tape,R.below.output,by grind [dC],fun k hk=>?_⟩,by simp[dC,R.len],fun j o hj=>?_,fun j k o1 o2 p1 p2 hj hk zx ze hE=>?_,fun b x hb=>⟨(aCw R hp (R.rdN hg) _ b x hb).1,oV R b x hb ((R.pin b x hb).2 i p hp (R.rdN hg))⟩,by simpa using sG R.lt (Nat.le_refl _) (q:=⟨p.blk,base2,p.tot,p.sz⟩) (R.lt i p hp),R.ro' rfl qp fun j hj h=>by
  have h1:j≠H.nx:=by have:=R.len;omega
  grind [dC,Tr.get_set_ne,Tr.get_set]⟩
 ·have tn:k<H.w0.heap.size:=hk;rw[other k (by omega)];exact R.below.block k hk
 ·by_cases ak:j=H.nx
  ·subst ak;simp only[dC,Tr.get_set_same] at hj;cases hj;refine⟨⟨p.blk,base2,p.tot,p.sz⟩,by rw[<-R.len];simp,hN,C2.toArray,e,lo,hi,by simp[zr],?_,?_,⟨hs.1,hs.2.1,fun q=>absurd q (by omega)⟩,?_,fun h=>by simp at h,?_⟩
   ·grind
   ·simp_all
   ·simp_all
   ·exact hv.mono qp
  ·obtain⟨xy,yx⟩:=back j o hj ak;obtain⟨q,hq,tu,o7⟩:=R.obj _ _ xy;refine⟨q,getElem?_prefix qp hq,tu,?_⟩;have qr:q.blk≠p.blk:=fun hE=>yx (R.inj j i _ _ q p xy hg hq hp hE);rw[other _ qr];exact o7.mono qp
 ·by_cases h1:j=H.nx<;>by_cases h2:k=H.nx
  ·omega
  ·obtain⟨tn,pc⟩:=back k o2 hk h2;have hq:=pl k p2 (z4 k o2 tn) ze;subst h1;rw[pn p1 zx] at hE;exact absurd (R.inj i k _ _ p p2 hg tn hp hq hE).symm pc
  ·obtain⟨xy,yx⟩:=back j o1 hj h1;have hq:=pl j p1 (z4 j o1 xy) zx;subst h2;rw[pn p2 ze] at hE;exact absurd (R.inj j i _ _ p1 p xy hg hq hp hE) yx
  ·obtain⟨xy,_⟩:=back j o1 hj h1;obtain⟨tn,_⟩:=back k o2 hk h2;exact R.inj j k _ _ p1 p2 xy tn (pl j p1 (z4 j o1 xy) zx) (pl k p2 (z4 k o2 tn) ze) hE
section
variable {P:PG}(E:Env P)
def bO(v:Option Value)(dflt y:Nat):Option Nat:=
 match v with
 |none=>some dflt
 |some (.int _ i)=>if 0<=i/\i<=y then some i.toNat else none
 |_=>none
def bD(len cap:Nat)(low high max:Option Value):Option (Nat×Nat×Nat):=
 match bO max cap cap with
 |some m=>(match (match high,max with
  |some v,_=>bO (some v) 0 m
  |none,none=>some len
  |none,some _=>none) with
  |some h=>(match bO low 0 h with
   |some l=>some (l,h,m)
   |none=>none)
  |none=>none)
 |none=>none
def tM(φ:PL)(v v':Option Value):Prop:=(v=none/\v'=none)\/∃a a',v=some a/\v'=some a'/\VR φ a a'
theorem nU{v:Option Value}{d y n:Nat}(h:bO v d y=some n)(hd:v=none->d<=y):n<=y:=by
 unfold bO at h
 grind
theorem fY{φ:PL}{v v':Option Value}{d y y' n:Nat}(hv:tM φ v v')(h:bO v d y=some n)(hy:y<=y')(code:BoundsCode)(w:World):
 (v=none/\v'=none/\n=d)\/∃x,v'=some x/\(Instr.sliceBound x y' code).run P w=.ok n w:=by
 rcases hv with⟨rfl,rfl⟩|⟨a,a',rfl,rfl,hr⟩
 ·simp[bO] at h;simp_all
 ·right;refine⟨a',rfl,?_⟩;unfold bO at h;split at h
  ·rename_i e;cases e
  ·rename_i k i e;cases e;cases hr
   grind [run_sliceBound]
  ·cases h
theorem eP{φ:PL}{len cap cap' l h m:Nat}{lo hi mx lo' qi mx':Option Value}(wt:tM φ lo lo')(vn:tM φ hi qi)(vo:tM φ mx mx')(qe:len<=cap)(hc:cap<=cap')
 (hb:bD len cap lo hi mx=some (l,h,m))(b:Bool)(w:World):
 l<=h/\h<=m/\m<=cap/\∃m',(m'=m\/m'=cap'/\m=cap)/\(Instr.sliceBounds b len cap' lo' qi mx').run P w=.ok (l,h,m') w:=by
 unfold bD at hb;split at hb
 ·rename_i m0 hm;split at hb
  ·rename_i h0 hh;split at hb
   ·rename_i l0 hl;cases hb;have fk:=nU hm (fun _=>Nat.le_refl _);have ga:=nU hl (fun _=>Nat.zero_le _);rcases fY (P:=P) vo hm hc (if b then .slice3Acap else .slice3Alen) w with⟨rfl,rfl,rfl⟩|⟨mxv,rfl,al⟩
    ·-- no max
     cases hi with
     |none=>
      rcases vn with⟨_,rfl⟩|⟨a,a',e,_⟩
      ·simp at hh;subst hh;refine⟨ga,qe,Nat.le_refl _,cap',.inr ⟨rfl,rfl⟩,?_⟩;rcases fY (P:=P) wt hl (Nat.le_refl _) .sliceB w with⟨rfl,rfl,rfl⟩|⟨x,rfl,hr⟩
       ·simp[Instr.sliceBounds]
       ·simp[Instr.sliceBounds,hr]
      ·cases e
     |some hv=>
      simp only at hh;have gb:=nU hh (by simp);refine⟨ga,gb,Nat.le_refl _,cap',.inr ⟨rfl,rfl⟩,?_⟩;rcases fY (P:=P) vn hh hc (if b then .sliceAcap else .sliceAlen) w with⟨e,_⟩|⟨y,rfl,mt⟩
      ·cases e
      ·rcases fY (P:=P) wt hl (Nat.le_refl _) .sliceB w with⟨rfl,rfl,rfl⟩|⟨x,rfl,hr⟩
       ·simp[Instr.sliceBounds,mt]
       ·simp[Instr.sliceBounds,mt,hr]
    ·-- a max
     cases hi with
     |none=>
      cases mx with
      |none=>rcases vo with⟨_,e⟩|⟨a,a',e,_⟩<;>cases e
      |some _=>cases hh
     |some hv=>
      simp only at hh;have gb:=nU hh (by simp);refine⟨ga,gb,fk,m,.inl rfl,?_⟩;rcases fY (P:=P) vn hh (Nat.le_refl _) .slice3B w with⟨e,_⟩|⟨y,rfl,mt⟩
      ·cases e
      ·rcases fY (P:=P) wt hl (Nat.le_refl _) .slice3C w with⟨rfl,rfl,rfl⟩|⟨x,rfl,hr⟩
       ·simp[Instr.sliceBounds,al,mt]
       ·simp[Instr.sliceBounds,al,mt,hr]
   ·cases hb
  ·cases hb
 ·cases hb
def lD(t:TY)(x:Value)(lo hi mx:Option Value)(H:AH):Option Value:=
 match E.und t,x with
 |some .string,.string s=>
  (match mx with
  |none=>(match bD s.data.toList.length s.data.toList.length lo hi none with
   |some (l,h,_)=>some (.string ⟨⟨(s.data.toList.take h).drop l⟩⟩)
   |none=>none)
  |some _=>none)
 |some (.slice e),.slice none 0 0=>(match E.inf e,bD 0 0 lo hi mx with
  |some _,some _=>some (.slice none 0 0)
  |_,_=>none)
 |some (.slice e),.slice none 0 1=>(match E.inf e,bD 0 0 lo hi mx with
  |some _,some _=>some (.slice none 0 1)
  |_,_=>none)
 |some (.slice e),.slice (some a) len cap=>
  (match E.inf e with
  |some i=>
   bif Nat.ble len cap then
    (match bD len cap lo hi mx with
    |some (l,h,m)=>
     bif Nat.beq (a.block%2) 0 then some (.slice (some (if m=l then a else a.add (l*i.size))) (h - l) (m - l))
     else(match H.tr.get (a.block / 2) with
      |some (.cells _ sz _)=>bif Nat.beq sz i.size then some (.slice (some (a.add (l*i.size))) (h - l) (m - l)) else none
      |none=>(match H.w0.rd (a.block / 2) with
       |some c=>bif Nat.beq c.2 i.size then some (.slice (some (a.add (l*i.size))) (h - l) (m - l)) else none
       |none=>none)
      |_=>none)
    |none=>none)
   else none
  |none=>none)
 |some (.array n e),.pointer (some a)=>
  (match E.inf e with
  |some i=>
   (match bD n n lo hi mx with
   |some (l,h,m)=>
    bif Nat.beq (a.block%2) 0 then some (.slice (some (if m=l then a else a.add (l*i.size))) (h - l) (m - l))
    else(match H.tr.get (a.block / 2) with
     |some (.cells cs sz _)=>bif Nat.beq sz i.size&&Nat.ble (a.off+n*i.size) cs.length then some (.slice (some (a.add (l*i.size))) (h - l) (m - l)) else none
     |_=>none)
   |none=>none)
  |none=>none)
 |_,_=>none
theorem sS [Pins]{φ:PL}{H:AH}{w:World}(R:Rel φ H w){i:Nat}{cs:VL}{sz:Nat}{ex:Bool}(hg:H.tr.get i=some (.cells cs sz ex)){p:Place}(hp:φ[i]?=some p):
 p.sz=sz/\p.base+cs.length<=p.tot/\(ex=true->p.base+cs.length=p.tot):=by
 obtain⟨q,hq,hN,hO⟩:=R.obj _ _ hg;rw[hp] at hq;cases hq;obtain⟨C,e,lo,hi,hx,hf,ht,hs,yb,yz,hr⟩:=hO;exact⟨hs.1,by omega,fun h=>by have:=yz h;omega⟩
theorem ro_sz [π:Pins]{φ:PL}{H:AH}{w:World}(R:Rel φ H w){i:Nat}{c:List Value×Nat}(hc:H.w0.rd i=some c){p:Place}(hp:φ[i]?=some p):p.sz=c.2:=by
 obtain⟨_,q,x,hq,hx,C,e,lo,hi,rfl,h,hr⟩:=R.ro i c hc
 simp_all
theorem dN{n:Nat}(h:Nat.beq (n%2) 0=false):n%2=1:=by
 have:n%2≠0:=fun e=>by rw[e] at h;cases h
 omega
theorem bT(a:Addr)(n:Nat):(a.add n).block=a.block:=by grind [Addr.add]
theorem iF(a:Addr)(n:Nat):(a.add n).off=a.off+n:=by grind [Addr.add]
theorem SRel.part{φ:PL}{a a':Addr}{len cap cap' size l h m m':Nat}(hs:SRel φ a a' len cap cap')(ga:l<=h)(gb:h<=m)(hmc:m<=cap)(tw:m'=m\/m'=cap'/\m=cap)
 (zf:a.block%2=1)(zi:∀p,φ[a.block / 2]?=some p->esz p.sz=size):
 SRel φ (a.add (l*size)) (if m'=l then a' else a'.add (l*size)) (h - l) (m - l) (m' - l):=by
 rcases hs with⟨h0,_⟩|⟨_,h1,h2,h3⟩
 ·omega
 ·have tz:m<=m':=by omega
  refine .inr ⟨by grind [bT],by omega,by omega,?_⟩;by_cases lu:m'=l
  ·left;omega
  ·rw[if_neg lu];rcases h3 with h3|⟨hA,hb⟩
   ·omega
   ·right;refine⟨hA.add _,fun p hp=>?_⟩;rw[bT] at hp;have e1:=hb p hp;have e2:=zi p hp;rw[e2] at e1;rw[iF,e2];have qf:m'<=cap':=by omega
    have e3:l*size+(m' - l)*size=m'*size:=by rw[<-Nat.add_mul];congr 1;omega
    have e4:m'*size<=cap'*size:=Nat.mul_le_mul_right _ qf;omega
theorem zJ [Pins]{φ:PL}{H:AH}{w:World}(R:Rel φ H w){t:TY}{x x':Value}{lo hi mx lo' qi mx':Option Value}{v:Value}(hx:VR φ x x')(wt:tM φ lo lo')(vn:tM φ hi qi)(vo:tM φ mx mx')
 (h:lD E t x lo hi mx H=some v):∃v',VR φ v v'/\(Instr.sliceAt t x' lo' qi mx').run P w=.ok v' w:=by
 unfold lD at h;split at h
 ·-- strings
  rename_i s hu;cases hx;split at h
  ·split at h
   ·rename_i l hh m hb;cases h;rcases vo with⟨_,rfl⟩|⟨a,a',e,_⟩
    ·obtain⟨h1,h2,h3,m',_,hr⟩:=eP (P:=P) wt vn (.inl ⟨rfl,rfl⟩) (Nat.le_refl _) (Nat.le_refl _) hb false w;refine⟨_,.string _,?_⟩;have yj:s.data.toList.length=s.size:=by simp_all
     rw[yj] at hr;have yz:s.extract l hh=⟨⟨(s.data.toList.take hh).drop l⟩⟩:=by
      apply ByteArray.ext
      grind [ByteArray.data_extract,Array.toList_inj,Array.toList_extract,List.extract_eq_drop_take']
     simp[Instr.sliceAt,Instr.slice,aE E hu,hr,yz]
    ·cases e
   ·cases h
  ·cases h
 ·-- nil
  rename_i e hu;cases hx;split at h
  ·rename_i i r hi hb;cases h;obtain⟨l,hh,m⟩:=r;obtain⟨h1,h2,h3,m',tw,hr⟩:=eP (P:=P) wt vn vo (Nat.le_refl _) (Nat.le_refl _) hb true w;have:m'=0:=by omega
   subst this;obtain rfl:l=0:=by omega
   obtain rfl:hh=0:=by omega
   exact⟨_,.snil 0 0,by simp[Instr.sliceAt,Instr.slice,aE E hu,hr,aH E hi]⟩
  ·cases h
 ·-- an empty slice of which nothing else is known
  rename_i e hu;have hx:EmpV x':=by
   cases hx with
   |snil _ _=>exact⟨_,_,rfl⟩
   |emp h=>exact h
  split at h
  ·rename_i i r hi hb;cases h;obtain⟨l,hh,m⟩:=r;obtain⟨a',c',rfl⟩:=hx;obtain⟨h1,h2,h3,m',tw,hr⟩:=eP (P:=P) wt vn vo (Nat.le_refl _) (Nat.zero_le c') hb true w;obtain rfl:l=0:=by omega
   obtain rfl:hh=0:=by omega
   refine⟨.slice (if m'=0 then a' else a'.map (·.add (0*i.size))) 0 (m' - 0),.emp ⟨_,_,rfl⟩,?_⟩;simp[Instr.sliceAt,Instr.slice,aE E hu,hr,aH E hi]
  ·cases h
 ·-- slices
  rename_i e a len cap hu;cases hx with
  | @slc _ a' _ _ cap' hs=>
    split at h
    ·rename_i i hi;cases wu:Nat.ble len cap with
     |false=>rw[wu] at h;cases h
     |true=>
      rw[wu,QT] at h;have sa:=QL wu;split at h
      ·rename_i l hh m hb;cases qu:Nat.beq (a.block%2) 0 with
       |true=>
        rw[qu,QT] at h;cases h;have pd:=QN qu;rcases hs with⟨h0,rfl,hA⟩|⟨h0,_⟩
        ·obtain⟨h1,h2,h3,m',tw,hr⟩:=eP (P:=P) wt vn vo sa (Nat.le_refl _) hb true w;obtain rfl:m'=m:=by omega
         refine⟨.slice (some (if m'=l then a' else a'.add (l*i.size))) (hh - l) (m' - l),.slc (.inl ⟨?_,rfl,?_⟩),?_⟩
         ·grind [bT]
         ·split
          ·exact hA
          ·exact hA.add _
         ·simp[Instr.sliceAt,Instr.slice,aE E hu,hr,aH E hi];split<;>rfl
        ·omega
       |false=>
        rw[qu,QF] at h;have zf:=dN qu;split at h
        ·rename_i cs sz ex hg;cases zi:Nat.beq sz i.size with
         |false=>rw[zi] at h;cases h
         |true=>
          rw[zi,QT] at h;cases h;have yp:=QN zi;have zd:cap<=cap':=by rcases hs with⟨h0,_⟩|⟨_,_,h2,_⟩<;>omega
          obtain⟨h1,h2,h3,m',tw,hr⟩:=eP (P:=P) wt vn vo sa zd hb true w;refine⟨.slice (some (if m'=l then a' else a'.add (l*i.size))) (hh - l) (m' - l),.slc (hs.part h1 h2 h3 tw zf fun p hp=>by rw[(sS R hg hp).1,yp,cF (E.sz_lt _ _ hi)]),?_⟩;simp[Instr.sliceAt,Instr.slice,aE E hu,hr,aH E hi];split<;>rfl
        ·split at h
         ·rename_i c hc;cases zi:Nat.beq c.2 i.size with
          |false=>rw[zi] at h;cases h
          |true=>
           rw[zi,QT] at h;cases h;have yp:=QN zi;have zd:cap<=cap':=by rcases hs with⟨h0,_⟩|⟨_,_,h2,_⟩<;>omega
           obtain⟨h1,h2,h3,m',tw,hr⟩:=eP (P:=P) wt vn vo sa zd hb true w;refine⟨.slice (some (if m'=l then a' else a'.add (l*i.size))) (hh - l) (m' - l),.slc (hs.part h1 h2 h3 tw zf fun p hp=>by rw[ro_sz R hc hp,yp,cF (E.sz_lt _ _ hi)]),?_⟩;simp[Instr.sliceAt,Instr.slice,aE E hu,hr,aH E hi];split<;>rfl
         ·cases h
        ·cases h
      ·cases h
    ·cases h
 ·-- arrays
  rename_i n e a hu;cases hx with
  | @ptr _ a' hA=>
    split at h
    ·rename_i i hi;split at h
     ·rename_i l hh m hb;obtain⟨h1,h2,h3,m',tw,hr⟩:=eP (P:=P) wt vn vo (Nat.le_refl _) (Nat.le_refl _) hb false w;obtain rfl:m'=m:=by omega
      have qt:(Instr.sliceAt t (.pointer (some a')) lo' qi mx').run P w=.ok (.slice (some (if m'=l then a' else a'.add (l*i.size))) (hh - l) (m' - l)) w:=by
       simp[Instr.sliceAt,Instr.sureAddr,aE E hu,hr,aH E hi]
      cases qu:Nat.beq (a.block%2) 0 with
      |true=>
       rw[qu,QT] at h;cases h;have pd:=QN qu;refine⟨_,.slc (.inl ⟨?_,rfl,?_⟩),qt⟩
       ·grind [bT]
       ·split
        ·exact hA
        ·exact hA.add _
      |false=>
       rw[qu,QF] at h;have zf:=dN qu;split at h
       ·rename_i cs sz ex hg;cases zi:(Nat.beq sz i.size&&Nat.ble (a.off+n*i.size) cs.length) with
        |false=>rw[zi] at h;cases h
        |true=>
         rw[zi,QT] at h;cases h;simp only[QB] at zi;have yp:=QN zi.1;have qf:=QL zi.2;refine⟨_,.slc (SRel.part (len:=n) (cap:=n) (cap':=n) (.inr ⟨zf,Nat.le_refl _,Nat.le_refl _,.inr ⟨hA,fun p hp=>?_⟩⟩) h1 h2 h3 (.inl rfl) zf fun p hp=>by rw[(sS R hg hp).1,yp,cF (E.sz_lt _ _ (by assumption))]),qt⟩;have:=sS R hg hp;rw[this.1,yp,cF (E.sz_lt _ _ (by assumption))];omega
       ·cases h
     ·cases h
    ·cases h
 ·cases h
def iR(t:TY)(len cap:Value)(H:AH):Option (Value×AH):=
 match E.und t,len,cap with
 |some (.slice e),.int _ l,.int _ c=>(match E.inf e with
  |some i=>(match i.zero with
   |some z=>
    if 0<=l/\l<=c/\c<=140737488355328/\i.bytes*c<=281474976710656 then
     some (cG H l.toNat c.toNat,dC H (.cells (extL (cP (if c.toNat*i.size=0 then #[] else z.cells) (c.toNat*i.size))) i.size true))
    else none
   |none=>none)
  |none=>none)
 |_,_,_=>none
theorem yI(z:Array Value)(n:Nat):(cP z n).length=n:=by simp[cP]
theorem oS{n:Int}(h0:0<=n)(h1:n<=140737488355328):IntKind.i64.wrap n=n:=by
 simp only[IntKind.wrap,IntKind.bits,IntKind.signed]
 grind
theorem yP [Pins]{φ:PL}{H H':AH}{w:World}(R:Rel φ H w){t:TY}{len len' cap cap':Value}{v:Value}(hl:VR φ len len')(hc:VR φ cap cap')(h:iR E t len cap H=some (v,H')):
 SOk P (Instr.makeSlice t len' cap') φ w v H':=by
 unfold iR at h;split at h
 ·rename_i e k l k2 c hu;cases hl;cases hc;split at h
  ·rename_i i hi;split at h
   ·rename_i z hz;split at h
    ·rename_i v7;obtain⟨h0,h1,h2,h3⟩:=v7;cases h;have hv:=VRs.ext φ (cP (if c.toNat*i.size=0 then #[] else z.cells) (c.toNat*i.size));refine⟨_,_,_,⟨_,rfl⟩,R.newCells hv e i.size (SzE.small (E.sz_lt _ _ hi)),.slc (SRel.new R.len _ rfl (c:=c.toNat) (by omega) (Nat.le_refl _) (by simp only;rw[cF (E.sz_lt _ _ hi),yI];exact Nat.le_refl _)),?_⟩;obtain⟨ii,v8,e1,e2,e3⟩:=yV E hi w;have fm:¬(281474976710656<(i.bytes:Int)*c):=by omega
     have o9:(i.bytes:Int)*l<=(i.bytes:Int)*c:=Int.mul_le_mul_of_nonneg_left h1 (by omega);have fo:¬c<0:=by omega
     have ye:¬l<0:=by omega
     have wu:¬c<l:=by omega
     simp only[Instr.makeSlice,Sem.run_bind,aE E hu,Result.andThen_ok,asInt,asIntOf,Sem.run_pure,v8,oS h0 (by omega:l<=140737488355328),oS (by omega:0<=c) h2,e2];have pe:((2:Int)^48)=281474976710656:=by decide
     have fp:((decide (c<0)||decide ((i.bytes:Int)*c>2^48))||decide (l<0)||decide (l>c))=false:=by
      simp_all
     simp only[fp,Bool.false_eq_true,if_false,Sem.run_bind,run_askRoom,Result.andThen_ok,aH E hi];by_cases xz:c.toNat*i.size=0
     ·simp only[xz,if_true,Sem.run_pure,Result.andThen_ok,newRow,Sem.run_bind,run_newObj];rfl
     ·simp only[xz,if_false,Sem.run_bind,bE E hi hz,Sem.run_pure,Result.andThen_ok,newRow,run_newObj];rfl
    ·cases h
   ·cases h
  ·cases h
 ·cases h
end
end Go.AM
namespace Go.AM
open Go.RowKit
variable [σ:Sg]
def iB(need bytes:Nat):Bool:=Nat.ble (need*bytes) 140737488355328||Nat.ble ((need+need / 4+192)*bytes) 281474976710656
theorem rE{need bytes:Nat}(h:need*bytes<=140737488355328):iB need bytes=true:=by
 grind [iB,Nat.ble_eq_true_of_le]
theorem aHy{need old bytes:Nat}(h:old<need)(hb:iB need bytes=true):Builtin.nextslicecap need old*bytes<=281474976710656:=by
 rcases Bool.or_eq_true_iff.1 hb with hb|hb
 ·exact growslice_fits h (QL hb)
 ·exact growslice_fits_wide h (QL hb)
theorem Rel.congr [Pins]{φ:PL}{H H2:AH}{w:World}(R:Rel φ H w)(h0:H2.w0=H.w0)(h1:H2.nx=H.nx)(h2:∀j,H2.tr.get j=H.tr.get j):Rel φ H2 w:=
 ⟨by rw[h0];exact R.below,by rw[h1];exact R.len,fun i o h=>by rw[h0];exact R.obj i o (by rw[<-h2];exact h),fun i j o o' p q hi hj=>R.inj i j o o' p q (by rw[<-h2];exact hi) (by rw[<-h2];exact hj),by rw[h0];exact R.pin,R.lt,R.ro' h0 (List.prefix_refl _) fun i _ h=>by rw[h2];exact h⟩
section
variable {P:PG}(E:Env P)
def eR:TypeDesc->Bool
 |.int _=>true
 |_=>false
def cQ(size n:Nat)(x:Value)(H:AH):Option VL:=
 match x with
 |.slice (some a) _ _=>aloads H a (n*size)
 |.slice none _ _=>bif Nat.beq n 0 then some [] else none
 |.string s=>some ((s.data.toList.take n).map fun b=>.int .u8 b.toNat)
 |_=>none
def hY(x:Value):Option Nat:=
 match x with
 |.slice _ n _=>some n
 |.string s=>some s.data.toList.length
 |_=>none
theorem fZ{φ:PL}{x x':Value}{n:Nat}(hx:VR φ x x')(h:hY x=some n)(w:World):(Builtin.lenOf x').run P w=.ok n w:=by
 unfold hY at h;split at h
 ·cases h;cases hx with
  |emp e=>obtain⟨_,_,rfl⟩:=e;simp[Builtin.lenOf]
  |_=>simp[Builtin.lenOf]
 ·cases h;cases hx;simp[Builtin.lenOf]
 ·cases h
theorem nH [Pins]{φ:PL}{H:AH}{w:World}(R:Rel φ H w){size n m:Nat}{x x':Value}{l:VL}(hx:VR φ x x')(hm:hY x=some m)(hn:n<=m)(h:cQ size n x H=some l):
 ∃l',VRs φ l l'/\(Builtin.firstCells size n x').run P w=.ok ⟨l'⟩ w:=by
 unfold cQ at h;split at h
 ·rename_i a k c;cases hx with
  | @slc _ a' _ _ c' hs=>
    simp[hY] at hm;subst hm;have hA:n*size=0\/ARel φ a a':=by
     rcases hs with⟨_,_,hA⟩|⟨_,h1,h2,h3|⟨hA,_⟩⟩
     ·exact .inr hA
     ·simp_all
     ·exact .inr hA
    grind [iJ,run_loadCells_list,Builtin.firstCells]
 ·cases hb:Nat.beq n 0 with
  |false=>rw[hb] at h;cases h
  |true=>
   rw[hb,QT] at h;cases h;cases hx with
   |snil _ _=>exact⟨[],VRs.nil φ,by simp[Builtin.firstCells]⟩
   |emp e=>
    obtain⟨a',c',rfl⟩:=e;have hb:=QN hb;subst hb;refine⟨[],VRs.nil φ,?_⟩;cases a' with
    |none=>simp[Builtin.firstCells]
    |some a'=>simp[Builtin.firstCells,loadCells,loadCellsFrom]
 ·rename_i s;cases h;cases hx;have key:∀bs:BL,VRs φ (bs.map fun b=>Value.int .u8 (b.toNat:Int)) (bs.map fun b=>Value.int .u8 (b.toNat:Int)):=by
   intro bs
   induction bs with
   |nil=>exact VRs.nil φ
   |cons b bs ih=>exact VRs.cons (.int _ _) ih
  refine⟨_,key _,?_⟩;simp only[Builtin.firstCells,Sem.run_pure];congr 1
  grind [Array.toList_inj,ByteArray.data_extract]
 ·cases h
def aUt:Value->Bool
 |.string _=>true
 |_=>false
def pM(e:TY)(x:Value)(size:Nat):Nat:=bif aUt x&&(Nat.beq e 5&&Nat.beq size 1) then bF+5 else size
def lE(sz size:Nat)(e:TY):Bool:=Nat.beq sz size||(Nat.beq sz (bF+5)&&(Nat.beq e 5&&Nat.beq size 1))
theorem zL{e:TY}{x:Value}{size:Nat}(h:size<bF):esz (pM e x size)=size/\SzE (pM e x size) e:=by
 unfold pM;cases q:(aUt x&&(Nat.beq e 5&&Nat.beq size 1)) with
 |false=>rw[QF];grind [cF,SzE.small]
 |true=>
  rw[QT];simp only[QB] at q;have q1:=QN q.2.1;have q2:=QN q.2.2;rw[q1,q2];exact⟨aLz (by decide),fun _=>by decide⟩
theorem aNh{sz size:Nat}{e:TY}(h:size<bF)(q:lE sz size e=true):esz sz=size/\SzE sz e/\sz<=bF+5:=by
 unfold lE at q;rw[Bool.or_eq_true] at q;rcases q with q|q
 ·grind [QN,cF,SzE.small]
 ·simp only[QB] at q;have q0:=QN q.1;have q1:=QN q.2.1;have q2:=QN q.2.2;rw[q0,q1,q2];exact⟨aLz (by decide),fun _=>by decide,Nat.le_refl _⟩
def dD(tg size bytes n:Nat)(s:Value)(sLen:Nat)(new:VL)(H:AH):Option (Value×AH):=
 match cQ size sLen s H with
 |some old=>bif iB (sLen+n) bytes&&(Nat.ble (sLen+n) 140737488355328&&(Nat.beq old.length (sLen*size)&&Nat.beq new.length (n*size))) then
  some (cG H (sLen+n) (sLen+n),dC H (.cells (old++new) tg false))
  else none
 |none=>none
def qZ(i:TI)(s x:Value)(H:AH):Option (Value×AH):=
 match s,x,i.zero with
 |.slice none 0 0,.int _ n,some z=>
  if 0<=n/\n<=140737488355328/\n.toNat*i.bytes<=140737488355328 then
   (if n.toNat=0\/i.size=0 then none else some (cG H n.toNat n.toNat,dC H (.cells (extL (Builtin.zeroCells z.cells n.toNat).toList) i.size false)))
  else none
 |_,_,_=>none
theorem aGe [Pins]{φ:PL}{H H':AH}{w:World}(R:Rel φ H w){e sT xT:TY}{i:TI}(hu:E.und sT=some (.slice e)){k0:IntKind}(hx:E.und xT=some (.int k0))(hi:E.inf e=some i){s s' x x' v:Value}(ty:TY)
 (hs:VR φ s s')(xa:VR φ x x')(h:qZ i s x H=some (v,H')):SOk P (Builtin.append_ #[sT,xT] ty #[s',x']) φ w v H':=by
 unfold qZ at h;split at h
 ·rename_i k n z hz;cases hs;cases xa;split at h
  ·rename_i hc;obtain⟨h0,h1,h2⟩:=hc;split at h
   ·cases h
   ·rename_i qr;cases h;have ma:n.toNat≠0:=fun e=>qr (.inl e);have yo:i.size≠0:=fun e=>qr (.inr e);have mv:=E.zs_ok _ _ _ hi hz;obtain⟨ii,v8,e1,e2,e3⟩:=E.inf_ok e i hi;have qs:∀w,(typeInfo e).run P w=.ok ii w:=fun w=>by simp[typeInfo,v8]
    have ly:IntKind.i64.wrap n=n:=oS h0 h1;have ye:¬n<0:=by omega
    have pe:((2:Int)^48)=281474976710656:=by decide
    have am:(2:Nat)^48=281474976710656:=by decide
    have hb:¬(n*(ii.bytes:Int)>2^48):=by
     grind
    have fq:=growslice_fits (need:=n.toNat) (old:=0) (bytes:=i.bytes) (by omega) h2;have c1:¬(((0+n.toNat:Nat):Int)>IntKind.i64.max/\(True\/ii.bytes=0)):=by
     grind [IntKind.max_i64]
    have c2:¬(Builtin.nextslicecap (0+n.toNat) 0*ii.bytes>2^48):=by simp_all
    have sb:¬(0+n.toNat<=0):=by omega
    have vp:¬(n.toNat*i.size=0):=by
     grind [Nat.mul_eq_zero]
    let cap:=(Question.appendCap (0+n.toNat) 0 e).cut (w.tape w.drawn (.appendCap (0+n.toNat) 0 e))
    have sd:n.toNat<=cap:=by
     show n.toNat<=0+n.toNat+_;omega
    have hq:(Question.appendCap (0+n.toNat) 0 e).forced=false:=rfl;have fu:=VRs.ext φ (Builtin.zeroCells z.cells n.toNat).toList;have hR:=R.drew.newSpare (more:=(Builtin.zeroCells z.cells (cap - (0+n.toNat))).toList) fu e i.size (SzE.small (E.sz_lt _ _ hi));refine⟨_,_,_,⟨_,rfl⟩,hR,.slc (SRel.new R.len _ rfl (Nat.le_refl _) sd ?_),?_⟩
    ·show cap*esz i.size<=_;rw[cF (E.sz_lt _ _ hi)];simp only[List.length_append,Builtin.zeroCells,Array.toList_map,List.length_map,Array.length_toList,Array.size_range];rw[mv,<-Nat.add_mul]
     simp_all
    ·have fin:((Builtin.zeroCells z.cells n.toNat).toList++(Builtin.zeroCells z.cells (cap - (0+n.toNat))).toList).toArray=((#[]:Array Value)++Builtin.zeroCells z.cells n.toNat)++Builtin.zeroCells z.cells (cap - (0+n.toNat)):=by
      simp_all
     rw[fin];refine Eq.trans (b:=Result.ok (Value.slice (some ⟨w.drew.heap.size,0,none⟩) (0+n.toNat) cap) (w.drew.alloc (.cells ((#[]:Array Value)++Builtin.zeroCells z.cells n.toNat++Builtin.zeroCells z.cells (cap - (0+n.toNat))) e))) ?_ (by rw[Nat.zero_add])
     simp only[Builtin.append_,List.getElem?_toArray,List.getElem?_cons_zero,List.getElem?_cons_succ,Sem.run_bind,aE E hu,Result.andThen_ok,aH E hi,aE E hx,asInt,asIntOf,Sem.run_pure,ly,ye,qs,hb,sb,c1,c2,vp,
      if_true,if_false,Bool.not_true,Bool.false_eq_true,run_choose,hq,run_askRoom,World.drew_eq,Builtin.firstCells,bE E hi hz,newRow,run_newObj,World.alloc_eq]
     rfl
  ·cases h
 ·cases h
def fE(sT xT:TY)(s x:Value)(H:AH):Option (Value×AH):=
 match E.und sT,E.und xT with
 |some (.slice e),some dx=>
  bif eR dx then(match E.inf e with
   |some i=>qZ i s x H
   |none=>none)
  else
  (match E.inf e,hY x with
  |some i,some n=>
   bif Nat.beq i.size 0||i.zero.isNone then none else
   (match cQ i.size n x H with
   |some new=>
    (match s with
    |.slice base sLen sCap=>
     bif Nat.beq n 0 then(bif Nat.ble sLen sCap then some (s,H) else none) else
     (match base with
     |none=>bif Nat.beq sLen 0&&Nat.beq sCap 0 then dD (pM e x i.size) i.size i.bytes n s sLen new H else none
     |some a=>
      bif Nat.beq (a.block%2) 0 then(bif Nat.ble (sLen+n) sCap then none else dD i.size i.size i.bytes n s sLen new H)
      else(match H.tr.get (a.block / 2) with
       |some (.cells cs sz ex)=>
        bif lE sz i.size e then
         bif Nat.ble (sLen+n) sCap then
          (match fJ H (a.add (sLen*i.size)) new with
          |some H'=>some (.slice base (sLen+n) sCap,H')
          |none=>none)
         else bif ex then(bif Nat.ble (cs.length+1) (a.off+(sLen+n)*i.size) then dD sz i.size i.bytes n s sLen new H else none)
         else bif Nat.beq (a.off+sLen*i.size) cs.length&&(iB (sLen+n) i.bytes&&(Nat.ble (sLen+n) 140737488355328&&(Nat.beq new.length (n*i.size)&&aZ new))) then
          some (cG H (sLen+n) (sLen+n),dC {H with tr:=H.tr.set (a.block / 2) none} (.cells (cs.drop a.off++new) sz false))
         else none
        else none
       |_=>none))
    |_=>none)
   |none=>none)
  |_,_=>none)
 |_,_=>none
theorem pA{e sT xT:TY}{i:TI}{z:Value}(hu:E.und sT=some (.slice e)){dx:TypeDesc}(hx:E.und xT=some dx)(z5:eR dx=false)(hi:E.inf e=some i)(hz:i.zero=some z)
 {base:Option Addr}{sLen sCap n:Nat}{x:Value}(ty:TY){w:World}(qe:∀w,(Builtin.lenOf x).run P w=.ok n w)(zt:sCap<sLen+n)(hb:iB (sLen+n) i.bytes=true)(mw:sLen+n<=140737488355328)
 {old new:VL}(v9:(Builtin.firstCells i.size sLen (.slice base sLen sCap)).run P w.drew=.ok ⟨old⟩ w.drew)(zu:(Builtin.firstCells i.size n x).run P w.drew=.ok ⟨new⟩ w.drew):
 ∃c,sLen+n<=c/\(Builtin.append_ #[sT,xT] ty #[.slice base sLen sCap,x]).run P w=.ok (.slice (some ⟨w.heap.size,0,none⟩) (sLen+n) c) (w.drew.alloc (.cells ((old++new)++(Builtin.zeroCells z.cells (c - (sLen+n))).toList).toArray e)):=by
 have fq:=aHy zt hb;refine⟨(Question.appendCap (sLen+n) sCap e).cut (w.tape w.drawn (.appendCap (sLen+n) sCap e)),by simp[Question.cut],?_⟩;obtain⟨ii,v8,e1,e2,e3⟩:=E.inf_ok e i hi;have qs:∀w,(typeInfo e).run P w=.ok ii w:=fun w=>by simp[typeInfo,v8]
 have c1:¬(((sLen+n:Nat):Int)>IntKind.i64.max/\(False\/ii.bytes=0)):=by
  grind [IntKind.max_i64]
 have pe:(2:Nat)^48=281474976710656:=by decide
 have c2:¬(Builtin.nextslicecap (sLen+n) sCap*ii.bytes>2^48):=by rw[e2,pe];omega
 have sb:¬(sLen+n<=sCap):=by omega
 have hq:(Question.appendCap (sLen+n) sCap e).forced=false:=rfl;simp only[Builtin.append_,List.getElem?_toArray,List.getElem?_cons_zero,List.getElem?_cons_succ,Sem.run_bind,aE E hu,Result.andThen_ok,aH E hi]
 have fin:((old++new)++(Builtin.zeroCells z.cells ((Question.appendCap (sLen+n) sCap e).cut (w.tape w.drawn (.appendCap (sLen+n) sCap e)) - (sLen+n))).toList).toArray=
  (⟨old⟩++⟨new⟩:Array Value)++Builtin.zeroCells z.cells ((Question.appendCap (sLen+n) sCap e).cut (w.tape w.drawn (.appendCap (sLen+n) sCap e)) - (sLen+n)):=by
  simp_all
 rw[fin];cases dx
 case int k=>simp[eR] at z5
 all_goals
  simp only[aE E hx,Result.andThen_ok,Bool.false_eq_true,if_false,qe,sb,qs,c1,c2,Sem.run_bind,run_choose,hq,run_askRoom,World.drew_eq,v9,Bool.not_false,if_true,zu,bE E hi hz,newRow,run_newObj,Sem.run_pure,World.alloc_eq];rfl
theorem dB{e sT xT:TY}{i:TI}(hu:E.und sT=some (.slice e)){dx:TypeDesc}(hx:E.und xT=some dx)(z5:eR dx=false)(hi:E.inf e=some i)
 {base:Option Addr}{sLen sCap n:Nat}{x:Value}(ty:TY){w w':World}(qe:(Builtin.lenOf x).run P w=.ok n w)(zt:sLen+n<=sCap)
 {new:VL}(zu:(Builtin.firstCells i.size n x).run P w=.ok ⟨new⟩ w)(qv:match base with|some a=>(storeCells (a.add (sLen*i.size)) new 0).run P w=.ok () w'|none=>w'=w):
 (Builtin.append_ #[sT,xT] ty #[.slice base sLen sCap,x]).run P w=.ok (.slice base (sLen+n) sCap) w':=by
 simp only[Builtin.append_,List.getElem?_toArray,List.getElem?_cons_zero,List.getElem?_cons_succ,Sem.run_bind,aE E hu,Result.andThen_ok,aH E hi];cases dx
 case int k=>simp[eR] at z5
 all_goals
  simp only[aE E hx,Result.andThen_ok,Bool.false_eq_true,if_false,qe,zt,Sem.run_bind,Bool.not_false,if_true,zu,Sem.run_pure]
  grind [Sem.run_bind,Result.andThen_ok,Sem.run_pure]
theorem jJ [Pins]{φ:PL}{H H':AH}{w:World}(R:Rel φ H w){e sT xT:TY}{i:TI}(hu:E.und sT=some (.slice e)){dx:TypeDesc}(hx:E.und xT=some dx)(z5:eR dx=false)
 (hi:E.inf e=some i)(hz:i.zero.isNone=false){base base':Option Addr}{sLen sCap sCap' n:Nat}{x x' v:Value}(ty:TY)(hs:VR φ (.slice base sLen sCap) (.slice base' sLen sCap'))(xa:VR φ x x')(hn:hY x=some n)
 {new:VL}(zu:cQ i.size n x H=some new)(zt:sCap'<sLen+n){tg:Nat}(lz:esz tg=i.size)(zw:SzE tg e)(h:dD tg i.size i.bytes n (.slice base sLen sCap) sLen new H=some (v,H')):
 SOk P (Builtin.append_ #[sT,xT] ty #[.slice base' sLen sCap',x']) φ w v H':=by
 unfold dD at h;split at h
 ·rename_i old v9;cases hb:(iB (sLen+n) i.bytes&&(Nat.ble (sLen+n) 140737488355328&&(Nat.beq old.length (sLen*i.size)&&Nat.beq new.length (n*i.size)))) with
  |false=>rw[hb] at h;cases h
  |true=>
   rw[hb,QT] at h;cases h;simp only[QB] at hb;obtain⟨pf,wv,tp,my⟩:=hb;have wv:=QL wv;have tp:=QN tp;have my:=QN my;obtain⟨z,xm⟩:∃z,i.zero=some z:=by cases gc:i.zero with|none=>simp_all|some z=>exact⟨z,rfl⟩
   obtain⟨old',mb,mz⟩:=nH (P:=P) R.drew hs (m:=sLen) rfl (Nat.le_refl _) v9;obtain⟨new',m3,fv⟩:=nH (P:=P) R.drew xa hn (Nat.le_refl _) zu;obtain⟨c,hc,qt⟩:∃c,sLen+n<=c/\(Builtin.append_ #[sT,xT] ty #[.slice base' sLen sCap',x']).run P w=.ok (.slice (some ⟨w.heap.size,0,none⟩) (sLen+n) c) (w.drew.alloc (.cells ((old'++new')++(Builtin.zeroCells z.cells (c - (sLen+n))).toList).toArray e)):=
    pA E hu hx z5 hi xm ty (fun w=>fZ xa hn w) zt pf wv mz fv
   have fu:=mb.append m3;have hR:=R.drew.newSpare (more:=(Builtin.zeroCells z.cells (c - (sLen+n))).toList) fu e tg zw;refine⟨_,_,_,⟨_,rfl⟩,hR,.slc (SRel.new R.len _ rfl (Nat.le_refl _) hc ?_),qt⟩;show c*esz tg<=_;rw[lz];have mv:=E.zs_ok _ _ _ hi xm;have e1:=mb.1;have e2:=m3.1;simp only[List.length_append,Builtin.zeroCells,Array.toList_map,List.length_map,Array.length_toList,Array.size_range];rw[mv,<-e1,<-e2,tp,my,<-Nat.add_mul,<-Nat.add_mul]
   simp_all
 ·cases h
theorem aIm [Pins]{φ:PL}{H H':AH}{w:World}(R:Rel φ H w){sT xT:TY}{s s' x x' v:Value}(ty:TY)(hs:VR φ s s')(hx:VR φ x x')(h:fE E sT xT s x H=some (v,H')):
 SOk P (Builtin.append_ #[sT,xT] ty #[s',x']) φ w v H':=by
 unfold fE at h;split at h
 ·rename_i e dx hu se;cases z5:eR dx with
  |true=>
   rw[z5,QT] at h;split at h
   ·rename_i i hi;cases dx with
    |int k0=>grind [aGe]
    |_=>simp[eR] at z5
   ·cases h
  |false=>
   rw[z5,QF] at h;split at h
   ·rename_i i n hi hn;cases zi:(Nat.beq i.size 0||i.zero.isNone) with
    |true=>rw[zi] at h;cases h
    |false=>
     rw[zi,QF] at h;simp only[Bool.or_eq_false_iff] at zi;have yj:i.size≠0:=fun e=>by simp_all
     split at h
     ·rename_i new zu;obtain⟨new',m6,sb⟩:=nH (P:=P) R hx hn (Nat.le_refl _) zu;split at h
      ·rename_i base sLen sCap;cases ma:Nat.beq n 0 with
       |true=>
        rw[ma,QT] at h;obtain rfl:=QN ma;cases wu:Nat.ble sLen sCap with
        |false=>rw[wu] at h;cases h
        |true=>
         rw[wu,QT] at h;cases h;have sa:=QL wu;have m8:new'=[]:=by
          have hl:new.length=0:=by
           unfold cQ at zu
           grind [aloads]
          have:=m6.1
          simp_all
         subst m8;cases hs with
         |snil l c=>exact .here R (.snil _ _) (dB E hu se z5 hi ty (fZ hx hn w) (by omega) sb rfl)
         |emp e=>
          obtain⟨a',c',rfl⟩:=e;refine .here R (.emp ⟨_,_,rfl⟩) (dB E hu se z5 hi ty (fZ hx hn w) (Nat.zero_le _) sb ?_);cases a' with
          |none=>rfl
          |some a'=>simp[storeCells]
         | @slc _ a' _ _ c' xw=>
           have zd:sCap<=c':=by rcases xw with⟨_,rfl,_⟩|⟨_,_,h2,_⟩<;>omega
           exact .here R (.slc xw) (dB E hu se z5 hi ty (fZ hx hn w) (by omega) sb (by simp[storeCells]))
       |false=>
        rw[ma,QF] at h;have l5:n≠0:=fun e=>by simp_all
        split at h
        ·-- nil
         cases hz:(Nat.beq sLen 0&&Nat.beq sCap 0) with
         |false=>rw[hz] at h;cases h
         |true=>
          rw[hz,QT] at h;simp only[QB] at hz;have e1:=QN hz.1;have e2:=QN hz.2;cases hs with
          |emp _=>cases e2
          |snil _ _=>
          exact jJ E R hu se z5 hi zi.2 ty (.snil _ _) hx hn zu (by omega) (zL (E.sz_lt _ _ hi)).1 (zL (E.sz_lt _ _ hi)).2 h
        ·rename_i a;cases hs with
         | @slc _ a' _ _ c' xw=>
           cases qu:Nat.beq (a.block%2) 0 with
           |true=>
            rw[qu,QT] at h;have pd:=QN qu;cases hr:Nat.ble (sLen+n) sCap with
            |true=>rw[hr] at h;cases h
            |false=>
             rw[hr,QF] at h;have sf:sCap<sLen+n:=by
              grind [Nat.lt_or_ge,Nat.ble_eq_true_of_le]
             have zd:c'=sCap:=by rcases xw with⟨_,e,_⟩|⟨h0,_⟩<;>omega
             exact jJ E R hu se z5 hi zi.2 ty (.slc xw) hx hn zu (by omega) (cF (E.sz_lt _ _ hi)) (SzE.small (E.sz_lt _ _ hi)) h
           |false=>
            rw[qu,QF] at h;have zf:=dN qu;split at h
            ·rename_i cs sz ex hg;cases si:lE sz i.size e with
             |false=>rw[si] at h;cases h
             |true=>
              rw[si,QT] at h;obtain⟨ww,pg,l7⟩:=aNh (E.sz_lt _ _ hi) si;have fw:=xw;rcases fw with⟨h0,_⟩|⟨_,h1,h2,h3⟩
              ·omega
              cases hr:Nat.ble (sLen+n) sCap with
              |true=>
               rw[hr,QT] at h;have sf:=QL hr;split at h
               ·rename_i H2 qv;cases h;rcases h3 with h3|⟨hA,xn⟩
                ·omega
                ·obtain⟨w',ua,wx⟩:=pG P R (hA.add (sLen*i.size)) m6 qv;exact⟨φ,_,w',List.prefix_refl _,wx,.slc (.inr ⟨zf,sf,h2,.inr ⟨hA,xn⟩⟩),dB E hu se z5 hi ty (fZ hx hn w) (by omega) sb ua⟩
               ·cases h
              |false=>
               rw[hr,QF] at h;cases ex with
               |true=>
                rw[QT] at h;cases qf:Nat.ble (cs.length+1) (a.off+(sLen+n)*i.size) with
                |false=>rw[qf] at h;cases h
                |true=>
                 rw[qf,QT] at h;have vz:=QL qf;refine jJ E R hu se z5 hi zi.2 ty (.slc xw) hx hn zu ?_ ww pg h;rcases h3 with h3|⟨hA,xn⟩
                 ·omega
                 ·rcases hA with⟨h0,_⟩|⟨_,_,_,p,hp,_⟩
                  ·omega
                  ·have hb:=xn p hp;obtain⟨o1,o2,o3⟩:=sS R hg hp;have o3:=o3 rfl;rw[o1,ww] at hb;rcases Nat.lt_or_ge c' (sLen+n) with h'|h'
                   ·exact h'
                   ·have:=Nat.mul_le_mul_right i.size h';omega
               |false=>
                rw[QF] at h;cases hb:(Nat.beq (a.off+sLen*i.size) cs.length&&(iB (sLen+n) i.bytes&&(Nat.ble (sLen+n) 140737488355328&&(Nat.beq new.length (n*i.size)&&aZ new)))) with
                |false=>rw[hb] at h;cases h
                |true=>
                 rw[hb,QT] at h;simp only[QB] at hb;obtain⟨ao,pf,wv,tp,my⟩:=hb;have ao:=QN ao;have wv:=QL wv;have kc:=QN tp;rcases Nat.lt_or_ge c' (sLen+n) with zt|zt
                 ·-- no room in the world:a new row
                  have v9:cQ i.size sLen (.slice (some a) sLen sCap) H=some (cs.drop a.off):=by
                   show aloads H a (sLen*i.size)=_;unfold aloads;by_cases xz:sLen*i.size=0
                   ·rw[xz];simp;omega
                   ·rw[show Nat.beq (sLen*i.size) 0=false by(cases hq:sLen*i.size with|zero=>exact absurd hq xz|succ m=>rfl),QF,qu,QF,hg];simp only;rw[Nat.ble_eq_true_of_le (by omega),QT]
                    grind [List.take_of_length_le]
                  have hH:dD sz i.size i.bytes n (.slice (some a) sLen sCap) sLen new H=some (cG H (sLen+n) (sLen+n),dC H (.cells (cs.drop a.off++new) sz false)):=by
                   grind [dD,Nat.ble_eq_true_of_le,Nat.beq,Nat.beq_eq]
                  obtain⟨φ',v',w',q1,q2,q3,q4⟩:=jJ E R hu se z5 hi zi.2 ty (.slc xw) hx hn zu zt ww pg hH;cases h;refine⟨φ',v',w',q1,?_,q3,q4⟩;refine(q2.kill (a.block / 2)).congr rfl rfl fun j=>?_;have qm:a.block / 2<H.nx:=by
                   obtain⟨p,hp,_⟩:=R.obj _ _ hg;rw[<-R.len];exact lt_of_getElem? hp
                  simp only[dC];rw[Tr.get_set,Tr.get_set,Tr.get_set,Tr.get_set]
                  grind
                 ·-- room:the old row is taken over
                  cases h;rcases h3 with h3|⟨hA,xn⟩
                  ·omega
                  rcases hA with⟨h0,_⟩|⟨_,gf,ke,p,hp,zr,ub⟩
                  ·omega
                  have hb:=xn p hp;obtain⟨o1,o2,_⟩:=sS R hg hp;obtain⟨q,hq,hN,hO⟩:=R.obj _ _ hg;rw[hp] at hq;cases hq;obtain⟨C,ee,lo,v5,xa,hf,ht,yw,yb,yz,vq⟩:=hO;have hC:w.heap[p.blk]?=some (.cells C.toList.toArray ee (lo,v5)):=by simpa using xa
                  have fy:=Nat.mul_le_mul_right i.size zt;rw[Nat.add_mul] at fy;rw[o1,ww] at hb;have mc:new'.length=n*i.size:=by rw[<-m6.1,kc]
                  have kf:C.toList.length=C.size:=Array.length_toList;have qv:=mU P new' 0 w (a'.add (sLen*i.size)) C.toList ee lo v5 (by grind [bT]) (by rw[gP _ ke]) (by simpa using hf) (by grind [iF]) (pE m6 my);rw[bT,iF,zr,ub,Nat.add_zero] at qv;refine⟨_,_,_,⟨_,rfl⟩,R.takeOver hg hp (base2:=p.base+a.off) (cs2:=cs.drop a.off++new) (C2:=splice C.toList (p.base+a.off+sLen*i.size) new') hC (eE (by omega)) ?_ ?_ l7,?_,dB E hu se z5 hi ty (fZ hx hn w) zt sb qv⟩
                  ·grind
                  ·have hd:=vq.drop a.off;have:=hd.append m6;have e5:((splice C.toList (p.base+a.off+sLen*i.size) new').drop (p.base+a.off)).take (cs.drop a.off++new).length=((C.toList.drop p.base).take cs.length).drop a.off++new':=by
                    apply List.ext_getElem?;intro k;rw[List.getElem?_take,List.getElem?_drop,pB (by omega)];simp only[List.length_append,List.length_drop,kc];by_cases k1:k<sLen*i.size
                    ·grind
                    ·by_cases k2:k<sLen*i.size+n*i.size
                     ·rw[if_pos (by omega),if_neg (by omega),if_pos (by omega),List.getElem?_append_right (by simp;omega)];congr 1;simp;omega
                     grind
                   rw[e5];exact this
                  ·refine .slc (.inr ⟨by simp only;omega,Nat.le_refl _,zt,.inr ⟨.inr ⟨by simp only;omega,rfl,ke,⟨p.blk,p.base+a.off,p.tot,p.sz⟩,?_,zr,by simp[ub]⟩,fun q hq=>?_⟩⟩)
                   ·have:(2*H.nx+1) / 2=φ.length:=by rw[R.len];omega
                    simp[this]
                   ·have:(2*H.nx+1) / 2=φ.length:=by rw[R.len];omega
                    grind
            ·cases h
      ·cases h
     ·cases h
   ·cases h
 ·cases h
end
end Go.AM
namespace Go.AM
open Go.RowKit
variable [σ:Sg]
section
variable {P:PG}(E:Env P)
def aFq(dT:TY)(d x:Value)(H:AH):Option (Value×AH):=
 match E.und dT,d,hY x with
 |some (.slice e),.slice base dLen dc,some m=>(match E.inf e with
  |some i=>
   (match cQ i.size (Nat.min m dLen) x H with
   |some l=>
    (match base with
    |some a=>bif Nat.beq l.length 0 then some (.int .i64 (Nat.min m dLen),H) else(match fJ H a l with
     |some H'=>some (.int .i64 (Nat.min m dLen),H')
     |none=>none)
    |none=>bif Nat.beq dc 1 then none else some (.int .i64 (Nat.min m dLen),H))
   |none=>none)
  |none=>none)
 |_,_,_=>none
theorem aWj [Pins]{φ:PL}{H H':AH}{w:World}(R:Rel φ H w){dT xT:TY}{d d' x x' v:Value}(ty:TY)(hd:VR φ d d')(hx:VR φ x x')(h:aFq E dT d x H=some (v,H')):
 SOk P (Builtin.copy_ #[dT,xT] ty #[d',x']) φ w v H':=by
 unfold aFq at h;split at h
 ·rename_i e base dLen dc m hu hm;split at h
  ·rename_i i hi;split at h
   ·rename_i l hl;obtain⟨l',h1,h2⟩:=nH (P:=P) R hx hm (Nat.min_le_left _ _) hl;have qe:=fZ (P:=P) hx hm w;split at h
    ·rename_i a;cases hd with
     | @slc _ a' _ _ c' hs=>
       cases ye:Nat.beq l.length 0 with
       |true=>
        rw[ye,QT] at h;cases h;have e1:=QN ye;have:l'=[]:=List.eq_nil_of_length_eq_zero (by have:=h1.1;omega);subst this;refine .here R (.int _ _) ?_;simp[Builtin.copy_,aE E hu,qe,aH E hi,h2,goInt,storeCells]
       |false=>
        rw[ye,QF] at h;split at h
        ·rename_i H2 qv;cases h;have hA:ARel φ a a':=by
          rcases hs with⟨_,_,hA⟩|⟨zf,q1,q2,h3|⟨hA,_⟩⟩
          ·exact hA
          ·exfalso;obtain rfl:dLen=0:=by omega
           have hz:Nat.min m 0=0:=Nat.min_zero m;rw[hz] at hl;have:l.length=0:=by
            unfold cQ at hl;split at hl
            ·simp[aloads] at hl;rw[hl];rfl
            ·simp_all
            ·cases hl;simp
            ·cases hl
           simp_all
          ·exact hA
         obtain⟨w',ua,wx⟩:=pG P R hA h1 qv;refine⟨φ,_,w',List.prefix_refl _,wx,.int _ _,?_⟩;simp[Builtin.copy_,aE E hu,qe,aH E hi,h2,goInt,ua]
        ·cases h
    ·cases uc:Nat.beq dc 1 with
     |true=>rw[uc] at h;cases h
     |false=>
     rw[uc,QF] at h;cases h;cases hd with
     |emp _=>cases uc
     |snil _ _=>
     refine .here R (.int _ _) ?_;simp[Builtin.copy_,aE E hu,qe,aH E hi,h2,goInt]
   ·cases h
  ·cases h
 ·cases h
def aGi(t:TY)(x:Value)(H:AH):Option Value:=
 match E.und t,x with
 |some .string,.string s=>some (.int .i64 s.data.toList.length)
 |some (.array n _),_=>some (.int .i64 n)
 |some (.slice _),.slice _ n _=>some (.int .i64 n)
 |some (.map _ _),.map none=>some (.int .i64 0)
 |some (.map _ _),.map (some r)=>
  bif Nat.beq (r%2) 0 then none else
  (match H.tr.get (r / 2) with
  |some (.map es _)=>some (.int .i64 es.length)
  |_=>none)
 |_,_=>none
theorem qQ [Pins]{φ:PL}{H:AH}{w:World}(R:Rel φ H w){r r':Nat}(hr:BRel φ r r')(zf:r%2=1){es:List (Value×Value×Nat)}{clock:Nat}(hg:H.tr.get (r / 2)=some (.map es clock)):
 ∃es':Array MapEntry,w.heap[r']?=some (.map es' clock)/\yL φ es es'.toList:=by
 rcases hr with⟨h0,_⟩|⟨_,p,hp,rfl⟩
 ·omega
 ·obtain⟨q,hq,hN,hO⟩:=R.obj _ _ hg;rw[hp] at hq;cases hq;exact hO
theorem cO{w:World}{r:Nat}{es:Array MapEntry}{c:Nat}(h:w.heap[r]?=some (.map es c)):(getObj r).run P w=.ok (.map es c) w:=by
 simp[getObj,Sem.run,h]
theorem aMt [Pins]{φ:PL}{H:AH}{w:World}(R:Rel φ H w){t ty:TY}{x x' v:Value}(hx:VR φ x x')(h:aGi E t x H=some v):
 ∃v',VR φ v v'/\(Builtin.len_ #[t] ty #[x']).run P w=.ok v' w:=by
 unfold aGi at h;split at h
 ·rename_i hu;cases h;cases hx;exact⟨_,.int _ _,by simp[Builtin.len_,aE E hu,goInt]⟩
 ·rename_i hu;cases h;exact⟨_,.int _ _,by simp[Builtin.len_,aE E hu,goInt]⟩
 ·rename_i hu;cases h;cases hx with
  |emp e=>obtain⟨_,_,rfl⟩:=e;exact⟨_,.int _ _,by simp[Builtin.len_,aE E hu,goInt]⟩
  |_=>exact⟨_,.int _ _,by simp[Builtin.len_,aE E hu,goInt]⟩
 ·rename_i hu;cases h;cases hx;exact⟨_,.int _ _,by simp[Builtin.len_,aE E hu,goInt]⟩
 ·rename_i r hu;cases hx with
  |mp hr=>
   cases qu:Nat.beq (r%2) 0 with
   |true=>rw[qu] at h;cases h
   |false=>
    rw[qu,QF] at h;split at h
    ·rename_i es c hg;cases h;obtain⟨es',h1,h2⟩:=qQ R hr (dN qu) hg;refine⟨_,.int _ _,?_⟩;have hl:es'.size=es.length:=by rw[<-Array.length_toList];exact h2.1.symm
     simp[Builtin.len_,aE E hu,goInt,cO h1,hl]
    ·cases h
 ·cases h
def bFm(t:TY)(x:Value)(H:AH):Option Value:=
 match E.und t,x with
 |some (.array n _),_=>some (.int .i64 n)
 |some (.slice _),.slice none _ 0=>some (.int .i64 0)
 |some (.slice e),.slice (some a) _ c=>
  bif Nat.beq (a.block%2) 0 then some (.int .i64 c) else
  (match E.inf e,H.tr.get (a.block / 2) with
  |some i,some (.cells cs sz true)=>bif Nat.beq sz i.size&&Nat.blt cs.length (a.off+(c+1)*sz) then some (.int .i64 c) else none
  |_,_=>none)
 |_,_=>none
theorem aLr [Pins]{φ:PL}{H:AH}{w:World}(R:Rel φ H w){t ty:TY}{x x' v:Value}(hx:VR φ x x')(h:bFm E t x H=some v):
 ∃v',VR φ v v'/\(Builtin.cap_ #[t] ty #[x']).run P w=.ok v' w:=by
 unfold bFm at h;split at h
 ·rename_i hu;cases h;exact⟨_,.int _ _,by simp[Builtin.cap_,aE E hu,goInt]⟩
 ·rename_i hu;cases h;cases hx;exact⟨_,.int _ _,by simp[Builtin.cap_,aE E hu,goInt]⟩
 ·rename_i e a l c hu;cases hx with
  | @slc _ a' _ _ c' hs=>
    have qt:(Builtin.cap_ #[t] ty #[.slice (some a') l c']).run P w=.ok (.int .i64 c') w:=by simp[Builtin.cap_,aE E hu,goInt]
    cases qu:Nat.beq (a.block%2) 0 with
    |true=>
     rw[qu,QT] at h;cases h;have pd:=QN qu;rcases hs with⟨_,rfl,_⟩|⟨h0,_⟩
     ·exact⟨_,.int _ _,qt⟩
     ·omega
    |false=>
     rw[qu,QF] at h;have zf:=dN qu;split at h
     ·rename_i i cs sz hi hg;cases hb:(Nat.beq sz i.size&&Nat.blt cs.length (a.off+(c+1)*sz)) with
      |false=>rw[hb] at h;cases h
      |true=>
       rw[hb,QT] at h;cases h;simp only[QB] at hb;have qm:cs.length+1<=a.off+(c+1)*sz:=QL hb.2;have zd:c'=c:=by
        rcases hs with⟨h0,_⟩|⟨_,h1,h2,h3|⟨hA,xn⟩⟩
        ·omega
        ·omega
        ·rcases hA with⟨h0,_⟩|⟨_,_,_,p,hp,_⟩
         ·omega
         ·have wv:=xn p hp;obtain⟨o1,o2,o3⟩:=sS R hg hp;have o3:=o3 rfl;rw[o1,show esz sz=sz by(rw[QN hb.1];exact cF (E.sz_lt _ _ hi))] at wv;rcases Nat.lt_or_ge c' (c+1) with h'|h'
          ·omega
          ·have:=Nat.mul_le_mul_right sz h';omega
       subst zd;exact⟨_,.int _ _,qt⟩
     ·cases h
 ·cases h
def qY(H:AH):Value×AH:=(.map (some (2*H.nx+1)),dC H (.map [] 0))
theorem aGc [Pins]{φ:PL}{H:AH}{w:World}(R:Rel φ H w)(t:TY):SOk P (Instr.makeMap t none) φ w (qY H).1 (qY H).2:=by
 refine⟨_,_,_,⟨_,rfl⟩,R.new (.map [] 0) (.map #[] 0) 0 0 ⟨#[],rfl,rfl,fun i k v b e h=>by simp at h⟩,.mp (r':=w.heap.size) (.inr ⟨by omega,⟨w.heap.size,0,0,0⟩,?_,rfl⟩),?_⟩
 ·have:(2*H.nx+1) / 2=φ.length:=by rw[R.len];omega
  simp[this]
 ·simp[Instr.makeMap]
def dJ:TypeDesc->Value->Bool
 |.string,.string _=>true
 |.int k,.int k' _=>decide (k=k')
 |_,_=>false
theorem eY{d:TypeDesc}{k:Value}(h:dJ d k=true):(d=.string/\∃s,k=.string s)\/∃kk n,d=.int kk/\k=.int kk n:=by
 unfold dJ at h
 grind
theorem xJ{φ:PL}{d:TypeDesc}{k k':Value}(h:VR φ k k')(hk:dJ d k=true):k'=k:=by
 unfold dJ at hk;split at hk
 ·cases h;rfl
 ·cases h;rfl
 ·cases hk
def kA:Value->Value->Bool
 |.string a,.string b=>a.data.toList==b.data.toList
 |.int k a,.int k' b=>decide (k=k')&&a==b
 |_,_=>false
def iQ(d:TypeDesc)(k:Value):List (Value×Value×Nat)->Nat->Option (Option (Nat×Value))
 |[],_=>some none
 |(k',v,_)::es,i=>bif dJ d k' then(bif kA k k' then some (some (i,v)) else iQ d k es (i+1)) else none
theorem rD{φ:PL}{d:TypeDesc}{k:Value}(hk:dJ d k=true):∀(es:List (Value×Value×Nat)) (es':List MapEntry) (i:Nat) (r:Option (Nat×Value)),yL φ es es'->iQ d k es i=some r->
 ∃r',Instr.findNow d k es' i=some r'/\(match r with
  |none=>r'=none
  |some (j,v)=>∃v',r'=some (j,v')/\VR φ v v'/\i<=j/\∃e,es'[j - i]?=some e/\e.key=k):=by
 intro es
 induction es with
 |nil=>
  intro es' i r hE h;simp[iQ] at h;subst h;have:es'=[]:=List.eq_nil_of_length_eq_zero hE.1.symm;subst this;exact⟨none,rfl,rfl⟩
 |cons x es ih=>
  intro es' i r hE h;obtain⟨k',v,b⟩:=x;cases es' with
  |nil=>have:=hE.1;simp at this
  |cons e es'=>
   obtain⟨r1,r2,r3⟩:=hE.2 0 k' v b e rfl rfl;simp only[iQ] at h;cases kg:dJ d k' with
   |false=>rw[kg] at h;cases h
   |true=>
    rw[kg,QT] at h;have x5:e.key=k':=xJ r1 kg;have aq:Instr.sameNow d k e.key=some (kA k k'):=by
     rw[x5];rcases eY hk with⟨rfl,s,rfl⟩|⟨kk,n,rfl,rfl⟩<;>rcases eY kg with⟨h1,s',rfl⟩|⟨kk',n',h1,rfl⟩
     ·simp only[Instr.sameNow,kA,beq_toListBytes,ByteArray.toList_eq]
     ·cases h1
     ·cases h1
     grind [Instr.sameNow,kA]
    cases hs:kA k k' with
    |true=>
     rw[hs,QT] at h;cases h;refine⟨some (i,e.val),by grind [Instr.findNow],e.val,rfl,r2,Nat.le_refl _,e,by simp,?_⟩;rw[x5];rcases eY hk with⟨rfl,s,rfl⟩|⟨kk,n,rfl,rfl⟩<;>rcases eY kg with⟨h1,s',rfl⟩|⟨kk',n',h1,rfl⟩
     ·simp only[kA,beq_iff_eq] at hs
      grind [ByteArray.ext,Array.toList_inj]
     ·cases h1
     ·cases h1
     ·simp only[kA,QB,decide_eq_true_eq,beq_iff_eq] at hs;rw[hs.1,hs.2]
    |false=>
     rw[hs,QF] at h;have ef:yL φ es es':=⟨by have:=hE.1;simpa using this,fun j k v b e h1 h2=>hE.2 (j+1) k v b e (by simpa using h1) (by simpa using h2)⟩;obtain⟨r',q1,q2⟩:=ih es' (i+1) r ef h;refine⟨r',by grind [Instr.findNow],?_⟩
     grind
def eH(t:TY)(x ix:Value)(ok:Bool)(H:AH):Option Value:=
 match E.und t,x with
 |some (.map kt et),.map r=>
  (match E.und kt,E.inf et with
  |some d,some i=>
   bif dJ d ix then
    (match i.zero with
    |some z=>
     (match (match r with
      |none=>some []
      |some r=>bif Nat.beq (r%2) 0 then none else(match H.tr.get (r / 2) with
       |some (.map es _)=>some es
       |_=>none)) with
     |some es=>
      (match iQ d ix es 0 with
      |some (some (_,v))=>some (if ok then .tuple ⟨[v,.bool true]⟩ else v)
      |some none=>some (if ok then .tuple ⟨[ext z,.bool false]⟩ else ext z)
      |none=>none)
     |none=>none)
    |none=>none)
   else none
  |_,_=>none)
 |_,_=>none
theorem qS{kt:TY}{d:TypeDesc}{k:Value}(hd:E.und kt=some d)(hk:dJ d k=true)(b:Bool)(n:Nat)(w:World):(Instr.checkKey b (n+1) kt k).run P w=.ok () w:=by
 simp only[Instr.checkKey,Sem.run_bind,aE E hd,Result.andThen_ok];rcases eY hk with⟨rfl,s,rfl⟩|⟨kk,n,rfl,rfl⟩<;>rfl
theorem aJs [Pins]{φ:PL}{H:AH}{w:World}(R:Rel φ H w){t:TY}{x x' ix ix' v:Value}{ok:Bool}(hx:VR φ x x')(hi:VR φ ix ix')(h:eH E t x ix ok H=some v):
 ∃v',VR φ v v'/\(Instr.lookup t x' ix' ok).run P w=.ok v' w:=by
 unfold eH at h;split at h
 ·rename_i kt et r hu;split at h
  ·rename_i d i hd y0;cases hk:dJ d ix with
   |false=>rw[hk] at h;cases h
   |true=>
    rw[hk,QT] at h;obtain rfl:=xJ hi hk;split at h
    ·rename_i z hz;split at h
     ·rename_i es xg
      have hr:∃es':Array MapEntry,yL φ es es'.toList/\(Instr.lookup t x' ix' ok).run P w=(do
       Instr.checkKey es'.isEmpty 10000 kt ix'
       let (v,o) <-match <-Instr.findKey kt ix' es'.toList with
        |some (_,v)=>pure (v,true)
        |none=>pure (<-zeroValue et,false)
       pure (if ok then .tuple #[v,.bool o] else v):Sem Value).run P w:=by
       cases hx with
       |mnil=>
        simp at xg;subst xg;refine⟨#[],⟨rfl,fun i k v b e h=>by simp at h⟩,?_⟩;unfold Instr.lookup;rw[Sem.run_bind,aE E hu];rfl
       |mp hr=>
        rename_i rr rr';simp only at xg;cases qu:Nat.beq (rr%2) 0 with
        |true=>simp_all
        |false=>
         rw[qu,QF] at xg;split at xg
         ·rename_i es2 c hg;cases xg;obtain⟨es',h1,h2⟩:=qQ R hr (dN qu) hg;refine⟨es',h2,?_⟩;unfold Instr.lookup;rw[Sem.run_bind,aE E hu];simp only[Result.andThen_ok];rw[Sem.run_bind,cO h1];rfl
         ·cases xg
      obtain⟨es',hE,x6⟩:=hr;rw[x6];have x7:=qS E hd hk es'.isEmpty 9999 w;split at h
      ·rename_i j v1 hf;cases h;obtain⟨r',q1,v',rfl,q2,_⟩:=rD hk es es'.toList 0 _ hE hf;have x8:(Instr.findKey kt ix' es'.toList).run P w=.ok (some (j,v')) w:=by simp[Instr.findKey,aE E hd,q1]
       refine⟨if ok then .tuple #[v',.bool true] else v',?_,?_⟩
       ·cases ok
        ·exact q2
        ·exact VR.tuple' (VRs.cons q2 (VRs.cons (.bool true) (VRs.nil φ)))
       simp_all
      ·rename_i hf;cases h;obtain⟨r',q1,rfl⟩:=rD hk es es'.toList 0 _ hE hf;have x8:(Instr.findKey kt ix' es'.toList).run P w=.ok none w:=by simp[Instr.findKey,aE E hd,q1]
       refine⟨if ok then .tuple #[z,.bool false] else z,?_,?_⟩
       ·cases ok
        ·exact VR.ext φ z
        ·exact VR.tuple' (VRs.cons (VR.ext φ z) (VRs.cons (.bool false) (VRs.nil φ)))
       ·simp only[Sem.run_bind,x7,Result.andThen_ok,x8,bE E y0 hz,Sem.run_pure]
      ·cases h
     ·cases h
    ·cases h
  ·cases h
 ·cases h
def eV(t:TY)(m k v:Value)(H:AH):Option AH:=
 match E.und t,m with
 |some (.map kt _),.map (some r)=>
  bif Nat.beq (r%2) 0 then none else
  (match E.und kt,H.tr.get (r / 2) with
  |some d,some (.map es c)=>
   bif dJ d k then
    (match iQ d k es 0 with
    |some (some (j,_))=>some {H with tr:=H.tr.set (r / 2) (some (.map (es.modify j fun e=>(k,v,e.2.2)) c))}
    |some none=>some {H with tr:=H.tr.set (r / 2) (some (.map (es++[(k,v,c)]) (c+1)))}
    |none=>none)
   else none
  |_,_=>none)
 |_,_=>none
theorem Rel.setMap [Pins]{φ:PL}{H:AH}{w:World}(R:Rel φ H w){i:Nat}{es:List (Value×Value×Nat)}{c:Nat}(hg:H.tr.get i=some (.map es c)){p:Place}(hp:φ[i]?=some p)
 {es2:List (Value×Value×Nat)}{c2:Nat}{es2':Array MapEntry}(hE:yL φ es2 es2'.toList):
 Rel φ {H with tr:=H.tr.set i (some (.map es2 c2))} {w with heap:=w.heap.setIfInBounds p.blk (.map es2' c2)}:=by
 obtain⟨q,hq,hN,hO⟩:=R.obj _ _ hg;rw[hp] at hq;cases hq;obtain⟨es',hx,_⟩:=hO;have zr:=alt_of_getElem? hx;have other:∀k,k≠p.blk->({w with heap:=w.heap.setIfInBounds p.blk (.map es2' c2)}:World).heap[k]?=w.heap[k]?:=by
  grind
 refine⟨⟨R.below.os,R.below.tape,R.below.output,by grind,fun k hk=>?_⟩,R.len,fun j o' hj=>?_,fun j k o1 o2 p1 p2 hj hk zx ze hE=>?_,aCw R hp (R.rdN hg) _,fun i p hp=>by simpa using R.lt i p hp,R.ro' rfl (List.prefix_refl _) fun j _ h=>by
  grind [Tr.get_set_ne]⟩
 ·have tn:k<H.w0.heap.size:=hk;rw[other k (by omega)];exact R.below.block k hk
 ·by_cases yx:j=i
  ·subst yx;simp only[Tr.get_set_same] at hj;cases hj;exact⟨p,hp,hN,es2',by simp[zr],hE⟩
  ·simp only[Tr.get_set_ne _ _ yx] at hj;obtain⟨q,hq,tu,o7⟩:=R.obj _ _ hj;refine⟨q,hq,tu,?_⟩;have qr:q.blk≠p.blk:=fun hE=>yx (R.inj j i _ _ q p hj hg hq hp hE)
   simp_all
 ·have back:∀j o',(H.tr.set i (some (AObj.map es2 c2))).get j=some o'->∃o'',H.tr.get j=some o'':=by
   grind [Tr.get_set_ne]
  obtain⟨o1',h1⟩:=back _ _ hj;obtain⟨o2',h2⟩:=back _ _ hk;exact R.inj j k _ _ p1 p2 h1 h2 zx ze hE
theorem oY{w:World}{r:Nat}{es:Array MapEntry}{c:Nat}(h:w.heap[r]?=some (.map es c))(o:Obj):(setObj r o).run P w=.ok () {w with heap:=w.heap.setIfInBounds r o}:=by
 simp[setObj,Sem.run,h]
theorem yG{d:TypeDesc}{k:Value}(hk:dJ d k=true):Instr.sameBits 10000 k k=true:=by
 rcases eY hk with⟨rfl,s,rfl⟩|⟨kk,n,rfl,rfl⟩
 ·simp[Instr.sameBits,beq_toListBytes]
 ·simp[Instr.sameBits]
theorem yU [Pins]{φ:PL}{H H':AH}{w:World}(R:Rel φ H w){t:TY}{m m' k k' v v':Value}(hm:VR φ m m')(hk:VR φ k k')(hv:VR φ v v')(h:eV E t m k v H=some H'):
 ∃w',Rel φ H' w'/\(Instr.mapUpdate t m' k' v').run P w=.ok () w':=by
 unfold eV at h;split at h
 ·rename_i kt et r hu;cases hm with
  |mp hr=>
   rename_i r';cases qu:Nat.beq (r%2) 0 with
   |true=>rw[qu] at h;cases h
   |false=>
    rw[qu,QF] at h;split at h
    ·rename_i d es c hd hg;cases yf:dJ d k with
     |false=>rw[yf] at h;cases h
     |true=>
      rw[yf,QT] at h;obtain rfl:=xJ hk yf;obtain⟨es',h1,hE⟩:=qQ R hr (dN qu) hg;have vq:=hr;rcases vq with⟨h0,_⟩|⟨_,p,hp,gk⟩
      ·simp_all
      have x7:=qS E hd yf false 9999 w;split at h
      ·rename_i j v1 hf;cases h;obtain⟨rr,q1,v2,rfl,q2,_,e,q3,q4⟩:=rD yf es es'.toList 0 _ hE hf;have x8:(Instr.findKey kt k' es'.toList).run P w=.ok (some (j,v2)) w:=by simp[Instr.findKey,aE E hd,q1]
       have x5:(((es'[j]?).map (·.key)).getD k')=k':=by
        simp_all
       refine⟨_,R.setMap hg hp (es2':=es'.modify j fun e=>{e with key:=k',val:=v'}) (c2:=c) ?_,?_⟩
       ·refine⟨by have:=hE.1;simpa using this,fun i kk vv bb ee hi qi=>?_⟩;rw[Array.toList_modify,List.getElem?_modify] at qi;rw[List.getElem?_modify] at hi;by_cases yq:j=i
        ·subst yq;cases xg:es[j]? with
         |none=>simp_all
         |some x=>
          cases kh:es'.toList[j]? with
          |none=>simp_all
          |some x'=>
           rw[xg] at hi;rw[kh] at qi;simp at hi qi;obtain⟨x1,x2,x3⟩:=x;obtain⟨s1,s2,s3⟩:=hE.2 j x1 x2 x3 x' xg kh
           grind
        ·simp[yq] at hi qi;exact hE.2 i kk vv bb ee hi (by simpa using qi)
       ·rw[gk] at h1 ⊢;simp only[Instr.mapUpdate,Sem.run_bind,aE E hu,Result.andThen_ok,cO h1,x7,x8,Instr.keyThatStays,x5,yG yf,if_true,Sem.run_pure,oY h1]
      ·rename_i hf;cases h;obtain⟨rr,q1,rfl⟩:=rD yf es es'.toList 0 _ hE hf;have x8:(Instr.findKey kt k' es'.toList).run P w=.ok none w:=by simp[Instr.findKey,aE E hd,q1]
       refine⟨_,R.setMap hg hp (es2':=es'.push {key:=k',val:=v',born:=c}) (c2:=c+1) ?_,?_⟩
       ·refine⟨by have:=hE.1;simpa using this,fun i kk vv bb ee hi qi=>?_⟩;rw[Array.toList_push] at qi;by_cases re:i<es.length
        ·rw[List.getElem?_append_left re] at hi;rw[List.getElem?_append_left (by rw[<-hE.1];exact re)] at qi;exact hE.2 i kk vv bb ee hi qi
        ·rw[List.getElem?_append_right (by omega)] at hi;rw[List.getElem?_append_right (by rw[<-hE.1];omega),<-hE.1] at qi
         grind
       ·rw[gk] at h1 ⊢;simp only[Instr.mapUpdate,Sem.run_bind,aE E hu,Result.andThen_ok,cO h1,x7,x8,oY h1]
      ·cases h
    ·cases h
 ·cases h
def mX:Nat->TypeId->Value->Bool
 |0,_,_=>false
 |d+1,t,v=>
  match E.und t with
  |some (.int _)=>true
  |some .string=>true
  |some .bool=>true
  |some (.struct fs)=>(match v with
   |.agg ⟨xs⟩=>fs.toList.all fun f=>(f.name== "_")||(match apart E f.type xs f.offset with
    |some a=>mX d f.type a
    |none=>false)
   |_=>false)
  |_=>false
theorem oK(b:Bool)(m:Nat):∀(d:Nat) (t:TY) (v:Value) (w:World),mX E d t v=true->(Instr.checkKey b (d+m) t v).run P w=.ok () w:=by
 intro d
 induction d with
 |zero=>grind [mX]
 |succ d ih=>
  intro t v w h;rw[show d+1+m=(d+m)+1 by omega];unfold mX at h;split at h
  ·rename_i hu;rw[Instr.checkKey,Sem.run_bind,aE E hu,Result.andThen_ok];rfl
  ·rename_i hu;rw[Instr.checkKey,Sem.run_bind,aE E hu,Result.andThen_ok];rfl
  ·rename_i hu;rw[Instr.checkKey,Sem.run_bind,aE E hu,Result.andThen_ok];rfl
  ·rename_i fs hu;split at h
   ·rename_i xs;rw[Instr.checkKey];simp only[Sem.run_bind,aE E hu,Result.andThen_ok];rw[<-Array.forIn_toList];generalize fs.toList=L at h
    induction L with
    |nil=>simp
    |cons f L ihL=>
     simp only[List.all_cons,QB,Bool.or_eq_true,beq_iff_eq] at h;have ht:=ihL h.2;rcases h.1 with hn|hn
     ·simp_all
     ·by_cases ma:f.name= "_"
      ·simp_all
      ·split at hn
       ·rename_i a ha;simp only[List.forIn_cons,Sem.run_bind,ma,ne_eq,not_false_eq_true,if_true,Result.andThen_ok,jX E ha,ih _ _ w hn,Sem.run_pure];exact ht
       ·cases hn
   ·cases h
  ·cases h
def tY:Value->Bool
 |.agg ⟨xs⟩=>kO xs
 |_=>false
theorem vG{φ:PL}{v v':Value}(h:VR φ v v')(hf:tY v=true):v'=v:=by
 unfold tY at hf;split at hf
 ·cases h with
  |agg ha hv=>rw[jB ⟨ha,hv⟩ hf]
 ·cases hf
def kG:TypeDesc->Bool
 |.struct _=>true
 |_=>false
def aTa(φ:PL):Option (Nat×Value)->Option (Nat×Value)->Prop
 |none,r'=>r'=none
 |some (j,v),r'=>∃v',r'=some (j,v')/\VR φ v v'
def pR(kt:TY)(k:Value):List (Value×Value×Nat)->Nat->Option (Option (Nat×Value))
 |[],_=>some none
 |(k',v,_)::es,i=>bif tY k' then(match aeq E 9 kt k k' with
  |some true=>some (some (i,v))
  |some false=>pR kt k es (i+1)
  |none=>none) else none
theorem aPm{φ:PL}{kt:TY}{k:Value}(w:World):∀(es:List (Value×Value×Nat)) (es':List MapEntry) (i:Nat) (r:Option (Nat×Value)),yL φ es es'->pR E kt k es i=some r->
 ∃r',(Instr.findAsking kt k es' i).run P w=.ok r' w/\aTa φ r r':=by
 intro es
 induction es with
 |nil=>
  intro es' i r hE h;simp[pR] at h;subst h;have:es'=[]:=List.eq_nil_of_length_eq_zero hE.1.symm;subst this;exact⟨none,by simp[Instr.findAsking],rfl⟩
 |cons x es ih=>
  intro es' i r hE h;obtain⟨k',v,b⟩:=x;cases es' with
  |nil=>have:=hE.1;simp at this
  |cons e es'=>
   obtain⟨r1,r2,r3⟩:=hE.2 0 k' v b e rfl rfl;simp only[pR] at h;cases x8:tY k' with
   |false=>rw[x8] at h;cases h
   |true=>
    rw[x8,QT] at h;have x5:e.key=k':=vG r1 x8;split at h
    ·rename_i hq;cases h;have hr:=aHt E 9991 9 kt k k' true w hq;refine⟨some (i,e.val),?_,e.val,rfl,r2⟩;rw[Instr.findAsking,Sem.run_bind,x5,show(Op.equal kt k k').run P w=.ok true w from hr];simp
    ·rename_i hq;have hr:=aHt E 9991 9 kt k k' false w hq;have ef:yL φ es es':=⟨by have:=hE.1;simpa using this,fun j k v b e h1 h2=>hE.2 (j+1) k v b e (by simpa using h1) (by simpa using h2)⟩;obtain⟨r',q1,q2⟩:=ih es' (i+1) r ef h;refine⟨r',?_,q2⟩;rw[Instr.findAsking,Sem.run_bind,x5,show(Op.equal kt k k').run P w=.ok false w from hr];simpa using q1
    ·cases h
theorem lB{φ:PL}{kt:TY}{d:TypeDesc}{k:Value}(hd:E.und kt=some d)(hs:kG d=true)(w:World){es:List (Value×Value×Nat)}{es':List MapEntry}{r:Option (Nat×Value)}(hE:yL φ es es')(h:pR E kt k es 0=some r):
 ∃r',(Instr.findKey kt k es').run P w=.ok r' w/\aTa φ r r':=by
 obtain⟨r',q1,q2⟩:=aPm E w es es' 0 r hE h;refine⟨r',?_,q2⟩;unfold kG at hs;split at hs
 ·rename_i fs;rw[Instr.findKey,Sem.run_bind,aE E hd,Result.andThen_ok];cases es' with
  |nil=>
   grind [Instr.findAsking,Sem.run_pure,Instr.findNow]
  |cons e es'=>
   grind [Instr.sameNow,Instr.findNow]
 ·cases hs
def xF(t:TY)(x ix:Value)(ok:Bool)(H:AH):Option Value:=
 match E.und t,x with
 |some (.map kt et),.map r=>
  (match E.und kt,E.inf et with
  |some d,some i=>
   bif kG d&&(tY ix&&mX E 9 kt ix) then
    (match i.zero with
    |some z=>
     (match (match r with
      |none=>some []
      |some r=>bif Nat.beq (r%2) 0 then none else(match H.tr.get (r / 2) with
       |some (.map es _)=>some es
       |_=>none)) with
     |some es=>
      (match pR E kt ix es 0 with
      |some (some (_,v))=>some (if ok then .tuple ⟨[v,.bool true]⟩ else v)
      |some none=>some (if ok then .tuple ⟨[ext z,.bool false]⟩ else ext z)
      |none=>none)
     |none=>none)
    |none=>none)
   else none
  |_,_=>none)
 |_,_=>none
theorem aFm [Pins]{φ:PL}{H:AH}{w:World}(R:Rel φ H w){t:TY}{x x' ix ix' v:Value}{ok:Bool}(hx:VR φ x x')(hi:VR φ ix ix')(h:xF E t x ix ok H=some v):
 ∃v',VR φ v v'/\(Instr.lookup t x' ix' ok).run P w=.ok v' w:=by
 unfold xF at h;split at h
 ·rename_i kt et r hu;split at h
  ·rename_i d i hd y0;cases hk:(kG d&&(tY ix&&mX E 9 kt ix)) with
   |false=>rw[hk] at h;cases h
   |true=>
    rw[hk,QT] at h;simp only[QB] at hk;obtain⟨qv,yc,xh⟩:=hk;obtain rfl:=vG hi yc;split at h
    ·rename_i z hz;split at h
     ·rename_i es xg
      have hr:∃es':Array MapEntry,yL φ es es'.toList/\(Instr.lookup t x' ix' ok).run P w=(do
       Instr.checkKey es'.isEmpty 10000 kt ix'
       let (v,o) <-match <-Instr.findKey kt ix' es'.toList with
        |some (_,v)=>pure (v,true)
        |none=>pure (<-zeroValue et,false)
       pure (if ok then .tuple #[v,.bool o] else v):Sem Value).run P w:=by
       cases hx with
       |mnil=>
        simp at xg;subst xg;refine⟨#[],⟨rfl,fun i k v b e h=>by simp at h⟩,?_⟩;unfold Instr.lookup;rw[Sem.run_bind,aE E hu];rfl
       |mp hr=>
        rename_i rr rr';simp only at xg;cases qu:Nat.beq (rr%2) 0 with
        |true=>simp_all
        |false=>
         rw[qu,QF] at xg;split at xg
         ·rename_i es2 c hg;cases xg;obtain⟨es',h1,h2⟩:=qQ R hr (dN qu) hg;refine⟨es',h2,?_⟩;unfold Instr.lookup;rw[Sem.run_bind,aE E hu];simp only[Result.andThen_ok];rw[Sem.run_bind,cO h1];rfl
         ·cases xg
      obtain⟨es',hE,x6⟩:=hr;rw[x6];have x7:(Instr.checkKey es'.isEmpty 10000 kt ix').run P w=.ok () w:=oK E es'.isEmpty 9991 9 kt ix' w xh;split at h
      ·rename_i j v1 hf;cases h;obtain⟨r',x8,v',rfl,q2⟩:=lB E hd qv w hE hf;refine⟨if ok then .tuple #[v',.bool true] else v',?_,?_⟩
       ·cases ok
        ·exact q2
        ·exact VR.tuple' (VRs.cons q2 (VRs.cons (.bool true) (VRs.nil φ)))
       simp_all
      ·rename_i hf;cases h;obtain⟨r',x8,rfl⟩:=lB E hd qv w hE hf;refine⟨if ok then .tuple #[z,.bool false] else z,?_,?_⟩
       ·cases ok
        ·exact VR.ext φ z
        ·exact VR.tuple' (VRs.cons (VR.ext φ z) (VRs.cons (.bool false) (VRs.nil φ)))
       ·simp only[Sem.run_bind,x7,Result.andThen_ok,x8,bE E y0 hz,Sem.run_pure]
      ·cases h
     ·cases h
    ·cases h
  ·cases h
 ·cases h
def gW(t:TY)(m k v:Value)(H:AH):Option AH:=
 match E.und t,m with
 |some (.map kt _),.map (some r)=>
  bif Nat.beq (r%2) 0 then none else
  (match E.und kt,H.tr.get (r / 2) with
  |some d,some (.map es c)=>
   bif kG d&&(tY k&&mX E 9 kt k) then
    (match pR E kt k es 0 with
    |some none=>some {H with tr:=H.tr.set (r / 2) (some (.map (es++[(k,v,c)]) (c+1)))}
    |_=>none)
   else none
  |_,_=>none)
 |_,_=>none
theorem vU [Pins]{φ:PL}{H H':AH}{w:World}(R:Rel φ H w){t:TY}{m m' k k' v v':Value}(hm:VR φ m m')(hk:VR φ k k')(hv:VR φ v v')(h:gW E t m k v H=some H'):
 ∃w',Rel φ H' w'/\(Instr.mapUpdate t m' k' v').run P w=.ok () w':=by
 unfold gW at h;split at h
 ·rename_i kt et r hu;cases hm with
  |mp hr=>
   rename_i r';cases qu:Nat.beq (r%2) 0 with
   |true=>rw[qu] at h;cases h
   |false=>
    rw[qu,QF] at h;split at h
    ·rename_i d es c hd hg;cases yf:(kG d&&(tY k&&mX E 9 kt k)) with
     |false=>rw[yf] at h;cases h
     |true=>
      rw[yf,QT] at h;simp only[QB] at yf;obtain⟨qv,yc,xh⟩:=yf;obtain rfl:=vG hk yc;obtain⟨es',h1,hE⟩:=qQ R hr (dN qu) hg;have vq:=hr;rcases vq with⟨h0,_⟩|⟨_,p,hp,gk⟩
      ·simp_all
      have x7:(Instr.checkKey false 10000 kt k').run P w=.ok () w:=oK E false 9991 9 kt k' w xh;split at h
      ·rename_i hf;cases h;obtain⟨rr,x8,rfl⟩:=lB E hd qv w hE hf;refine⟨_,R.setMap hg hp (es2':=es'.push {key:=k',val:=v',born:=c}) (c2:=c+1) ?_,?_⟩
       ·refine⟨by have:=hE.1;simpa using this,fun i kk vv bb ee hi qi=>?_⟩;rw[Array.toList_push] at qi;by_cases re:i<es.length
        ·rw[List.getElem?_append_left re] at hi;rw[List.getElem?_append_left (by rw[<-hE.1];exact re)] at qi;exact hE.2 i kk vv bb ee hi qi
        ·rw[List.getElem?_append_right (by omega)] at hi;rw[List.getElem?_append_right (by rw[<-hE.1];omega),<-hE.1] at qi
         grind
       ·rw[gk] at h1 ⊢;simp only[Instr.mapUpdate,Sem.run_bind,aE E hu,Result.andThen_ok,cO h1,x7,x8,oY h1]
      ·cases h
    ·cases h
 ·cases h
def orE{α:Type}(a b:Option α):Option α:=match a with
 |some x=>some x
 |none=>b
theorem xB{α:Type}{a b:Option α}{x:α}(h:orE a b=some x):a=some x\/b=some x:=by
 cases a with
 |some y=>exact .inl h
 |none=>exact .inr h
theorem aFz{α:Type}{a b:Option α}{x:α}(h:a=some x):orE a b=some x:=by rw[h];rfl
def qC(t:TY)(x ix:Value)(ok:Bool)(H:AH):Option Value:=orE (eH E t x ix ok H) (xF E t x ix ok H)
def eZ(t:TY)(m k v:Value)(H:AH):Option AH:=orE (eV E t m k v H) (gW E t m k v H)
theorem tT [Pins]{φ:PL}{H:AH}{w:World}(R:Rel φ H w){t:TY}{x x' ix ix' v:Value}{ok:Bool}(hx:VR φ x x')(hi:VR φ ix ix')(h:qC E t x ix ok H=some v):
 ∃v',VR φ v v'/\(Instr.lookup t x' ix' ok).run P w=.ok v' w:=by
 rcases xB h with h|h
 ·grind [aJs]
 grind [aFm]
theorem mO [Pins]{φ:PL}{H H':AH}{w:World}(R:Rel φ H w){t:TY}{m m' k k' v v':Value}(hm:VR φ m m')(hk:VR φ k k')(hv:VR φ v v')(h:eZ E t m k v H=some H'):
 ∃w',Rel φ H' w'/\(Instr.mapUpdate t m' k' v').run P w=.ok () w':=by
 rcases xB h with h|h
 ·grind [yU]
 grind [vU]
end
end Go.AM
