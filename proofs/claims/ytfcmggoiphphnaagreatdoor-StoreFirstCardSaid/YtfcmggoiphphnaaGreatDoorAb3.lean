/-
  An abstract machine that runs a program of the given form, and its soundness, part 3.
-/
import Derived.Test.YtfcmggoiphphnaaGreatDoorAb2
import Derived.Laws.Externs
import Derived.Laws.BytesString
import Derived.Lib.UnsafeStr
import Derived.OrdersIn
import Derived.ControlIn
set_option linter.unusedVariables false
set_option linter.unusedSimpArgs false
set_option linter.unusedSectionVars false
noncomputable section
namespace Go.AM
open Go.RowKit
variable [σ:Sg]
section
variable {P:PG}(E:Env P)
def aun(op:UnOp)(x:Value):Option Value:=
 match op,x with
 |.neg,.int k n=>some (.int k (k.wrap (0 - n)))
 |.xor,.int k n=>some (.int k (bits .xor k (if k.signed then -1 else k.max) n))
 |.not,.bool b=>some (.bool !b)
 |_,_=>none
theorem bFy{φ:PL}{op:UnOp}{x x' v:Value}(hx:VR φ x x')(h:aun op x=some v)(w:World):∃v',VR φ v v'/\(Op.unary op x').run P w=.ok v' w:=by
 unfold aun at h;split at h
 ·cases h;cases hx;exact⟨_,.int _ _,by simp[Op.unary,Op.intArith]⟩
 ·cases h;cases hx;exact⟨_,.int _ _,by simp only[Op.unary,intBits_xor];rfl⟩
 ·cases h;cases hx;exact⟨_,.bool _,by simp[Op.unary]⟩
 ·cases h
def aTv{P:PG}(E:Env P)(op:UnOp)(x:Value):Option Value:=
 match aun op x with
 |some v=>some v
 |none=>E.ou op x
theorem aMv{P:PG}(E:Env P){φ:PL}{op:UnOp}{x x' v:Value}(hx:VR φ x x')(h:aTv E op x=some v)(w:World):∃v',VR φ v v'/\(Op.unary op x').run P w=.ok v' w:=by
 unfold aTv at h;split at h
 ·rename_i u hu;cases h;exact bFy hx hu w
 ·exact E.ou_ok φ op _ _ _ h hx w
def iV:VL->Option BL
 |[]=>some []
 |.int .u8 n::r=>(match iV r with
  |some l=>some (UInt8.ofNat n.toNat::l)
  |none=>none)
 |_=>none
theorem nL{φ:PL}:∀{l l':VL} {bs:BL},VRs φ l l'->iV l=some bs->∃ns:List Int,l'=ns.map (Value.int .u8)/\bs=ns.map fun n=>UInt8.ofNat n.toNat
 |[],[],bs,_,h=>by simp[iV] at h;simp_all
 |[],_::_,_,h,_=>by have:=h.1;simp at this
 |_::_,[],_,h,_=>by have:=h.1;simp at this
 |v::l,v'::l',bs,hr,h=>by
  unfold iV at h;split at h
  ·rename_i e;cases e
  ·rename_i n r e;cases e;split at h
   ·rename_i bs' hb;cases h;obtain⟨ns,h1,h2⟩:=nL hr.tail hb;have:=hr.head;cases this;exact⟨n::ns,by simp[h1],by simp[h2]⟩
   ·cases h
  ·cases h
theorem xQ(ns:List Int):∀s:BA,ns.foldl (fun r n=>r.push (UInt8.ofNat n.toNat)) s=⟨⟨s.data.toList++ns.map fun n=>UInt8.ofNat n.toNat⟩⟩:=by
 induction ns with
 |nil=>intro s;simp
 |cons n ns ih=>
  simp_all
def jE(src dst:TY)(x:Value)(H:AH):Option (Value×AH):=
 match E.und src,E.und dst,x with
 |some _,some (.int k),.int _ n=>some (.int k (k.wrap n),H)
 |some _,some .string,.string s=>some (.string s,H)
 |some .string,some (.slice e),.string s=>(match E.und e with
  |some (.int .u8)=>some (cG H s.data.toList.length s.data.toList.length,dC H (.cells (s.data.toList.map fun b=>.int .u8 b.toNat) 1 false))
  |_=>none)
 |some (.slice e),some .string,.slice base l cc=>(match E.und e with
  |some (.int .u8)=>(match base with
   |none=>bif Nat.beq cc 1 then none else some (.string ⟨⟨[]⟩⟩,H)
   |some a=>(match aloads H a l with
    |some cs=>(match iV cs with
     |some bs=>some (.string ⟨⟨bs⟩⟩,H)
     |none=>none)
    |none=>none))
  |_=>none)
 |some (.slice _),some (.slice e),.slice (some a) l c=>bif Nat.beq src dst&&(Nat.ble 1 c&&!(Nat.beq (a.block%2) 0)) then(match E.und e,H.tr.get (a.block / 2) with
  |some (.int .u8),some (.cells _ _ _)=>some (.slice (some a) l c,H)
  |_,_=>none) else none
 |some (.pointer t),some .unsafePointer,.pointer (some a)=>bif Nat.beq (a.block%2) 0 then none else(match E.inf t,H.tr.get (a.block / 2) with
  |some i,some (.cells cs _ _)=>bif Nat.beq i.size 0 then none else bif Nat.blt a.off cs.length then some (.pointer (some a),H) else none
  |_,_=>none)
 |some .unsafePointer,some (.pointer u),.pointer (some a)=>bif Nat.beq (a.block%2) 0 then none else(match E.inf u,H.tr.get (a.block / 2) with
  |some i,some (.cells cs sz true)=>bif Nat.beq i.size 0 then none else bif Nat.beq sz (u+bF)&&(Nat.blt 5 u&&(Nat.beq a.off 0&&Nat.beq cs.length i.size)) then some (.pointer (some a),H) else none
  |_,_=>none)
 |_,_,_=>none
theorem aJl{P:PG}{e:TY}(hc:P.cellsOf e≠0):liesAt P P.depth e 1 0 e 1=true:=by
 have hd:P.depth=(2*(P.types.size+Made.depth)+1)+1:=rfl;rw[hd];simp only[liesAt,Bool.or_eq_true];left;rw[hd];simp[rowAt,hc,sameLayout]
theorem jZ{P:PG}{w:World}{b:Nat}{C:Array Value}{e:TY}{f:Nat×Nat}(h:w.heap[b]?=some (.cells C e f)):(viewAt b).run P w=.ok none w:=by
 simp[viewAt,run_shape,World.shape?,h]
theorem rH{P:PG}{w:World}{b:Nat}{C:Array Value}{e:TY}{f:Nat×Nat}(h:w.heap[b]?=some (.cells C e f)):(cellsIn b).run P w=.ok (some C.size) w:=by
 simp[cellsIn,run_shape,World.shape?,h]
theorem Rel.marked [Pins]{φ:PL}{H:AH}{w:World}(R:Rel φ H w){i:Nat}{cs:VL}{sz:Nat}{ex:Bool}(hg:H.tr.get i=some (.cells cs sz ex)){p:Place}(hp:φ[i]?=some p):
 ∃e n,w.shape? p.blk=some (e,n)/\Rel φ H (w.freeze ⟨p.blk,n,none⟩ 1):=by
 obtain⟨q,hq,hN,hO⟩:=R.obj _ _ hg;rw[hp] at hq;cases hq;obtain⟨C,e,lo,hi,hx,hf,ud⟩:=hO;have zr:=alt_of_getElem? hx;refine⟨e,C.size,by grind [World.shape?],?_⟩;have rf:∀k,(w.freeze ⟨p.blk,C.size,none⟩ 1).heap[k]?=if k=p.blk then some (.cells C e (if lo==hi then(C.size,C.size+1) else(min lo C.size,max hi (C.size+1)))) else w.heap[k]?:=by
  intro k;unfold World.freeze
  grind
 have yj:(w.freeze ⟨p.blk,C.size,none⟩ 1).heap.size=w.heap.size:=by
  unfold World.freeze
  simp_all
 have pj:(w.freeze ⟨p.blk,C.size,none⟩ 1).os=w.os/\(w.freeze ⟨p.blk,C.size,none⟩ 1).tape=w.tape/\(w.freeze ⟨p.blk,C.size,none⟩ 1).output=w.output:=by
  unfold World.freeze
  simp_all
 refine⟨⟨pj.1.trans R.below.os,pj.2.1.trans R.below.tape,pj.2.2.trans R.below.output,by omega,fun k hk=>?_⟩,R.len,fun j o' hj=>?_,R.inj,fun b x hb=>?_,fun i p hp=>by rw[yj];exact R.lt i p hp,R.ro⟩
 ·have tn:k<H.w0.heap.size:=hk;rw[rf,if_neg (by omega)];exact R.below.block k hk
 ·obtain⟨q,hq,tu,o7⟩:=R.obj _ _ hj;refine⟨q,hq,tu,?_⟩;by_cases yx:q.blk=p.blk
  ·have:j=i:=R.inj j i _ _ q p hj hg hq hp yx;subst this;rw[hp] at hq;cases hq;rw[hg] at hj;cases hj;refine⟨C,e,_,_,by rw[rf,if_pos rfl],fun k hk wt=>?_,ud⟩
   grind
  simp_all
 ·have uf:=R.pin b x hb;refine⟨?_,uf.2⟩;rw[rf,if_neg (fun e=>uf.2 _ _ hp (R.rdN hg) e.symm)];exact uf.1
theorem aBf(w:World)(C:Array Value)(e:TY)(n:Nat):(w.alloc (.cells C e)).freeze ⟨w.heap.size,n,none⟩ 1=w.alloc (.cells C e (n,n+1)):=by
 unfold World.freeze;rw[if_neg (by omega)];unfold World.alloc;congr 1
 grind
theorem aWb [Pins]{φ:PL}{H H':AH}{w:World}(R:Rel φ H w){src dst:TY}{x x' v:Value}(hx:VR φ x x')(h:jE E src dst x H=some (v,H')):SOk P (convert src dst x') φ w v H':=by
 unfold jE at h;split at h
 ·rename_i d k k2 n hs hd;cases h;cases hx;refine .here R (.int _ _) ?_;cases d<;>simp[convert,aE E hs,aE E hd,Conv.intToInt]
 ·rename_i d s hs hd;cases h;cases hx;refine .here R (.string _) ?_;cases d<;>simp[convert,aE E hs,aE E hd]
 ·rename_i e s hs hd;cases hx;split at h
  ·rename_i he;cases h;have key:∀bs:BL,VRs φ (bs.map fun b=>Value.int .u8 (b.toNat:Int)) (bs.map fun b=>Value.int .u8 (b.toNat:Int)):=by
    intro bs
    induction bs with
    |nil=>exact VRs.nil φ
    |cons b bs ih=>exact VRs.cons (.int _ _) ih
   have hc:=key s.data.toList;have qe:s.data.toList.length=s.size:=by simp_all
   let cap:=(Question.appendCap s.size 0 e).cut (w.tape w.drawn (.appendCap s.size 0 e))
   have sd:s.size<=cap:=by simp[cap,Question.cut]
   let more:=List.replicate (cap - s.size) (Value.int .u8 0)
   let C:=(s.data.toList.map fun b=>Value.int .u8 (b.toNat:Int))++more
   have gm:C.length=cap:=by grind
   have hR:=R.drew.new (.cells (s.data.toList.map fun b=>Value.int .u8 (b.toNat:Int)) 1 false) (.cells C.toArray e (cap,cap+1)) cap 1
    ⟨C.toArray,e,cap,cap+1,rfl,fun k hk=>by simp[gm] at hk;omega,by simp[gm],⟨rfl,SzE.small (by decide),fun _=>rfl⟩,by simp[gm,qe];omega,fun h=>by simp at h,by
     have:=hc.mono (φ':=φ++[⟨w.drew.heap.size,0,cap,1⟩]) ⟨_,rfl⟩;simpa [C] using this⟩
   refine⟨_,_,_,⟨_,rfl⟩,hR,.slc (SRel.new R.len ⟨w.heap.size,0,cap,1⟩ rfl (c':=cap) (Nat.le_refl _) (by omega) (by show cap*esz 1<=cap;rw[cF (by decide),Nat.mul_one];exact Nat.le_refl _)),?_⟩;have hq:(Question.appendCap s.size 0 e).forced=false:=rfl;have hC:(s.data.map fun b=>Value.int .u8 (b.toNat:Int))++Array.replicate (cap - s.size) (.int .u8 0)=C.toArray:=by
    grind
   have ar:(w.drew.alloc (.cells C.toArray e)).shape? w.heap.size=some (e,cap):=by
    simp only[World.shape?];rw[show(w.drew.alloc (.cells C.toArray e)).heap[w.heap.size]?=some (.cells C.toArray e) from heap_alloc_new w.drew _];simp[gm]
   have rf:=aBf w.drew C.toArray e cap;have zi:w.drew.heap.size=w.heap.size:=rfl;simp only[convert,Sem.run_bind,aE E hs,aE E hd,aE E he,Result.andThen_ok,Conv.stringToBytes,run_choose,hq,Bool.false_eq_true,if_false,World.drew_eq,newRow,run_newObj,World.alloc_eq,Sem.run_pure,markStringish,run_shape];rw[show(Question.appendCap s.size 0 e).cut (w.tape w.drawn (.appendCap s.size 0 e))=cap from rfl,hC]
   simp_all
  ·cases h
 ·rename_i e base l c hs hd;split at h
  ·rename_i he;split at h
   ·cases uc:Nat.beq c 1 with
    |true=>rw[uc] at h;cases h
    |false=>
    rw[uc,QF] at h;cases h;cases hx with
    |emp _=>cases uc
    |snil _ _=>
    refine .here R (.string _) ?_;rw[run_convert_bytes_string w src dst e _ _ _ (E.und_ok _ _ hs) (E.und_ok _ _ he) (E.und_ok _ _ hd)];rfl
   ·rename_i a;split at h
    ·rename_i cs ya;split at h
     ·rename_i bs pp;cases h;cases hx with
      | @slc _ a' _ _ c' xw=>
        have hA:l=0\/ARel φ a a':=by
         rcases xw with⟨_,_,hA⟩|⟨_,h1,h2,h3|⟨hA,_⟩⟩
         ·exact .inr hA
         ·left;omega
         ·exact .inr hA
        obtain⟨l',h1,h2,h3⟩:=iJ R hA ya;obtain⟨ns,rfl,rfl⟩:=nL h1 pp;have qt:=run_loadCells_list (P:=P) w a' _ h3;rw[h2] at qt;refine .here R (.string _) ?_;rw[run_convert_bytes_string w src dst e _ _ _ (E.und_ok _ _ hs) (E.und_ok _ _ he) (E.und_ok _ _ hd),run_bytesToString w a' l c' ns qt,xQ];rfl
     ·cases h
    ·cases h
  ·cases h
 ·rename_i e0 e a l c hs hd;cases hb:(Nat.beq src dst&&(Nat.ble 1 c&&!(Nat.beq (a.block%2) 0))) with
  |false=>rw[hb] at h;cases h
  |true=>
   rw[hb,QT] at h;simp only[QB,Bool.not_eq_true'] at hb;obtain⟨pq,rh,zf⟩:=hb;have pq:=QN pq;have rh:=QL rh;have zf:=dN zf;subst pq;obtain rfl:e0=e:=by simp_all
   split at h
   ·rename_i cs sz ex he hg;cases h;cases hx with
    | @slc _ a' _ _ c' xw=>
      rcases xw with⟨h0,_⟩|⟨_,h1,h2,h3⟩
      ·omega
      ·rcases h3 with h3|⟨hA,_⟩
       ·omega
       ·have ug:=hA;rcases ug with⟨h0,_⟩|⟨_,_,_,p,hp,zr,_⟩
        ·omega
        ·obtain⟨e2,n,ar,hR⟩:=R.marked hg hp;refine⟨φ,.slice (some a') l c',_,List.prefix_refl _,hR,.slc ?_,?_⟩
         ·exact .inr ⟨zf,h1,h2,.inr ⟨hA,by assumption⟩⟩
         ·simp only[convert,Sem.run_bind,aE E hs,aE E hd,aE E he,Result.andThen_ok,beq_self_eq_true,markStringish,run_shape,zr,ar,run_freeze,Sem.run_pure]
   ·cases h
 ·rename_i t a hs hd;cases qu:Nat.beq (a.block%2) 0 with
  |true=>rw[qu] at h;cases h
  |false=>
   rw[qu,QF] at h;have zf:=dN qu;split at h
   ·rename_i i cs sz ex hi hg;cases hz:Nat.beq i.size 0 with
    |true=>rw[hz] at h;cases h
    |false=>
     rw[hz,QF] at h;cases hb:Nat.blt a.off cs.length with
     |false=>rw[hb] at h;cases h
     |true=>
      rw[hb,QT] at h;cases h;have qm:a.off+1<=cs.length:=QL hb;have xm:¬i.size=0:=fun q=>by rw[q] at hz;cases hz
      cases hx with
      | @ptr _ a' hA=>
        have ug:=hA;rcases ug with⟨h0,_⟩|⟨_,_,_,p,hp,zr,ub⟩
        ·omega
        ·obtain⟨q,hq,_,C,e,lo,v5,xa,_,_,_,qf,_,_⟩:=R.obj _ _ hg;rw[hp] at hq;cases hq;rw[<-zr] at xa;refine .here R (.ptr hA) ?_;have ki:¬(C.size<=a'.off):=by omega
         simp[convert,aE E hs,aE E hd,Conv.unsafePointer,Conv.seenAt,jZ xa,rH xa,aH E hi,xm,ki]
   ·cases h
 ·rename_i u a hs hd;cases qu:Nat.beq (a.block%2) 0 with
  |true=>rw[qu] at h;cases h
  |false=>
   rw[qu,QF] at h;have zf:=dN qu;split at h
   ·rename_i i cs sz hi hg;cases hz:Nat.beq i.size 0 with
    |true=>rw[hz] at h;cases h
    |false=>
     rw[hz,QF] at h;cases hb:(Nat.beq sz (u+bF)&&(Nat.blt 5 u&&(Nat.beq a.off 0&&Nat.beq cs.length i.size))) with
     |false=>rw[hb] at h;cases h
     |true=>
      rw[hb,QT] at h;cases h;simp only[QB] at hb;obtain⟨b1,b2,b3,b4⟩:=hb;have b1:=QN b1;have b2:5+1<=u:=QL b2;have b3:=QN b3;have b4:=QN b4;have xm:¬i.size=0:=fun q=>by rw[q] at hz;cases hz
      cases hx with
      | @ptr _ a' hA=>
        have ug:=hA;rcases ug with⟨h0,_⟩|⟨_,_,_,p,hp,zr,ub⟩
        ·omega
        ·obtain⟨q,hq,_,C,e,lo,v5,xa,_,_,⟨_,si,ia⟩,_,yz,_⟩:=R.obj _ _ hg;rw[hp] at hq;cases hq;rw[<-zr] at xa;have rj:=ia (by grind);have he:e=u:=Nat.add_right_cancel ((si (by omega)).trans b1);subst he;have yz:=yz rfl;obtain⟨ii,v8,e1,_⟩:=E.inf_ok _ _ hi;have xo:P.cellsOf e=i.size:=by grind [Program.cellsOf]
         have hC:C.size / P.cellsOf e=1:=by rw[xo,show C.size=i.size by omega];exact Nat.div_self (by omega)
         have kj:a'.off=0:=by omega
         have eh:(variablesAt a' e 1).run P w=.ok true w:=by
          simp[variablesAt,run_shape,World.shape?,xa,hC,kj,aJl (P:=P) (e:=e) (by rw[xo];exact xm)]
         refine .here R (.ptr hA) ?_;simp[convert,aE E hs,aE E hd,Conv.unsafePointer,Conv.seenAt,jZ xa,aH E hi,xm,eh]
   ·cases h
 ·cases h
theorem aKe{P:PG}{e:TY}(hc:P.cellsOf e=1)(count off n:Nat)(hn:off+n<=count):liesAt P P.depth e count off e n=true:=by
 have hd:P.depth=(2*(P.types.size+Made.depth)+1)+1:=rfl;rw[hd];simp only[liesAt,Bool.or_eq_true];left;rw[hd];simp[rowAt,hc,hn,sameLayout,Nat.mod_one]
theorem kS{P:PG}{w:World}:∀(ns:List Int) (a:Addr) (acc:BA),(∀j v,(ns.map (Value.int .u8))[j]?=some v->w.cell? (a.add j)=some v)->
 (loadBytes a acc ns.length).run P w=.ok ⟨⟨acc.data.toList++ns.map fun n=>UInt8.ofNat n.toNat⟩⟩ w
 |[],a,acc,_=>by simp[loadBytes]
 |x::l,a,acc,h=>by
  have h0:w.cell? a=some (.int .u8 x):=by
   have:=h 0 _ rfl
   grind [Addr.add]
  have ih:=kS (P:=P) l (a.add 1) (acc.push x.toNat.toUInt8) (fun j y hy=>by
   have:=h (j+1) y (by simpa using hy);have e:(a.add 1).add j=a.add (j+1):=by
    grind [Addr.add]
   rw[e];exact this)
  simp only[List.length_cons,loadBytes,Sem.run_bind,run_load,h0,Result.andThen_ok]
  simp_all
theorem Rel.dead [Pins]{φ:PL}{H:AH}{w:World}(R:Rel φ H w){i:Nat}{o:AObj}(hg:H.tr.get i=some o){p:Place}(hp:φ[i]?=some p)(off n:Nat):
 Rel φ {H with tr:=H.tr.set i none} (w.freeze ⟨p.blk,off,none⟩ n):=by
 obtain⟨q,hq,hN,_⟩:=R.obj _ _ hg;rw[hp] at hq;cases hq;have rf:∀k,k≠p.blk->(w.freeze ⟨p.blk,off,none⟩ n).heap[k]?=w.heap[k]?:=by
  intro k hk;unfold World.freeze
  grind
 have yj:(w.freeze ⟨p.blk,off,none⟩ n).heap.size=w.heap.size:=by
  grind [World.freeze]
 have pj:(w.freeze ⟨p.blk,off,none⟩ n).os=w.os/\(w.freeze ⟨p.blk,off,none⟩ n).tape=w.tape/\(w.freeze ⟨p.blk,off,none⟩ n).output=w.output:=by
  unfold World.freeze
  grind
 have hget:∀j o',({H with tr:=H.tr.set i none}:AH).tr.get j=some o'->j≠i/\H.tr.get j=some o':=by
  intro j o' hj;simp only[Tr.get_set] at hj
  simp_all
 refine⟨⟨pj.1.trans R.below.os,pj.2.1.trans R.below.tape,pj.2.2.trans R.below.output,by rw[yj];exact R.below.size,fun k hk=>?_⟩,R.len,fun j o' hj=>?_,fun a b o1 o2 p1 p2 h1 h2=>R.inj a b o1 o2 p1 p2 (hget _ _ h1).2 (hget _ _ h2).2,fun b x hb=>?_,fun i p hp=>by rw[yj];exact R.lt i p hp,R.ro' rfl (List.prefix_refl _) fun j _ h=>by
  grind [Tr.get_set]⟩
 ·have tn:k<H.w0.heap.size:=hk;rw[rf _ (by omega)];exact R.below.block k hk
 ·obtain⟨qr,hj⟩:=hget _ _ hj;obtain⟨q,hq,tu,o7⟩:=R.obj _ _ hj;refine⟨q,hq,tu,?_⟩;rw[rf _ (fun e=>qr (R.inj j i _ _ q p hj hg hq hp e))];exact o7
 ·have uf:=R.pin b x hb;refine⟨?_,uf.2⟩;rw[rf _ (fun e=>uf.2 _ _ hp (R.rdN hg) e.symm)];exact uf.1
def lA:Value->Option Value
 |.slice none _ 0=>some (.pointer none)
 |.slice (some a) l c=>bif Nat.beq c 0 then none else some (.pointer (some a))
 |_=>none
theorem yT{P:PG}{φ:PL}{x x' v:Value}(hx:VR φ x x')(h:lA x=some v)(ts:Array TypeId)(ty:TY)(w:World):∃v',VR φ v v'/\(Builtin.unsafeSliceData_ ts ty #[x']).run P w=.ok v' w:=by
 unfold lA at h;split at h
 ·cases h;cases hx;exact⟨_,.pnil,Lib.run_unsafeSliceData_nil w ts ty _ _⟩
 ·rename_i a l c;cases hz:Nat.beq c 0 with
  |true=>rw[hz] at h;cases h
  |false=>
   rw[hz,QF] at h;cases h;have hc:c≠0:=fun e=>by subst e;simp at hz
   cases hx with
   | @slc _ a' _ _ c' xw=>
     have hA:ARel φ a a'/\c'≠0:=by
      rcases xw with⟨_,h1,hA⟩|⟨_,h1,h2,h3|⟨hA,_⟩⟩
      ·simp_all
      ·omega
      grind
     exact⟨_,.ptr hA.1,Lib.run_unsafeSliceData_row w ts ty a' l c' hA.2⟩
 ·cases h
def kC(pt:TY)(x y:Value)(H:AH):Option (Value×AH):=
 match x,y with
 |.pointer p,.int .i64 n=>bif n==0 then some (.string ⟨⟨[]⟩⟩,H) else(match p with
  |some a=>bif Nat.beq (a.block%2) 0 then none else(match E.und pt,E.inf 5,H.tr.get (a.block / 2) with
   |some (.pointer t),some i,some (.cells _ sz _)=>bif (Nat.beq t 5&&Nat.beq i.size 1)&&(Nat.beq sz (5+bF)&&(decide (0<=n)&&Nat.ble n.toNat 1099511627776)) then(match aloads H a n.toNat with
    |some cs=>(match iV cs with
     |some bs=>some (.string ⟨⟨bs⟩⟩,{H with tr:=H.tr.set (a.block / 2) none})
     |none=>none)
    |none=>none) else none
   |_,_,_=>none)
  |none=>none)
 |_,_=>none
theorem aFi [Pins]{φ:PL}{H H':AH}{w:World}(R:Rel φ H w){pt it ty:TY}{x x' y y' v:Value}(hx:VR φ x x')(hy:VR φ y y')(h:kC E pt x y H=some (v,H')):SOk P (Builtin.unsafeString_ #[pt,it] ty #[x',y']) φ w v H':=by
 unfold kC at h;split at h
 ·rename_i p n;cases hn:(n==0) with
  |true=>
   rw[hn,QT] at h;have hn:n=0:=by simpa using hn
   subst hn;cases h;cases hy;cases hx with
   |pnil=>exact .here R (.string _) (Lib.run_unsafeString_none w pt it ty none)
   |ptr hA=>exact .here R (.string _) (Lib.run_unsafeString_none w pt it ty _)
  |false=>
   rw[hn,QF] at h;have hn:n≠0:=by simpa using hn
   split at h
   ·rename_i a;cases qu:Nat.beq (a.block%2) 0 with
    |true=>rw[qu] at h;cases h
    |false=>
     rw[qu,QF] at h;have zf:=dN qu;split at h
     ·rename_i t i cs0 sz ex hu hi hg;cases hb:((Nat.beq t 5&&Nat.beq i.size 1)&&(Nat.beq sz (5+bF)&&(decide (0<=n)&&Nat.ble n.toNat 1099511627776))) with
      |false=>rw[hb] at h;cases h
      |true=>
       rw[hb,QT] at h;simp only[QB,decide_eq_true_eq] at hb;obtain⟨⟨b1,b2⟩,b3,b4,b5⟩:=hb;have b1:=QN b1;have b2:=QN b2;have b3:=QN b3;have b5:=QL b5;subst b1;split at h
       ·rename_i cs ya;split at h
        ·rename_i bs pp;cases h;cases hy;cases hx with
         | @ptr _ a' hA=>
           have ug:=hA;rcases ug with⟨h0,_⟩|⟨_,_,gf,p,hp,zr,ub⟩
           ·omega
           ·obtain⟨l',h1,h2,h3⟩:=iJ R (.inr hA) ya;obtain⟨ns,rfl,rfl⟩:=nL h1 pp;have qe:ns.length=n.toNat:=by simpa using h2
            have qt:=kS (P:=P) (w:=w) ns a' .empty h3;rw[qe] at qt;obtain⟨q,hq,_,C,e,lo,v5,xa,_,sj,⟨_,si,_⟩,qf,_,_⟩:=R.obj _ _ hg;rw[hp] at hq;cases hq;rw[<-zr] at xa;have he:e=5:=Nat.add_right_cancel ((si (by omega)).trans b3);subst he;have yb:a'.off+n.toNat<=C.size:=by
             unfold aloads at ya;have km:Nat.beq n.toNat 0=false:=by
              grind [Nat.beq,QN]
             rw[km,QF,qu,QF,hg] at ya;simp only at ya;cases o9:Nat.ble (a.off+n.toNat) cs0.length with
             |false=>simp_all
             |true=>have:=QL o9;omega
            obtain⟨ii,v8,e1,_⟩:=E.inf_ok _ _ hi;have xo:P.cellsOf 5=1:=by grind [Program.cellsOf]
            have eh:(variablesAt a' 5 n.toNat).run P w=.ok true w:=by
             simp[variablesAt,run_shape,World.shape?,xa,xo,aKe (P:=P) xo _ _ _ yb]
            have hR:=R.dead hg hp a'.off n.toNat;have au:a'=⟨p.blk,a'.off,none⟩:=by
             cases a';simp_all
            rw[<-au] at hR;refine⟨φ,_,_,List.prefix_refl _,hR,.string _,?_⟩;have mw:IntKind.i64.max=9223372036854775807:=rfl;have g1:¬(n<0):=by omega
            have g2:¬(9223372036854775807<n):=by omega
            have ew:Builtin.unsafeString_ #[pt,it] ty #[.pointer (some a'),.int .i64 n]=
             (do
              let n <-asInt (.int .i64 n)
              if n<0 then runtimePanic (.error "unsafe.String: len out of range")
              if n>IntKind.i64.max then unsupported (.unsafePointer "String: a length above the largest int")
              if n=0 then pure (.string .empty)
              else if <-variablesAt a' (<-elemOf pt) n.toNat then do
               let s <-loadBytes a' .empty n.toNat
               freeze a' n.toNat
               pure (.string s)
              else unsupported (.unsafePointer "String: not so many bytes at ptr")):=rfl
            rw[ew];simp[asInt,asIntOf,mw,g1,g2,hn,eh,qt,elemOf,aE E hu]
        ·cases h
       ·cases h
     ·cases h
   ·cases h
 ·cases h
def uA(mx:Bool):Value->List Value->Option Value
 |x,[]=>some x
 |.int k a,.int k' b::r=>bif decide (k=k') then uA mx (.int k (if (if mx then b>a else b<a) then b else a)) r else none
 |_,_=>none
theorem uL{φ:PL}(mx:Bool):∀(l l':VL) (x x' v:Value),VR φ x x'->VRs φ l l'->uA mx x l=some v->∀w,∃v',VR φ v v'/\(l'.foldlM (if mx then Builtin.max2 else Builtin.min2) x':Sem Value).run P w=.ok v' w:=by
 intro l
 induction l with
 |nil=>
  intro l' x x' v hx hl h w;have:l'=[]:=List.eq_nil_of_length_eq_zero hl.1.symm;subst this;cases x<;>(simp only[uA] at h;simp_all)
 |cons y l ih=>
  intro l' x x' v hx hl h w;cases l' with
  |nil=>have:=hl.1;simp at this
  |cons y' l'=>
   cases x<;>(try (simp only[uA] at h;cases h;done));cases y<;>(try (simp only[uA] at h;cases h;done));rename_i k a k' b;simp only[uA] at h;cases hk:decide (k=k') with
   |false=>rw[hk] at h;cases h
   |true=>
    rw[hk,QT] at h;simp only[decide_eq_true_eq] at hk;subst hk;cases hx;have:=hl.head;cases this;obtain⟨v',h1,h2⟩:=ih l' _ _ v (.int k _) hl.tail h w
    grind [Builtin.min2,Builtin.max2]
end
structure Fr where
 n:Nat
 tr:Tr Value
def aK(f:Fr):Operand->Value
 |.tmp t=>(match f.tr.get t with
  |some v=>v
  |none=>undef)
 |.const v=>ext v
 |.global g=>.pointer (some ⟨2*g,0,none⟩)
 |.func g=>.func (.func g) ⟨[]⟩ ⟨[]⟩
def FRel [π:Pins](φ:PL)(f:Fr)(a:Act):Prop:=a.defers=π.ds/\a.tmps.size=f.n/\∀t,VR φ (aK f (.tmp t)) (a.tmps.getD t undef)
abbrev FQ:=Fr->AH->Prop
theorem FRel.mono [Pins]{φ φ':PL}(h:φ <+: φ'){f:Fr}{a:Act}(r:FRel φ f a):FRel φ' f a:=⟨r.1,r.2.1,fun t=>(r.2.2 t).mono h⟩
theorem FRel.eval [Pins]{φ:PL}{f:Fr}{a:Act}(r:FRel φ f a)(x:Operand):VR φ (aK f x) (a.eval x):=by
 cases x with
 |tmp t=>exact r.2.2 t
 |const v=>exact VR.ext φ v
 |global g=>exact .ptr (.inl ⟨by simp,by simp,rfl,rfl⟩)
 |func g=>exact .func _ rfl rfl rfl (fun i v v' h=>by simp at h) (fun i v v' h=>by simp at h)
def Fr.put(f:Fr)(d:Option Tmp)(v:Value):Option Fr:=
 match d with
 |none=>some f
 |some d=>bif Nat.ble (d+1) f.n then some {f with tr:=f.tr.set d (some v)} else none
theorem FRel.put [Pins]{φ:PL}{f g:Fr}{a:Act}(r:FRel φ f a){d:Option Tmp}{v v':Value}(hv:VR φ v v')(h:f.put d v=some g):FRel φ g (a.put d v'):=by
 unfold Fr.put at h;cases d with
 |none=>cases h;exact r
 |some d=>
  simp only at h;cases qf:Nat.ble (d+1) f.n with
  |false=>rw[qf] at h;cases h
  |true=>
   rw[qf,QT] at h;cases h;have vz:=QL qf;refine⟨r.1,by simp[Act.put,r.2.1],fun t=>?_⟩;have zi:=r.2.1;have hr:=r.2.2 t;simp only[aK,Act.put,Tr.get_set] at hr ⊢;by_cases e:t=d
   ·subst e;rw[if_pos rfl];simp only[Array.getD_eq_getD_getElem?,Array.getElem?_setIfInBounds,if_true]
    grind
   ·rw[if_neg e];simp only[Array.getD_eq_getD_getElem?,Array.getElem?_setIfInBounds] at hr ⊢
    grind
def aL(x:Option Value)(H:AH):Option (Value×AH):=
 match x with
 |some v=>some (v,H)
 |none=>none
def aDf:VL->Option Value
 |[.int .u64 x,.int .u64 y,.int .u64 c]=>if 0<=x/\0<=y/\0<=c/\c<=1 then some (.tuple ⟨[.int .u64 ((x+y+c)%18446744073709551616),.int .u64 ((x+y+c) / 18446744073709551616)]⟩) else none
 |_=>none
def aQc:VL->Option Value
 |[.string s,.int .u8 c]=>some (.int .i64 (firstIdx s c.toNat.toUInt8))
 |_=>none
def aJx:VL->Option Value
 |[.pointer (some a)]=>some (.pointer (some a))
 |_=>none
def aXf:VL->Option Value
 |[.string s,.int .u8 c]=>some (.int .i64 (s.foldl (fun n x=>if x==c.toNat.toUInt8 then n+1 else n) (((0:Nat):Int))))
 |_=>none
def aNv(P:PG)(g:FuncId)(args:VL):Option Value:=
 match P.funcs[g]? with
 |some F=>(match F.body with
  |some _=>none
  |none=>bif F.origin== "" then(bif F.name== "math/bits.Add64" then aDf args else bif F.name== "internal/bytealg.IndexByteString" then aQc args else bif F.name== "internal/abi.NoEscape" then aJx args else bif F.name== "internal/bytealg.CountString" then aXf args else none) else none)
 |none=>none
theorem aBx(n:String)(h1:Extern.allNextRows.lookup n=none)(h2:Extern.allNextRows.lookup ""=none){F:Func}(hn:F.name=n)(ho:F.origin= ""):Extern.findNext F=none:=by
 grind [Extern.findNext]
theorem aBk(n:String){e:Array Value->Sem Value}(h1:Extern.allGenericRows.lookup n=none)(h2:Extern.allTypedRows.lookup n=none)(h3:Extern.allRows.lookup n=some e){F:Func}(hn:F.name=n):Extern.find F=some e:=by
 grind [Extern.find]
theorem uP:Extern.allNextRows.lookup ""=none:=by kernel_rfl
theorem bBu{P:PG}{φ:PL}{g:FuncId}{args args':VL}{v:Value}(hv:VRs φ args args')(h:aNv P g args=some v)(w:World):∃v',VR φ v v'/\(callFunc g ⟨args'⟩).run P w=.ok (.value v') w:=by
 unfold aNv at h;split at h
 ·rename_i F hF;split at h
  ·cases h
  ·rename_i hb;cases ho:(F.origin== "") with
   |false=>rw[ho] at h;cases h
   |true=>
    rw[ho,QT] at h;have ho:F.origin= "":=by simpa using ho
    have xu:F.body.isNone=true:=by rw[hb];rfl
    cases hn:(F.name== "math/bits.Add64") with
    |true=>
     rw[hn,QT] at h;have hn:F.name= "math/bits.Add64":=by simpa using hn
     unfold aDf at h;split at h
     ·rename_i x y c;split at h
      ·rename_i hc;cases h;obtain rfl:=jB hv rfl;refine⟨_,VR.tuple' (VRs.cons (.int _ _) (VRs.cons (.int _ _) (VRs.nil φ))),?_⟩;have hr:=run_callFunc_extern (P:=P) (e:=add64Entry) hF (by rw[hn];rfl) xu (aBx "math/bits.Add64" (by kernel_rfl) uP hn ho) (aBk "math/bits.Add64" (by kernel_rfl) (by kernel_rfl) (by kernel_rfl) hn) #[.int .u64 x,.int .u64 y,.int .u64 c] w;rw[run_add64 x y c hc.1 hc.2.1 hc.2.2.1 hc.2.2.2] at hr;exact hr
      ·cases h
     ·cases h
    |false=>
     rw[hn,QF] at h;cases hn:(F.name== "internal/bytealg.IndexByteString") with
     |true=>
      rw[hn,QT] at h;have hn:F.name= "internal/bytealg.IndexByteString":=by simpa using hn
      unfold aQc at h;split at h
      ·rename_i s c;cases h;obtain rfl:=jB hv rfl;refine⟨_,.int _ _,?_⟩;have hr:=run_callFunc_extern (P:=P) (e:=Extern.BytealgIndexByte.indexByte) hF (by rw[hn];rfl) xu (aBx "internal/bytealg.IndexByteString" (by kernel_rfl) uP hn ho) (aBk "internal/bytealg.IndexByteString" (by kernel_rfl) (by kernel_rfl) (by kernel_rfl) hn) #[.string s,.int .u8 c] w;rw[run_indexByte_string s c] at hr;exact hr
      ·cases h
     |false=>
      rw[hn,QF] at h;cases hn:(F.name== "internal/abi.NoEscape") with
      |true=>
       rw[hn,QT] at h;have hn:F.name= "internal/abi.NoEscape":=by simpa using hn
       unfold aJx at h;split at h
       ·rename_i a;cases h
        match args',hv with
        |[x'],hv=>
         have hx:=hv.2 0 _ _ rfl rfl;refine⟨x',hx,?_⟩;exact run_callFunc_extern (P:=P) (e:=Extern.AbiNoEscape.same) hF (by rw[hn];rfl) xu (aBx "internal/abi.NoEscape" (by kernel_rfl) uP hn ho) (aBk "internal/abi.NoEscape" (by kernel_rfl) (by kernel_rfl) (by kernel_rfl) hn) #[x'] w
        |[],hv=>exact absurd hv.1 (by simp)
        |_::_::_,hv=>exact absurd hv.1 (by simp)
       ·cases h
      |false=>
       rw[hn,QF] at h;cases hn:(F.name== "internal/bytealg.CountString") with
       |true=>
        rw[hn,QT] at h;have hn:F.name= "internal/bytealg.CountString":=by simpa using hn
        unfold aXf at h;split at h
        ·rename_i s c;cases h;obtain rfl:=jB hv rfl;refine⟨_,.int _ _,?_⟩;have hr:=run_callFunc_extern (P:=P) (e:=Extern.BytealgCount.count) hF (by rw[hn];rfl) xu (aBx "internal/bytealg.CountString" (by kernel_rfl) uP hn ho) (aBk "internal/bytealg.CountString" (by kernel_rfl) (by kernel_rfl) (by kernel_rfl) hn) #[.string s,.int .u8 c] w;have hc:(Extern.BytealgCount.count #[.string s,.int .u8 c]).run P w=.ok (.int .i64 (s.foldl (fun n x=>if x==c.toNat.toUInt8 then n+1 else n) (((0:Nat):Int)))) w:=by
          show Sem.run P (do
           let b <-Extern.Bytes.bytesOf (.string s)
           let c' <-Extern.Bytes.asByte (.int .u8 c)
           pure (goInt (b.foldl (fun n x=>if x==c' then n+1 else n) (((0:Nat):Int))))) w=_
          simp only[Extern.Bytes.bytesOf,Extern.Bytes.asByte,Sem.run_bind,Sem.run_pure,Result.andThen,goInt]
         simp_all
        ·cases h
       |false=>rw[hn] at h;cases h
 ·cases h
def aop{P:PG}(E:Env P)(ρ:Operand->Value)(op:Op)(H:AH):Option (Value×AH):=
 match op with
 |.move x=>some (ρ x,H)
 |.assign x=>some (ρ x,H)
 |.pick c a b=>(match ρ c with
  |.bool true=>some (ρ a,H)
  |.bool false=>some (ρ b,H)
  |_=>none)
 |.alloc t=>sK E t H
 |.box t x=>some (aEp E t (ρ x) H)
 |.build t ps=>aL (pQ E t (ps.toList.map fun x=>(x.1,ρ x.2))) H
 |.buildSlice t n ps=>dL E t n (ps.toList.map fun x=>(x.1,ρ x.2)) H
 |.load t x=>(match ρ x with
  |.pointer (some a)=>aL (eA E t a H) H
  |_=>none)
 |.store t x y=>(match ρ x with
  |.pointer (some a)=>(match iK E t a (ρ y) H with
   |some H'=>some (undef,H')
   |none=>none)
  |_=>none)
 |.nilCheck x=>(match ρ x with
  |.pointer (some a)=>some (.pointer (some a),H)
  |.func (.func g) a b=>some (.func (.func g) a b,H)
  |_=>none)
 |.binOp op t x y _=>aL (aQ E op t (ρ x) (ρ y)) H
 |.unOp op _ x=>aL (aTv E op (ρ x)) H
 |.convert s d x=>jE E s d (ρ x) H
 |.makeFunc fn a b=>bif fnY fn then none else some (.func fn ⟨a.toList.map ρ⟩ ⟨b.toList.map ρ⟩,H)
 |.makeMap _ none=>some (qY H)
 |.makeSlice t l c=>iR E t (ρ l) (ρ c) H
 |.slice t x lo hi mx=>aL (lD E t (ρ x) (lo.map ρ) (hi.map ρ) (mx.map ρ) H) H
 |.fieldAddr s x f=>aL (eQ E s (ρ x) f) H
 |.field t x f=>aL (aIf E t (ρ x) f) H
 |.indexAddr t x ix=>aL (bJ E t (ρ x) (ρ ix)) H
 |.index t x ix=>aL (jU E t (ρ x) (ρ ix)) H
 |.lookup t x ix ok=>aL (qC E t (ρ x) (ρ ix) ok H) H
 |.mapUpdate t m k x=>(match eZ E t (ρ m) (ρ k) (ρ x) H with
  |some H'=>some (undef,H')
  |none=>none)
 |.insert t m k x=>(match eZ E t (ρ m) (ρ k) (ρ x) H with
  |some H'=>some (undef,H')
  |none=>none)
 |.extract x i=>aL (qR (ρ x) i) H
 |.call c=>(match c.callee with
  |.builtin .len=>(match c.args.toList,c.argTypes.toList with
   |[x],[t]=>aL (aGi E t (ρ x) H) H
   |_,_=>none)
  |.builtin .cap=>(match c.args.toList,c.argTypes.toList with
   |[x],[t]=>aL (bFm E t (ρ x) H) H
   |_,_=>none)
  |.builtin .append=>(match c.args.toList,c.argTypes.toList with
   |[s,x],[sT,xT]=>fE E sT xT (ρ s) (ρ x) H
   |_,_=>none)
  |.builtin .copy=>(match c.args.toList,c.argTypes.toList with
   |[d,x],[dT,_]=>aFq E dT (ρ d) (ρ x) H
   |_,_=>none)
  |.builtin .min=>(match c.args.toList with
   |x::r=>aL (uA false (ρ x) (r.map ρ)) H
   |_=>none)
  |.builtin .max=>(match c.args.toList with
   |x::r=>aL (uA true (ρ x) (r.map ρ)) H
   |_=>none)
  |.builtin .unsafeSliceData=>(match c.args.toList with
   |[x]=>aL (lA (ρ x)) H
   |_=>none)
  |.builtin .unsafeString=>(match c.args.toList,c.argTypes.toList with
   |[x,y],[pt,_]=>kC E pt (ρ x) (ρ y) H
   |_,_=>none)
  |.value x=>(match ρ x with
   |.func (.func g) ⟨[]⟩ ⟨[]⟩=>aL (aNv P g (c.args.toList.map ρ)) H
   |_=>none)
  |_=>none)
 |_=>none
def OOk [Pins](P:PG)(o:Oper)(ρ:Operand->Value)(φ:PL)(w:World)(v:Value)(H':AH):Prop:=
 ∃φ' v' w',φ <+: φ'/\Rel φ' H' w'/\VR φ' v v'/\((execOp ρ o).run P w=.ok (.value v') w'\/((execOp ρ o).run P w=.ok .skip w'/\v'=undef))
theorem aD{x:Option Value}{H H':AH}{v:Value}(h:aL x H=some (v,H')):x=some v/\H'=H:=by
 unfold aL at h
 grind
theorem fQ{φ:PL}{ρ ρ':Operand->Value}(h:∀x,VR φ (ρ x) (ρ' x)):∀l:List Operand,VRs φ (l.map ρ) (l.map ρ')
 |[]=>VRs.nil φ
 |x::l=>VRs.cons (h x) (fQ h l)
theorem wF{φ:PL}{ρ ρ':Operand->Value}(h:∀x,VR φ (ρ x) (ρ' x))(l:List (Nat×Operand))(i n:Nat)(v:Value)(n':Nat)(v':Value)
 (h1:(l.map fun x=>(x.1,ρ x.2))[i]?=some (n,v))(h2:(l.map fun x=>(x.1,ρ' x.2))[i]?=some (n',v')):n=n'/\VR φ v v':=by
 grind
theorem tC{φ:PL}{ρ ρ':Operand->Value}(h:∀x,VR φ (ρ x) (ρ' x))(x:Option Operand):tM φ (x.map ρ) (x.map ρ'):=by
 cases x with
 |none=>exact .inl ⟨rfl,rfl⟩
 |some x=>exact .inr ⟨_,_,rfl,rfl,h x⟩
theorem aGw [Pins]{P:PG}(E:Env P){φ:PL}{H H':AH}{w:World}(R:Rel φ H w){ρ ρ':Operand->Value}(hρ:∀x,VR φ (ρ x) (ρ' x)){o:Oper}{v:Value}(h:aop E ρ o.op H=some (v,H')):OOk P o ρ' φ w v H':=by
 have here:∀{v v':Value},VR φ v v'->(execOp ρ' o).run P w=.ok (.value v') w->OOk P o ρ' φ w v H:=fun hv hr=>⟨φ,_,w,List.prefix_refl _,R,hv,.inl hr⟩;have sok:∀{s:Sem Value} {v:Value} {H':AH},SOk P s φ w v H'->execOp ρ' o=(do pure (.value (<-s)))->OOk P o ρ' φ w v H':=by
  intro s v H' ⟨φ',v',w',h1,h2,h3,h4⟩ he;exact⟨φ',v',w',h1,h2,h3,.inl (by rw[he];simp[h4])⟩
 unfold aop at h;split at h<;>rename_i qg
 ·cases h;exact here (hρ _) (by simp[execOp,qg])
 ·cases h;exact here (hρ _) (by simp[execOp,qg])
 ·rename_i c a b;split at h
  ·rename_i hc;cases h;have:=hρ c;rw[hc] at this;generalize zd:ρ' c=cc at this;cases this;exact here (hρ _) (by simp[execOp,qg,zd,asBool])
  ·rename_i hc;cases h;have:=hρ c;rw[hc] at this;generalize zd:ρ' c=cc at this;cases this;exact here (hρ _) (by simp[execOp,qg,zd,asBool])
  ·cases h
 ·rename_i t;unfold sK at h;split at h
  ·rename_i i hi;split at h
   ·rename_i z hz;cases h;obtain⟨φ',w',b,h1,h2,h3,h4⟩:=aKl E R t (VR.ext φ z);refine⟨φ',_,w',h1,h2,h3,.inl ?_⟩;simp[execOp,qg,Instr.alloc,bE E hi hz,h4]
   ·cases h
  ·cases h
 ·rename_i t x;cases h;obtain⟨φ',w',b,h1,h2,h3,h4⟩:=aKl E R t (hρ x);refine⟨φ',_,w',h1,h2,h3,.inl ?_⟩;simp[execOp,qg,Instr.box,h4]
 ·rename_i t ps;obtain⟨hh,rfl⟩:=aD h
  replace h:=hh
  obtain⟨v',h1,h2⟩:=zQ E (parts':=ps.toList.map fun x=>(x.1,ρ' x.2)) (by simp) (wF hρ ps.toList) h w;refine here h1 ?_;have:(ps.map fun(x:Nat×Operand)=>(x.1,ρ' x.2))=⟨ps.toList.map fun x=>(x.1,ρ' x.2)⟩:=by rw[<-Array.toList_inj];simp
  grind [execOp,Sem.run_bind,Result.andThen_ok,Sem.run_pure]
 ·rename_i t n ps;have hs:=wC E R (parts':=ps.toList.map fun x=>(x.1,ρ' x.2)) (by simp) (wF hρ ps.toList) h;have:(ps.map fun(x:Nat×Operand)=>(x.1,ρ' x.2))=⟨ps.toList.map fun x=>(x.1,ρ' x.2)⟩:=by rw[<-Array.toList_inj];simp
  grind [execOp]
 ·rename_i t x;split at h
  ·rename_i a ha;obtain⟨hh,rfl⟩:=aD h
   replace h:=hh
   have:=hρ x;rw[ha] at this;generalize zd:ρ' x=cc at this;cases this with
   |ptr hA=>
    obtain⟨v',h1,h2⟩:=lZ E R hA h;exact here h2 (by simp[execOp,qg,zd,Instr.loadAt,Instr.sureAddr,h1])
  ·cases h
 ·rename_i t x y;split at h
  ·rename_i a ha;split at h
   ·rename_i H2 qv;cases h;have:=hρ x;rw[ha] at this;generalize zd:ρ' x=cc at this;cases this with
    |ptr hA=>
     obtain⟨w',h1,h2⟩:=aDo E R hA (hρ y) qv;exact⟨φ,undef,w',List.prefix_refl _,h2,VR.undef φ,.inr ⟨by simp[execOp,qg,zd,Instr.storeAt,Instr.sureAddr,h1],rfl⟩⟩
   ·cases h
  ·cases h
 ·rename_i x;split at h
  ·rename_i a ha;cases h;have:=hρ x;rw[ha] at this;generalize zd:ρ' x=cc at this;cases this with
   |ptr hA=>exact here (.ptr hA) (by simp[execOp,qg,zd])
  ·rename_i g a b ha;cases h;have:=hρ x;rw[ha] at this;generalize zd:ρ' x=cc at this;cases this with
   |func fn hy q1 q2 q3 q4=>exact here (.func _ hy q1 q2 q3 q4) (by simp[execOp,qg,zd])
  ·cases h
 ·rename_i op t x y yt;obtain⟨hh,rfl⟩:=aD h
  replace h:=hh
  obtain⟨v',h1,h2⟩:=aMu E (hρ x) (hρ y) h x y w;refine here h1 ?_;simp only[execOp,qg];rw[Sem.run_bind,h2];rfl
 ·rename_i op t x;obtain⟨hh,rfl⟩:=aD h
  replace h:=hh
  obtain⟨v',h1,h2⟩:=aMv E (hρ x) h w;exact here h1 (by simp[execOp,qg,h2])
 ·grind [aWb,execOp]
 ·rename_i fn a b;obtain⟨hy,h⟩:fnY fn=false/\_:=by
   cases e:fnY fn with
   |true=>rw[e] at h;cases h
   |false=>rw[e,QF] at h;exact⟨rfl,h⟩
  cases h;have va:=fQ hρ a.toList;have vb:=fQ hρ b.toList;refine here (.func fn hy va.1 vb.1 va.2 vb.2) ?_;have e1:a.map ρ'=⟨a.toList.map ρ'⟩:=by grind
  have e2:b.map ρ'=⟨b.toList.map ρ'⟩:=by grind
  grind [execOp,Instr.makeFunc,Sem.run_bind,Sem.run_pure,Result.andThen_ok]
 ·rename_i t;cases h;exact sok (aGc R t) (by grind [execOp])
 ·grind [yP,execOp]
 ·rename_i t x lo hi mx;obtain⟨hh,rfl⟩:=aD h
  replace h:=hh
  obtain⟨v',h1,h2⟩:=zJ E R (hρ x) (tC hρ lo) (tC hρ hi) (tC hρ mx) h;exact here h1 (by simp[execOp,qg,h2])
 ·rename_i s x f;obtain⟨hh,rfl⟩:=aD h
  replace h:=hh
  obtain⟨v',h1,h2⟩:=oO E (hρ x) h w;exact here h1 (by simp[execOp,qg,h2])
 ·rename_i s x f;obtain⟨hh,rfl⟩:=aD h
  replace h:=hh
  obtain⟨v',h1,h2⟩:=aAg E (hρ x) h w;exact here h1 (by simp[execOp,qg,h2])
 ·rename_i t x ix;obtain⟨hh,rfl⟩:=aD h
  replace h:=hh
  obtain⟨v',h1,h2⟩:=oQ E (hρ x) (hρ ix) h w;exact here h1 (by simp[execOp,qg,h2])
 ·rename_i t x ix;obtain⟨hh,rfl⟩:=aD h
  replace h:=hh
  obtain⟨v',h1,h2⟩:=zI E (hρ x) (hρ ix) h w;exact here h1 (by simp[execOp,qg,h2])
 ·rename_i t x ix ok;obtain⟨hh,rfl⟩:=aD h
  replace h:=hh
  obtain⟨v',h1,h2⟩:=tT E R (hρ x) (hρ ix) h;exact here h1 (by simp[execOp,qg,h2])
 ·rename_i t m k x;split at h
  ·rename_i H2 qv;cases h;obtain⟨w',h1,h2⟩:=mO E R (hρ m) (hρ k) (hρ x) qv;exact⟨φ,undef,w',List.prefix_refl _,h1,VR.undef φ,.inr ⟨by simp[execOp,qg,h2],rfl⟩⟩
  ·cases h
 ·rename_i t m k x;split at h
  ·rename_i H2 qv;cases h;obtain⟨w',h1,h2⟩:=mO E R (hρ m) (hρ k) (hρ x) qv;exact⟨φ,undef,w',List.prefix_refl _,h1,VR.undef φ,.inr ⟨by simp[execOp,qg,h2],rfl⟩⟩
  ·cases h
 ·rename_i x i;obtain⟨hh,rfl⟩:=aD h
  replace h:=hh
  obtain⟨v',h1,h2⟩:=tX (P:=P) (hρ x) h w;exact here h1 (by simp[execOp,qg,h2])
 ·rename_i c;split at h<;>rename_i yk
  ·split at h
   ·rename_i x t qj wy;obtain⟨hh,rfl⟩:=aD h
    replace h:=hh
    obtain⟨v',h1,h2⟩:=aMt E R (ty:=o.type) (hρ x) h;have e1:c.args= #[x]:=by grind
    have e2:c.argTypes= #[t]:=by grind
    refine here h1 ?_;simp[execOp,qg,resolve,yk,invoke,builtin,e1,e2,h2]
   ·cases h
  ·split at h
   ·rename_i x t qj wy;obtain⟨hh,rfl⟩:=aD h
    replace h:=hh
    obtain⟨v',h1,h2⟩:=aLr E R (ty:=o.type) (hρ x) h;have e1:c.args= #[x]:=by grind
    have e2:c.argTypes= #[t]:=by grind
    refine here h1 ?_;simp[execOp,qg,resolve,yk,invoke,builtin,e1,e2,h2]
   ·cases h
  ·split at h
   ·rename_i s x sT xT qj wy;have e1:c.args= #[s,x]:=by grind
    have e2:c.argTypes= #[sT,xT]:=by grind
    refine sok (aIm E R o.type (hρ s) (hρ x) h) ?_
    grind [execOp,resolve,invoke,builtin]
   ·cases h
  ·split at h
   ·rename_i d x dT xT qj wy;have e1:c.args= #[d,x]:=by grind
    have e2:c.argTypes= #[dT,xT]:=by grind
    refine sok (aWj E R (xT:=xT) o.type (hρ d) (hρ x) h) ?_
    grind [execOp,resolve,invoke,builtin]
   ·cases h
  ·split at h
   ·rename_i x r qj;obtain⟨hh,rfl⟩:=aD h
    replace h:=hh
    obtain⟨v',h1,h2⟩:=uL (P:=P) false (r.map ρ) (r.map ρ') _ _ v (hρ x) (fQ hρ r) h w;refine here h1 ?_;have e1:(c.args.map ρ').toList=ρ' x::r.map ρ':=by simp[qj]
    simp only[Bool.false_eq_true,if_false] at h2;simp[execOp,qg,resolve,yk,invoke,builtin,Builtin.min_,qj,h2]
   ·cases h
  ·split at h
   ·rename_i x r qj;obtain⟨hh,rfl⟩:=aD h
    replace h:=hh
    obtain⟨v',h1,h2⟩:=uL (P:=P) true (r.map ρ) (r.map ρ') _ _ v (hρ x) (fQ hρ r) h w;refine here h1 ?_;simp only[if_true] at h2;simp[execOp,qg,resolve,yk,invoke,builtin,Builtin.max_,qj,h2]
   ·cases h
  ·split at h
   ·rename_i x qj;obtain⟨hh,rfl⟩:=aD h
    replace h:=hh
    obtain⟨v',h1,h2⟩:=yT (P:=P) (hρ x) h c.argTypes o.type w;have e1:c.args= #[x]:=by grind
    refine here h1 ?_;simp[execOp,qg,resolve,yk,invoke,builtin,e1,h2]
   ·cases h
  ·split at h
   ·rename_i x y pt it qj wy;have e1:c.args= #[x,y]:=by grind
    have e2:c.argTypes= #[pt,it]:=by grind
    refine sok (aFi E R (it:=it) (ty:=o.type) (hρ x) (hρ y) h) ?_
    grind [execOp,resolve,invoke,builtin]
   ·cases h
  ·rename_i x;split at h
   ·rename_i g hx;obtain⟨hh,rfl⟩:=aD h;have da:=hρ x;rw[hx] at da;generalize zd:ρ' x=cc at da;cases da with
    |func fn' hy q1 q2 q3 q4=>
     rename_i a' b';obtain⟨_,r1,r2⟩:=bBu (fQ hρ c.args.toList) hh w;refine here r1 ?_;have e1:c.args.map ρ'=⟨c.args.toList.map ρ'⟩:=by grind
     grind [List.eq_nil_of_length_eq_zero,execOp,resolve,Deferred.ofValue,invoke]
   ·cases h
  ·cases h
 ·cases h
end Go.AM
namespace Go.AM
open Go.RowKit
variable [σ:Sg]
theorem pK{H H':AH}{a:Addr}{vs:VL}(h:fJ H a vs=some H'):H'.w0=H.w0:=by
 unfold fJ at h
 grind
theorem aY{α:Type}{b:Bool}{x y:Option α}{z:α}(h:(bif b then x else y)=some z):x=some z\/y=some z:=by
 grind
theorem mN{tg size bytes n:Nat}{s:Value}{sLen:Nat}{new:VL}{H H':AH}{v:Value}(h:dD tg size bytes n s sLen new H=some (v,H')):H'.w0=H.w0:=by
 unfold dD at h;split at h
 ·rcases aY h with h|h
  ·cases h;rfl
  ·cases h
 ·cases h
section
variable {P:PG}(E:Env P)
theorem aJc{sT xT:TY}{s x v:Value}{H H':AH}(h:fE E sT xT s x H=some (v,H')):H'.w0=H.w0:=by
 unfold fE at h;split at h
 ·rcases aY h with h|h
  ·split at h
   ·unfold qZ at h;split at h
    ·split at h
     ·split at h
      ·cases h
      ·cases h;rfl
     ·cases h
    ·cases h
   ·cases h
  ·split at h
   ·rcases aY h with h|h
    ·cases h
    ·split at h
     ·split at h
      ·rcases aY h with h|h
       ·grind
       ·split at h
        ·rcases aY h with h|h
         ·exact mN h
         ·cases h
        ·rcases aY h with h|h
         ·rcases aY h with h|h
          ·cases h
          ·exact mN h
         ·split at h
          ·rcases aY h with h|h
           ·rcases aY h with h|h
            ·grind [pK]
            ·rcases aY h with h|h
             ·rcases aY h with h|h
              ·exact mN h
              ·cases h
             ·rcases aY h with h|h
              ·cases h;rfl
              ·cases h
           ·cases h
          ·cases h
      ·cases h
     ·cases h
   ·cases h
 ·cases h
theorem aRc{dT:TY}{d x v:Value}{H H':AH}(h:aFq E dT d x H=some (v,H')):H'.w0=H.w0:=by
 unfold aFq at h;split at h
 ·split at h
  ·split at h
   ·split at h
    ·rcases aY h with h|h
     ·cases h;rfl
     grind [pK]
    grind
   ·cases h
  ·cases h
 ·cases h
theorem yR{t:TY}{m k v:Value}{H H':AH}(h:eV E t m k v H=some H'):H'.w0=H.w0:=by
 unfold eV at h
 grind
theorem wG{t:TY}{m k v:Value}{H H':AH}(h:gW E t m k v H=some H'):H'.w0=H.w0:=by
 unfold gW at h
 grind
theorem xZ{t:TY}{m k v:Value}{H H':AH}(h:eZ E t m k v H=some H'):H'.w0=H.w0:=by
 rcases xB h with h|h
 ·exact yR E h
 ·exact wG E h
theorem aWm{s d:TY}{x v:Value}{H H':AH}(h:jE E s d x H=some (v,H')):H'.w0=H.w0:=by
 unfold jE at h;split at h
 ·cases h;rfl
 ·cases h;rfl
 ·split at h
  ·cases h;rfl
  ·cases h
 ·grind
 ·grind
 ·grind
 ·grind
 ·cases h
theorem aEe{pt:TY}{x y v:Value}{H H':AH}(h:kC E pt x y H=some (v,H')):H'.w0=H.w0:=by
 unfold kC at h;split at h
 ·grind
 ·cases h
theorem mT{ρ:Operand->Value}{op:Op}{H H':AH}{v:Value}(h:aop E ρ op H=some (v,H')):H'.w0=H.w0:=by
 unfold aop at h;split at h
 case h_1|h_2|h_5|h_14|h_15=>first|(cases h;rfl)|(rename_i fn a b;cases e:fnY fn with
  |true=>rw[e] at h;cases h
  |false=>rw[e,QF] at h;cases h;rfl)
 case h_3=>grind
 case h_4=>
  unfold sK at h;split at h
  ·split at h
   ·cases h;rfl
   ·cases h
  ·cases h
 case h_7=>
  unfold dL at h;split at h
  ·split at h
   ·rcases aY h with h|h
    ·split at h
     ·split at h
      ·rcases aY h with h|h
       ·cases h;rfl
       ·cases h
      ·cases h
     ·cases h
    ·cases h
   ·cases h
  ·cases h
 case h_8=>
  split at h
  ·rw[(aD h).2]
  ·cases h
 case h_9=>
  split at h
  ·split at h
   ·rename_i qv;cases h;unfold iK at qv;split at qv
    ·rcases aY qv with qv|qv
     ·exact pK qv
     ·cases qv
    ·cases qv
   ·cases h
  ·cases h
 case h_10=>grind
 case h_13=>exact aWm E h
 case h_16=>
  unfold iR at h;split at h
  ·split at h
   ·split at h
    ·split at h
     ·cases h;rfl
     ·cases h
    ·cases h
   ·cases h
  ·cases h
 case h_23|h_24=>
  grind [xZ]
 case h_26=>
  split at h
  ·split at h
   ·rw[(aD h).2]
   ·cases h
  ·split at h
   ·rw[(aD h).2]
   ·cases h
  ·grind [aJc]
  ·grind [aRc]
  ·split at h
   ·rw[(aD h).2]
   ·cases h
  ·split at h
   ·rw[(aD h).2]
   ·cases h
  ·split at h
   ·rw[(aD h).2]
   ·cases h
  ·grind [aEe]
  ·split at h
   ·rw[(aD h).2]
   ·cases h
  ·cases h
 case h_27=>cases h
 all_goals rw[(aD h).2]
theorem aAx{ρ ρ':Operand->Value}(op:Op)(H:AH)(h:∀x∈op.operands,ρ x=ρ' x):aop E ρ op H=aop E ρ' op H:=by
 have pairs:∀ps:Array (Nat×Operand),(∀x∈(ps.toList.map (·.2)).toArray,ρ x=ρ' x)->(ps.toList.map fun x=>(x.1,ρ x.2))=(ps.toList.map fun x=>(x.1,ρ' x.2)):=fun ps hp=>
  List.map_congr_left fun p hm=>by grind
 cases op<;>simp only[Op.operands] at h<;>simp only[aop]
 case build t ps=>rw[pairs ps h]
 case buildSlice t n ps=>rw[pairs ps h]
 case makeFunc fn first captured=>
  grind [List.map_congr_left]
 case makeMap t r=>cases r<;>rfl
 case slice t x lo hi mx=>cases lo<;>cases hi<;>cases mx<;>simp_all
 case call c=>
  have ha:∀x∈c.args.toList,ρ x=ρ' x:=fun x hx=>h x (by simp[Call.operands,Array.mem_toList_iff.1 hx]);cases hc:c.callee with
  |value f=>
   grind [Call.operands,List.map_congr_left]
  |invoke r m=>rfl
  |builtin b=>
   cases b<;>(try rfl)<;>simp only
   ·grind
   ·grind
   ·grind
   ·grind
   ·grind [List.map_congr_left]
   ·grind [List.map_congr_left]
   ·grind
   grind
 all_goals simp_all
def bM(ρ:Operand->Value)(op:Op):Option (FuncId×List Value):=
 match op with
 |.call c=>(match c.callee with
  |.value x=>(match ρ x with
   |.func (.func g) ⟨a⟩ ⟨b⟩=>(match E.fn g with
    |some _=>some (g,a++(c.args.toList.map ρ++b))
    |none=>none)
   |_=>none)
  |_=>none)
 |_=>none
theorem yF{ρ ρ':Operand->Value}(op:Op)(h:∀x∈op.operands,ρ x=ρ' x):bM E ρ op=bM E ρ' op:=by
 cases op<;>simp only[bM]
 case call c=>
  simp only[Op.operands] at h;cases hc:c.callee with
  |value f=>
   grind [Call.operands,List.map_congr_left]
  |invoke r m=>rfl
  |builtin b=>rfl
theorem vX{φ:PL}{ρ ρ':Operand->Value}(hρ:∀x,VR φ (ρ x) (ρ' x)){o:Oper}{g:FuncId}{args:VL}(h:bM E ρ o.op=some (g,args))(w:World):
 ∃args',VRs φ args args'/\(execOp ρ' o).run P w=.ok (.enter g ⟨args'⟩) w:=by
 unfold bM at h;split at h
 ·rename_i c qg;split at h
  ·rename_i x hc;split at h
   ·rename_i g' a b hx;split at h
    ·rename_i fn db;cases h;have hv:=hρ x;rw[hx] at hv;generalize zd:ρ' x=cc at hv;cases hv with
     |func fn' hy q1 q2 q3 q4=>
      rename_i a' b';refine⟨a'++(c.args.toList.map ρ'++b'),VRs.append ⟨q1,q3⟩ ((fQ hρ _).append ⟨q2,q4⟩),?_⟩;obtain⟨F,hF,hb,_,_,hn⟩:=E.fn_ok _ _ db;have e1:c.args.map ρ'=⟨c.args.toList.map ρ'⟩:=by grind
      have rc:¬F.name= "runtime.NumGoroutine":=by simpa using hn
      simp[execOp,qg,resolve,hc,zd,Deferred.ofValue,invoke,callFunc,hF,rc,hb,e1]
    ·cases h
   ·cases h
  ·cases h
 ·cases h
end
abbrev AQ:=Exit->Fr->AH->Prop
def iZ [Pins](φ:PL)(w0:Base)(Q:AQ):Exit->Act->World->Prop:=fun e a w=>∃φ' f H,φ <+: φ'/\FRel φ' f a/\Rel φ' H w/\H.w0=w0/\Q e f H
theorem kR [Pins]{φ φ':PL}(h:φ <+: φ'){w0:Base}{Q:AQ}{e:Exit}{a:Act}{w:World}(k:iZ φ' w0 Q e a w):iZ φ w0 Q e a w:=by
 obtain⟨ψ,f,H,h1,h2⟩:=k;exact⟨ψ,f,H,h.trans h1,h2⟩
def cL(r:Option Nat):Fence:={Fence.wide with round:=r}
structure Gam1 where
 y:Bool
 n0:Nat
 ok:Pins->Option Nat->List Place->Prop
 mono:∀(π:Pins) (ro:Option Nat) (φ φ':PL),φ <+: φ'->ok π ro φ->ok π ro φ'
abbrev Gam:Type:=Inhabited Gam1
def Gam.ok(γ:Gam)(π:Pins)(ro:Option Nat)(φ:PL):Prop:=(@default Gam1 γ).ok π ro φ
theorem Gam.mono(γ:Gam){π:Pins}{ro:Option Nat}{φ φ':PL}(h:φ <+: φ')(k:γ.ok π ro φ):γ.ok π ro φ':=(@default Gam1 γ).mono π ro φ φ' h k
def Gam.y(γ:Gam):Bool:=(@default Gam1 γ).y
def Gam.n0(γ:Gam):Nat:=(@default Gam1 γ).n0
instance allG:Gam:=⟨⟨false,0,fun _ _ _=>True,fun _ _ _ _ _ _=>trivial⟩⟩
def ACode [γ:Gam](P:PG)(c:Code)(Q:AQ)(f:Fr)(H:AH):Prop:=∀(π:Pins) (ro:Option Nat) φ a w,γ.ok π ro φ->FRel φ f a->Rel φ H w->c.wpIn (cL ro) 0 P (iZ φ H.w0 Q) a w
theorem wR{P:PG}{o:Oper}{a:Act}{K:Act->World->Prop}{Q:Exit->Act->World->Prop}{ro:Option Nat}{r:Result Next}(h:o.upon P a K Q r):o.uponIn (cL ro) 0 P a K Q r:=by
 cases r with
 |ok n w'=>
  cases n<;>simp only[Oper.upon,Oper.uponIn] at h ⊢ <;>
   first
    |exact h
    |exact⟨fun e=>by simp[cL,Fence.wide] at e,callsIn_wide.2 h⟩
    |exact⟨fun e=>by simp[cL,Fence.wide] at e,fun c cs hr=>by
     obtain⟨v,w2,q,s⟩:=h c cs;exact⟨v,w2,q,stepsIn_wide.2 s⟩⟩
    |exact h.elim
 |halt x w'=>cases x<;>grind [Oper.upon,Oper.uponIn]<;>exact h
theorem Oper.wpIn_of{P:PG}{o:Oper}{a:Act}{w:World}{K:Act->World->Prop}{Q:Exit->Act->World->Prop}(ro:Option Nat)(hd:∀c,o.op≠.defer c)(h:o.wp P a w K Q):o.wpIn (cL ro) 0 P a w K Q:=by
 refine⟨fun f _=>trivial,?_⟩;rw[Oper.semAt_eq _ _ _ hd];exact wR h
theorem aOq{P:PG}{ops:OA}{Q:Exit->Act->World->Prop}(ro:Option Nat)(pr:∀(i:Nat) (o:Oper) (c:Call),ops[i]?=some o->o.op≠.defer c)(hQ:¬LetsOut Q){i:Nat}{K:Act->World->Prop}{a:Act}{w:World}(h:wpOp P ops Q i K a w):wpOpIn (cL ro) 0 P ops Q i K a w:=by
 unfold wpOp at h;unfold wpOpIn;cases ho:ops[i]? with
 |none=>rw[ho] at h;exact h
 |some o=>
  rw[ho] at h;simp only at h ⊢;cases hw:Region.wanted o (yielded ops a.tmps) with
  |true=>
   rw[hw] at h;simp only[if_true] at h ⊢
   grind [Oper.wpIn_of,absurd]
  |false=>
   rw[hw] at h;simp only[Bool.false_eq_true,if_false] at h ⊢;exact⟨fun f _=>trivial,h⟩
theorem vL{P:PG}{md:Region.Mode}{ops:OA}{Q:Exit->Act->World->Prop}(ro:Option Nat)(pr:∀(i:Nat) (o:Oper) (c:Call),ops[i]?=some o->o.op≠.defer c)(hQ:¬LetsOut Q):∀(n:Nat) (l:Array Bool) (a:Act) (w:World),wpAny P md ops Q n l a w->wpAnyIn (cL ro) 0 P md ops Q n l a w
 |0,l,a,w,h=>h
 |n+1,l,a,w,h=>⟨h.1,fun i hi=>wpOpIn_mono (fun a w k=>vL ro pr hQ n _ a w k) (aOq ro pr hQ (h.2 i hi))⟩
def ACalls(P:PG)(g:FuncId)(args:VL)(H:AH)(Q:Value->AH->Prop):Prop:=
 ∀(π:Pins) φ args' w,VRs φ args args'->Rel φ H w->Calls P g ⟨args'⟩ w fun e w'=>∃φ' v v' H',φ <+: φ'/\e=.returned v'/\VR φ' v v'/\Rel φ' H' w'/\H'.w0=H.w0/\Q v H'
theorem ACalls.mono{P:PG}{g:FuncId}{args:VL}{H:AH}{Q Q':Value->AH->Prop}(h:ACalls P g args H Q)(hq:∀v H',Q v H'->Q' v H'):ACalls P g args H Q':=
 fun π φ args' w hv hR=>(h π φ args' w hv hR).mono fun _ _ ⟨φ',v,v',H',h1,h2,h3,h4,h5,h6⟩=>⟨φ',v,v',H',h1,h2,h3,h4,h5,hq _ _ h6⟩
theorem iD{Q Q':Exit->Act->World->Prop}(h:∀e a w,Q e a w->Q' e a w)(k:LetsOut Q):LetsOut Q':=let ⟨a,w,q⟩:=k;⟨a,w,h _ _ _ q⟩
theorem Oper.wpIn_monoQ{P:PG}{o:Oper}{F:Fence}{n:Nat}{K K':Act->World->Prop}{Q Q':Exit->Act->World->Prop}(h:∀e a w,Q e a w->Q' e a w)(hK:∀a w,K a w->K' a w){a:Act}{w:World}(k:o.wpIn F n P a w K Q):o.wpIn F n P a w K' Q':=by
 unfold Oper.wpIn at*;refine⟨k.1,?_⟩;have k:=k.2;generalize (o.semAt F.round a.eval).run P w=r at*;cases r with
 |ok n w'=>
  cases n<;>simp only[Oper.uponIn] at k ⊢ <;>
   first
    |exact hK _ _ k
    |exact⟨k.1,CallsIn.mono k.2 (fun e w'' he=>by cases e<;>first|exact hK _ _ he|exact h _ _ _ he|exact iD h he)⟩
    |exact⟨k.1,RowsIn.mono k.2 (fun _ _ he=>hK _ _ he)⟩
    |exact⟨k.1,RoundIn.mono k.2 (fun e w'' he=>by cases e<;>first|exact hK _ _ he|exact h _ _ _ he|exact iD h he)⟩
 |halt x w'=>cases x<;>simp only[Oper.uponIn] at k ⊢ <;>first|exact h _ _ _ k|exact k
theorem mP{P:PG}{F:Fence}{n:Nat}{ops:OA}{Q Q':Exit->Act->World->Prop}(h:∀e a w,Q e a w->Q' e a w):∀(l:NL) (a:Act) (w:World),wpOpsIn F n P ops Q l a w->wpOpsIn F n P ops Q' l a w:=by
 intro l
 induction l with
 |nil=>intro a w k;exact h _ _ _ k
 |cons i rest ih=>
  intro a w k;simp only[wpOpsIn] at k ⊢;cases ho:ops[i]? with
  |none=>simp_all
  |some o=>
   simp only[ho] at k ⊢;split
   ·rename_i hw;simp only[hw,if_true] at k;exact Oper.wpIn_monoQ h ih k
   simp_all
def aM(ops:OA)(sv:Tmp->Value)(o:Oper):Bool:=
 match o.guard with
 |none=>true
 |some (j,want)=>(match ops[j]? with
  |some oj=>(match oj.dst with
   |some d=>(match sv d with
    |.bool b=>b==want
    |_=>false)
   |none=>false)
  |none=>false)
theorem aFv{φ:PL}{v v':Value}(h:VR φ v v')(b:Bool):v=.bool b↔v'=.bool b:=by
 cases h
 case ph k=>rcases σ.kind k with⟨c,n,e⟩|⟨s,e⟩<;>rw[e]<;>simp
 case emp e=>obtain⟨_,_,rfl⟩:=e;simp
 all_goals simp
theorem fX{φ:PL}{sv:Tmp->Value}{a:Act}(ops:OA)(o:Oper)
 (h:∀d∈o.looksAt ops,VR φ (sv d) (a.tmps.getD d undef)):Region.wanted o (yielded ops a.tmps)=aM ops sv o:=by
 unfold Region.wanted aM;cases hg:o.guard with
 |none=>rfl
 |some jw=>
  obtain⟨j,want⟩:=jw;simp only[yielded];cases hj:ops[j]? with
  |none=>simp
  |some oj=>
   cases hd:oj.dst with
   |none=>simp[hd]
   |some d=>
    simp only[hd,Option.bind_some];have hv:=h d (by grind [Oper.looksAt]);by_cases qm:d<a.tmps.size
    ·have e:a.tmps[d]?=some (a.tmps.getD d undef):=by simp_all
     rw[e];generalize a.tmps.getD d undef=x at hv;generalize sv d=y at hv;cases hv
     case ph k=>rcases σ.kind k with⟨c,n,e⟩|⟨s,e⟩<;>rw[e]<;>rfl
     case emp e=>obtain⟨_,_,rfl⟩:=e;rfl
     all_goals simp_all
    grind [Array.getElem?_eq_none,Nat.le_of_not_lt,undef,Array.getD_eq_getD_getElem?,bool,aFv]
def AOps [γ:Gam](P:PG)(ops:OA)(l:NL)(Q:AQ)(f:Fr)(H:AH):Prop:=∀(π:Pins) (ro:Option Nat) φ a w,γ.ok π ro φ->FRel φ f a->Rel φ H w->wpOpsIn (cL ro) 0 P ops (iZ φ H.w0 Q) l a w
def bX(f:Fr)(t:Tmp):Value:=aK f (.tmp t)
section
variable [γ:Gam]{P:PG}{ops:OA}{Q:AQ}{f:Fr}{H:AH}
theorem AOps.nil(h:Q .normal f H):AOps P ops [] Q f H:=fun π ro φ _ _ hg hf hR=>⟨φ,f,H,List.prefix_refl _,hf,hR,rfl,h⟩
theorem AOps.skip{i:Nat}{rest:NL}{o:Oper}{g:Fr}(ho:ops[i]?=some o)(hw:aM ops (bX f) o=false)(hp:f.put o.dst undef=some g)(h:AOps P ops rest Q g H):AOps P ops (i::rest) Q f H:=by
 intro π ro φ a w hg hf hR;have xq:Region.wanted o (yielded ops a.tmps)=false:=by rw[fX (φ:=φ) (sv:=bX f) ops o (fun d _=>hf.2.2 d),hw]
 simp only[wpOpsIn,ho,xq,Bool.false_eq_true,if_false];exact⟨fun _ _=>trivial,h _ ro φ _ w hg (hf.put (VR.undef φ) hp) hR⟩
theorem bFz(E:Env P){ρ:Operand->Value}{op:Op}{r:Value×AH}(h:aop E ρ op H=some r):∀c,op≠.defer c:=by
 grind [aop]
theorem aGx(E:Env P){ρ:Operand->Value}{op:Op}{r:FuncId×List Value}(h:bM E ρ op=some r):∀c,op≠.defer c:=by
 grind [bM]
theorem AOps.op(E:Env P){i:Nat}{rest:NL}{o:Oper}{g:Fr}{v:Value}{H':AH}(ho:ops[i]?=some o)(hw:aM ops (bX f) o=true)(qg:aop E (aK f) o.op H=some (v,H'))(hp:f.put o.dst v=some g)
 (h:AOps P ops rest Q g H'):AOps P ops (i::rest) Q f H:=by
 intro π ro φ a w hg hf hR;have xq:Region.wanted o (yielded ops a.tmps)=true:=by rw[fX (φ:=φ) (sv:=bX f) ops o (fun d _=>hf.2.2 d),hw]
 simp only[wpOpsIn,ho,xq,if_true];obtain⟨φ',v',w',h1,h2,h3,h4⟩:=aGw E hR (ρ:=aK f) (ρ':=a.eval) hf.eval qg;have zj:=mT E qg;have uh:wpOpsIn (cL ro) 0 P ops (iZ φ H.w0 Q) rest (a.put o.dst v') w':=by
  refine mP (fun e a w k=>kR h1 k) rest _ _ ?_;rw[<-zj];exact h _ ro φ' _ w' (γ.mono h1 hg) ((hf.mono h1).put h3 hp) h2
 refine Oper.wpIn_of ro (bFz E qg) ?_;unfold Oper.wp;rcases h4 with h4|⟨h4,rfl⟩
 ·rw[h4];exact uh
 ·rw[h4];exact uh
theorem AOps.call(E:Env P){i:Nat}{rest:NL}{o:Oper}{k:FuncId}{args:VL}(ho:ops[i]?=some o)(hw:aM ops (bX f) o=true)(hc:bM E (aK f) o.op=some (k,args))
 (h:ACalls P k args H fun v H'=>∃g,f.put o.dst v=some g/\AOps P ops rest Q g H'):AOps P ops (i::rest) Q f H:=by
 intro π ro φ a w hg hf hR;have xq:Region.wanted o (yielded ops a.tmps)=true:=by rw[fX (φ:=φ) (sv:=bX f) ops o (fun d _=>hf.2.2 d),hw]
 simp only[wpOpsIn,ho,xq,if_true];obtain⟨args',h1,h2⟩:=vX E (ρ:=aK f) (ρ':=a.eval) hf.eval hc w;refine Oper.wpIn_of ro (aGx E hc) ?_;unfold Oper.wp;rw[h2];refine(h _ φ args' w h1 hR).mono ?_;rintro e w' ⟨φ',v,v',H',h3,rfl,h4,h5,h6,g,hp,ud⟩;refine mP (fun e a w k=>kR h3 k) rest _ _ ?_;rw[<-h6];exact ud _ ro φ' _ w' (γ.mono h3 hg) ((hf.mono h3).put h4 hp) h5
def AYield(P:PG)(o:Oper)(f:Fr)(H:AH)(v:Value)(H':AH):Prop:=
 γ.y=true/\(∃c,o.op=.call c)/\∀(π:Pins) (ro:Option Nat) φ a w,γ.ok π ro φ->(∀x,VR φ (aK f x) (a.eval x))->Rel φ H w->∀(next:Act->World->Prop) (Q:Exit->Act->World->Prop),
  (∀φ' v' w',φ <+: φ'->VR φ' v v'->Rel φ' H' w'->next (a.put o.dst v') w')->o.wpIn (cL ro) 0 P a w next Q
theorem AOps.yield{i:Nat}{rest:NL}{o:Oper}{g:Fr}{v:Value}{H':AH}(ho:ops[i]?=some o)(hw:aM ops (bX f) o=true)(zj:H'.w0=H.w0)(hy:AYield P o f H v H')(hp:f.put o.dst v=some g)(h:AOps P ops rest Q g H'):AOps P ops (i::rest) Q f H:=by
 intro π ro φ a w hg hf hR;have xq:Region.wanted o (yielded ops a.tmps)=true:=by rw[fX (φ:=φ) (sv:=bX f) ops o (fun d _=>hf.2.2 d),hw]
 simp only[wpOpsIn,ho,xq,if_true];refine hy.2.2 π ro φ a w hg hf.eval hR _ _ fun φ' v' w' h1 h3 h2=>?_;refine mP (fun e a w k=>kR h1 k) rest _ _ ?_;rw[<-zj];exact h _ ro φ' _ w' (γ.mono h1 hg) ((hf.mono h1).put h3 hp) h2
theorem ACode.of_any{id:Nat}{g:Fr}{K:AH}(hm:P.follows .mixedOrders=true)(pr:∀(i:Nat) (o:Oper) (c:Call),ops[i]?=some o->o.op≠.defer c)
 (h:∀(π:Pins) φ a w,FRel φ f a->Rel φ H w->wpAny P .any ops (iZ φ H.w0 fun e f' H'=>e=.normal/\f'=g/\H'=K) ops.size (Array.replicate ops.size false) a w.drew)(hQ:Q .normal g K):ACode P (.region id ops true) Q f H:=by
 intro π ro φ a w hg hf hR;refine wpIn_mono (wpIn_region_any hm (vL ro pr ?_ _ _ _ _ (h π φ a w hf hR))) ?_
 ·rintro⟨a,w,φ',f',H',_,_,_,_,e,_⟩;cases e
 ·rintro e a' w' ⟨φ',f',H',h1,h2,h3,h4,rfl,rfl,rfl⟩;exact⟨φ',_,_,h1,h2,h3,h4,hQ⟩
end
end Go.AM
namespace Go.AM
open Go.RowKit
variable [σ:Sg]
def sQ(acc:NL):List Edge->Nat
 |[]=>0
 |e::r=>bif Region.binds .any e then(2^e.on ||| acc.getD e.on 0) ||| sQ acc r else sQ acc r
def aMj:OL2->List Nat->List Nat
 |[],acc=>acc
 |o::r,acc=>aMj r (acc++[sQ acc o.after.toList])
def bef(ops:OA):NL:=aMj ops.toList []
def dU(ops:OA)(S:Nat->Bool):Prop:=∀(i:Nat) (o:Oper),ops[i]?=some o->S i=true->∀e∈o.after,Region.binds .any e=true->S e.on=true
theorem aIj{acc:NL}{j:Nat}:∀(es:List Edge),(sQ acc es).testBit j=true->∃e∈es,Region.binds .any e=true/\(e.on=j\/(acc.getD e.on 0).testBit j=true):=by
 intro es
 induction es with
 |nil=>grind [sQ]
 |cons e es ih=>
  intro h;simp only[sQ] at h
  grind
theorem aFs{ops:OA}{S:Nat->Bool}(hS:dU ops S):∀(l:OL2) (acc:NL),(∀k,l[k]?=ops[acc.length+k]?)->
 (∀i j,((acc.getD i 0).testBit j=true)->S i=true->S j=true)->∀i j,(((aMj l acc).getD i 0).testBit j=true)->S i=true->S j=true:=by
 intro l
 induction l with
 |nil=>intro acc _ h;exact h
 |cons o r ih=>
  intro acc hl h;simp only[aMj];refine ih _ (fun k=>?_) (fun i j hb hi=>?_)
  ·have:=hl (k+1)
   grind
  ·by_cases qm:i<acc.length
   ·grind
   ·by_cases he:i=acc.length
    ·subst he;rw[List.getD_eq_getElem?_getD,List.getElem?_append_right (Nat.le_refl _)] at hb;simp at hb;have ho:ops[acc.length]?=some o:=by have:=hl 0;simpa using this.symm
     obtain⟨e,h1,h2,h3⟩:=aIj _ hb;have hon:=hS _ o ho hi e (by simpa using h1) h2
     grind
    grind
theorem eX{ops:OA}{S:Nat->Bool}(hS:dU ops S){i j:Nat}(hb:((bef ops).getD i 0).testBit j=true)(hi:S i=true):S j=true:=
 aFs hS ops.toList [] (fun k=>by simp) (fun i j h=>by simp at h) i j hb hi
def cE(ops:OA)(bs:NL):Bool:=
 (List.range ops.size).all fun j=>match ops[j]? with
  |some oj=>(oj.after.toList.all fun e=>!(Region.binds .any e)||Nat.blt e.on j)&&(match oj.op with|.select ..=>false|.defer _=>false|_=>true)&&
   (List.range j).all fun i=>match ops[i]? with
    |some oi=>oi.apart ops oj||(bs.getD j 0).testBit i
    |none=>true
  |none=>true
theorem cH{ops:OA}{bs:NL}(h:cE ops bs=true){i j:Nat}{oi oj:Oper}(yq:i<j)(hi:ops[i]?=some oi)(hj:ops[j]?=some oj):oi.apart ops oj=true\/(bs.getD j 0).testBit i=true:=by
 unfold cE at h
 grind
theorem fM{ops:OA}{bs:NL}(h:cE ops bs=true){j:Nat}{oj:Oper}(hj:ops[j]?=some oj){e:Edge}(he:e∈oj.after)(hb:Region.binds .any e=true):e.on<j:=by
 unfold cE at h;rw[List.all_eq_true] at h;have h1:=h j (List.mem_range.2 (alt_of_getElem? hj));simp only[hj,QB] at h1;have h2:=h1.1.1;rw[List.all_eq_true] at h2;have h3:=h2 e (by simpa using he)
 simp_all
theorem oM{ops:OA}{bs:NL}(h:cE ops bs=true):∀(j:Nat) (oj:Oper) (c:Call),ops[j]?=some oj->oj.op≠.defer c:=by
 intro j oj c hj;unfold cE at h
 grind
def lL(f0:Fr)(ops:OA)(V:Nat->Value)(S:Nat->Bool):Nat->Tmp->Value
 |0,d=>bX f0 d
 |k+1,d=>if S k=true/\(ops[k]?).bind (·.dst)=some d then V k else lL f0 ops V S k d
theorem xW{f0:Fr}{ops:OA}{V:Nat->Value}{S S':Nat->Bool}{d:Tmp}:∀n,(∀k,k<n->(ops[k]?).bind (·.dst)=some d->S k=S' k)->lL f0 ops V S n d=lL f0 ops V S' n d:=by
 intro n
 induction n with
 |zero=>intro _;rfl
 |succ n ih=>
  grind [lL,bind]
theorem nG{f0:Fr}{ops:OA}{V:Nat->Value}{S:Nat->Bool}{d:Tmp}{i:Nat}:∀n,i<=n->(∀k,i<=k->k<n->(ops[k]?).bind (·.dst)=some d->S k=false)->lL f0 ops V S n d=lL f0 ops V S i d:=by
 intro n
 induction n with
 |zero=>simp_all
 |succ n ih=>
  intro hi h;by_cases he:i=n+1
  ·rw[he]
  ·simp only[lL]
   grind
structure Trace0 (ops:OA) (F:Nat->Fr) (V:Nat->Value):Prop where
 order:cE ops (bef ops)=true
 put:∀(i:Nat) o,ops[i]?=some o->(F i).put o.dst (V i)=some (F (i+1))
structure Trace {P:PG} (E:Env P) (ops:OA) (F:Nat->Fr) (HH:Nat->AH) (V:Nat->Value) (M:Nat->Bool):Prop extends Trace0 ops F V where
 step:∀(i:Nat) o,ops[i]?=some o->
  (aM ops (bX (F i)) o=false/\V i=undef/\M i=false)\/
  (aM ops (bX (F i)) o=true/\M i=false/\∀t,t<=ops.size->(∀j,j<ops.size->M j=true->((bef ops).getD i 0).testBit j=true->j<t)->
   (∀j,j<ops.size->M j=true->((bef ops).getD j 0).testBit i=true->t<=j)->aop E (aK (F i)) o.op (HH t)=some (V i,HH t))\/
  (aM ops (bX (F i)) o=true/\M i=true/\aop E (aK (F i)) o.op (HH i)=some (V i,HH (i+1)))\/
  (aM ops (bX (F i)) o=true/\M i=true/\∃g args,bM E (aK (F i)) o.op=some (g,args)/\ACalls P g args (HH i) fun v H'=>v=V i/\H'=HH (i+1))
 still:∀i,i<ops.size->M i=false->HH (i+1)=HH i
 mains:∀i j,i<j->j<ops.size->M i=true->M j=true->((bef ops).getD j 0).testBit i=true
section
variable {P:PG}{E:Env P}{ops:OA}{F:Nat->Fr}{HH:Nat->AH}{V:Nat->Value}{M:Nat->Bool}
theorem Trace0.slots(T:Trace0 ops F V)(d:Tmp):∀k,k<=ops.size->bX (F k) d=lL (F 0) ops V (fun _=>true) k d:=by
 intro k
 induction k with
 |zero=>intro _;rfl
 |succ k ih=>
  intro hk;have qm:k<ops.size:=by omega
  have ho:ops[k]?=some ops[k]:=Array.getElem?_eq_getElem qm;have hp:=T.put k _ ho;simp only[lL,ho,Option.bind_some];unfold Fr.put at hp;cases hd:ops[k].dst with
  |none=>
   grind
  |some d'=>
   rw[hd] at hp;simp only at hp;rcases aY hp with hp|hp
   ·simp only[Option.some.injEq] at hp;rw[<-hp];simp only[bX,aK,Tr.get_set];by_cases e:d=d'
    ·subst e;simp
    ·rw[if_neg e,if_neg (fun h=>e (by simpa using h.2.symm))];exact ih (by omega)
   ·cases hp
theorem Trace0.size(T:Trace0 ops F V):∀k,k<=ops.size->(F k).n=(F 0).n:=by
 intro k
 induction k with
 |zero=>intro _;rfl
 |succ k ih=>
  intro hk;have ho:ops[k]?=some ops[k]:=Array.getElem?_eq_getElem (by omega);have hp:=T.put k _ ho;unfold Fr.put at hp
  grind
theorem Trace0.dst_lt(T:Trace0 ops F V){i:Nat}{o:Oper}(ho:ops[i]?=some o){d:Tmp}(hd:o.dst=some d):d<(F 0).n:=by
 have hp:=T.put i o ho;rw[hd] at hp;unfold Fr.put at hp;simp only at hp;have hi:=alt_of_getElem? ho;cases qf:Nat.ble (d+1) (F i).n with
 |false=>simp_all
 |true=>have:=QL qf;rw[T.size i (by omega)] at this;exact this
theorem mK(hw:∀i,i<ops.size->(HH (i+1)).w0=(HH i).w0):∀t,t<=ops.size->(HH t).w0=(HH 0).w0:=by
 intro t
 induction t with
 |zero=>intro _;rfl
 |succ t ih=>grind
theorem mE{listed:Array Bool}{i j:Nat}(hi:i<listed.size):(listed.setIfInBounds i true).getD j false=if j=i then true else listed.getD j false:=by
 simp only[Array.getD_eq_getD_getElem?,Array.getElem?_setIfInBounds]
 grind
theorem Trace0.sees(T:Trace0 ops F V){S:Nat->Bool}(hS:dU ops S){i:Nat}(pu:dU ops (fun j=>if j=i then true else S j)){o:Oper}(ho:ops[i]?=some o)(hi:S i=false){d:Tmp}(hd:d∈o.looksAt ops):lL (F 0) ops V S ops.size d=bX (F i) d:=by
 have qm:=alt_of_getElem? ho;rw[nG (i:=i) ops.size (by omega) ?_,T.slots d i (by omega)]
 ·refine xW i fun k hk vt=>?_;have yf:ops[k]?=some ops[k]:=Array.getElem?_eq_getElem (by omega);rw[yf] at vt;simp only[Option.bind_some] at vt;rcases cH T.order hk yf ho with wz|hb
  ·grind [absurd,Oper.apart_spec]
  ·have:=eX pu hb (by simp)
   grind
 ·intro k hk rk vt;have yf:ops[k]?=some ops[k]:=Array.getElem?_eq_getElem rk;rw[yf] at vt;simp only[Option.bind_some] at vt;by_cases e:k=i
  ·subst e;exact hi
  ·cases de:S k with
   |false=>rfl
   |true=>
    rcases cH T.order (show i<k by omega) ho yf with wz|hb
    ·grind [absurd,Oper.apart_spec]
    grind [eX]
theorem Trace0.sees_dst(T:Trace0 ops F V){S:Nat->Bool}(hS:dU ops S){i:Nat}{o:Oper}(ho:ops[i]?=some o)(hi:S i=false)(d:Tmp):
 lL (F 0) ops V (fun j=>if j=i then true else S j) ops.size d=if o.dst=some d then V i else lL (F 0) ops V S ops.size d:=by
 have qm:=alt_of_getElem? ho;by_cases hd:o.dst=some d
 ·rw[if_pos hd,nG (i:=i+1) ops.size (by omega) ?_]
  ·simp[lL,ho,hd]
  ·intro k hk rk vt;have yf:ops[k]?=some ops[k]:=Array.getElem?_eq_getElem rk;rw[yf] at vt;simp only[Option.bind_some] at vt;rw[if_neg (by omega)];cases de:S k with
   |false=>rfl
   |true=>
    rcases cH T.order (show i<k by omega) ho yf with wz|hb
    ·grind [absurd,Oper.apart_spec]
    grind [eX]
 ·rw[if_neg hd];refine xW ops.size fun k hk vt=>?_
  grind
theorem iP{listed:Array Bool}(hS:dU ops (fun i=>listed.getD i false)){i:Nat}(hr:i∈Region.ready .any ops listed):dU ops (fun j=>if j=i then true else listed.getD j false):=by
 intro k o ho hk e he hb;show(if e.on=i then true else listed.getD e.on false)=true;by_cases av:e.on=i
 ·rw[if_pos av]
 ·rw[if_neg av];simp only at hk;by_cases pc:k=i
  ·subst pc;have sf:=hr;unfold Region.ready at sf;rw[List.mem_filter] at sf;obtain⟨_,h2⟩:=sf;simp only[QB,ho,Option.map_some,Option.getD_some] at h2
   grind [Array.all_eq_true']
  ·rw[if_neg pc] at hk;exact hS k o ho hk e he hb
end
end Go.AM
namespace Go.AM
open Go.RowKit
variable [σ:Sg]
def bAc:Value->Value->Bool
 |.bool a,.bool b=>a==b
 |.int k a,.int k' b=>decide (k=k')&&a==b
 |.string a,.string b=>a.data.toList==b.data.toList
 |.pointer a,.pointer b=>decide (a=b)
 |.slice a l c,.slice b l' c'=>decide (a=b)&&(Nat.beq l l'&&Nat.beq c c')
 |.map a,.map b=>decide (a=b)
 |.chan a,.chan b=>decide (a=b)
 |.nilIface,.nilIface=>true
 |.nilFunc,.nilFunc=>true
 |_,_=>false
def aIc:VL->List Value->Bool
 |[],[]=>true
 |a::r,b::s=>bAc a b&&aIc r s
 |_,_=>false
def aYp:Value->Value->Bool
 |.agg ⟨xs⟩,.agg ⟨ys⟩=>aIc xs ys
 |a,b=>bAc a b
def aNn:VL->List Value->Bool
 |[],[]=>true
 |a::r,b::s=>aYp a b&&aNn r s
 |_,_=>false
def veq:Value->Value->Bool
 |.tuple ⟨xs⟩,.tuple ⟨ys⟩=>aNn xs ys
 |a,b=>aYp a b
theorem aLw{a b:Value}(h:bAc a b=true):a=b:=by
 unfold bAc at h;split at h
 ·rw[beq_iff_eq] at h;rw[h]
 ·simp only[QB,decide_eq_true_eq,beq_iff_eq] at h;rw[h.1,h.2]
 ·rw[beq_iff_eq] at h;congr 1;apply ByteArray.ext;rw[<-Array.toList_inj];exact h
 ·simp only[decide_eq_true_eq] at h;rw[h]
 ·simp only[QB,decide_eq_true_eq] at h;rw[h.1,QN h.2.1,QN h.2.2]
 ·simp only[decide_eq_true_eq] at h;rw[h]
 ·simp only[decide_eq_true_eq] at h;rw[h]
 ·rfl
 ·rfl
 ·cases h
theorem aBr:∀{a b:VL},aIc a b=true->a=b
 |[],[],_=>rfl
 |[],_::_,h=>by simp[aIc] at h
 |_::_,[],h=>by simp[aIc] at h
 |a::r,b::s,h=>by
  simp only[aIc,QB] at h;rw[aLw h.1,aBr h.2]
theorem aKr{a b:Value}(h:aYp a b=true):a=b:=by
 unfold aYp at h;split at h
 ·rw[aBr h]
 ·exact aLw h
theorem aKz:∀{a b:VL},aNn a b=true->a=b
 |[],[],_=>rfl
 |[],_::_,h=>by simp[aNn] at h
 |_::_,[],h=>by simp[aNn] at h
 |a::r,b::s,h=>by
  simp only[aNn,QB] at h;rw[aKr h.1,aKz h.2]
theorem aVz{a b:Value}(h:veq a b=true):a=b:=by
 unfold veq at h;split at h
 ·rw[aKz h]
 ·exact aKr h
section
variable {P:PG}(E:Env P)
def bY(op:Op):Bool:=
 match op with
 |.move _|.assign _|.pick ..|.build ..|.load ..|.nilCheck _|.binOp ..|.unOp ..|.makeFunc ..|.slice ..|.fieldAddr ..|.field ..|.indexAddr ..|.index ..|.lookup ..|.extract ..=>true
 |.convert _ d _=>(match E.und d with|some (.int _)=>true|some .string=>true|_=>false)
 |.call c=>(match c.callee with|.builtin .len|.builtin .cap|.builtin .min|.builtin .max=>true|_=>false)
 |_=>false
def dS(op:Op):Bool:=
 match op with
 |.move _|.assign _|.pick ..|.build ..|.nilCheck _|.binOp ..|.unOp ..|.makeFunc ..|.fieldAddr ..|.field ..|.indexAddr ..|.index ..|.extract ..=>true
 |.convert _ d _=>(match E.und d with|some (.int _)=>true|_=>false)
 |.call c=>(match c.callee with
  |.builtin .min|.builtin .max=>true
  |.builtin .len=>(match c.argTypes.toList with
   |[t]=>(match E.und t with|some (.map _ _)=>false|_=>true)
   |_=>false)
  |_=>false)
 |_=>false
theorem lF{ρ:Operand->Value}{op:Op}{H H':AH}{v:Value}(hq:bY E op=true)(h:aop E ρ op H=some (v,H')):H'=H:=by
 cases op<;>simp only[bY] at hq<;>(try (cases hq;done))<;>simp only[aop] at h
 case move=>cases h;rfl
 case assign=>cases h;rfl
 case pick=>split at h<;>cases h<;>rfl
 case load=>split at h
            ·exact(aD h).2
            ·cases h
 case nilCheck=>split at h<;>cases h<;>rfl
 case makeFunc fn a b=>
  cases e:fnY fn with
  |true=>rw[e] at h;cases h
  |false=>rw[e,QF] at h;cases h;rfl
 case convert s d x=>
  unfold jE at h;split at hq
  ·rename_i k hd;split at h
   ·cases h;rfl
   ·rename_i ql _;rw[hd] at ql;cases ql
   ·rename_i ql _;rw[hd] at ql;cases ql
   ·rename_i ql _;rw[hd] at ql;cases ql
   ·rename_i ql _;rw[hd] at ql;cases ql
   ·first|(rename_i ql _;rw[hd] at ql;cases ql;done)|(rename_i ql;rw[hd] at ql;cases ql;done)
   ·first|(rename_i ql _;rw[hd] at ql;cases ql;done)|(rename_i ql;rw[hd] at ql;cases ql;done)
   ·cases h
  ·rename_i hd;split at h
   ·cases h;rfl
   ·cases h;rfl
   ·rename_i ql _;rw[hd] at ql;cases ql
   ·split at h
    ·split at h
     ·rcases aY h with h|h
      ·cases h
      ·cases h;rfl
     ·split at h
      ·split at h
       ·cases h;rfl
       ·cases h
      ·cases h
    ·cases h
   ·rename_i ql _;rw[hd] at ql;cases ql
   ·first|(rename_i ql _;rw[hd] at ql;cases ql;done)|(rename_i ql;rw[hd] at ql;cases ql;done)
   ·first|(rename_i ql _;rw[hd] at ql;cases ql;done)|(rename_i ql;rw[hd] at ql;cases ql;done)
   ·cases h
  ·cases hq
 case call c=>
  split at hq
  ·rename_i hc;simp only[hc] at h;split at h
   ·exact(aD h).2
   ·cases h
  ·rename_i hc;simp only[hc] at h;split at h
   ·exact(aD h).2
   ·cases h
  ·rename_i hc;simp only[hc] at h;split at h
   ·exact(aD h).2
   ·cases h
  ·rename_i hc;simp only[hc] at h;split at h
   ·exact(aD h).2
   ·cases h
  ·cases hq
 all_goals exact(aD h).2
theorem jK{x:Option Value}{H H2:AH}{v:Value}(h:aL x H=some (v,H)):aL x H2=some (v,H2):=by
 obtain⟨rfl,_⟩:=aD h;rfl
theorem vH{ρ:Operand->Value}{op:Op}{H:AH}{v:Value}(hq:dS E op=true)(h:aop E ρ op H=some (v,H))(H2:AH):aop E ρ op H2=some (v,H2):=by
 cases op<;>simp only[dS] at hq<;>(try (cases hq;done))<;>simp only[aop] at h ⊢
 case move=>cases h;rfl
 case assign=>cases h;rfl
 case pick=>split at h<;>cases h<;>rfl
 case nilCheck=>split at h<;>cases h<;>rfl
 case makeFunc fn a b=>
  cases e:fnY fn with
  |true=>rw[e] at h;cases h
  |false=>rw[e,QF] at h;rw[QF];cases h;rfl
 case convert s d x=>
  unfold jE at h ⊢;split at hq
  ·rename_i k hd;split at h
   ·cases h;rfl
   ·rename_i ql _;rw[hd] at ql;cases ql
   ·rename_i ql _;rw[hd] at ql;cases ql
   ·rename_i ql _;rw[hd] at ql;cases ql
   ·rename_i ql _;rw[hd] at ql;cases ql
   ·first|(rename_i ql _;rw[hd] at ql;cases ql;done)|(rename_i ql;rw[hd] at ql;cases ql;done)
   ·first|(rename_i ql _;rw[hd] at ql;cases ql;done)|(rename_i ql;rw[hd] at ql;cases ql;done)
   ·cases h
  ·cases hq
 case call c=>
  split at hq
  ·rename_i hc;simp only[hc] at h ⊢;split at h
   ·exact jK h
   ·cases h
  ·rename_i hc;simp only[hc] at h ⊢;split at h
   ·exact jK h
   ·cases h
  ·rename_i hc;simp only[hc] at h ⊢;split at hq
   ·rename_i t ht;split at h
    ·rename_i x t' ha pv;rw[ht] at pv;cases pv;split at hq
     ·cases hq
     ·rename_i gq;obtain⟨h1,_⟩:=aD h;have:aGi E t (ρ x) H2=aGi E t (ρ x) H:=by
       unfold aGi;split
       ·rename_i hu;rfl
       ·rfl
       ·rfl
       ·rename_i hu _;exact absurd hu (gq _ _)
       ·rename_i hu _;exact absurd hu (gq _ _)
       ·rfl
      rw[this];exact jK h
    ·cases h
   ·cases hq
  ·cases hq
 all_goals exact jK h
abbrev fW:=FuncId->List Value->AH->Option (Value×AH)
def jV(P:PG)(call:fW):Prop:=∀g args H v H',call g args H=some (v,H')->H'.w0=H.w0/\ACalls P g args H fun u K=>u=v/\K=H'
def sY(call:fW)(ops:OA)(o:Oper)(f:Fr)(H:AH):Option (Value×AH×Bool):=
 bif aM ops (bX f) o then
  bif bY E o.op then(match aop E (aK f) o.op H with
   |some (v,_)=>some (v,H,false)
   |none=>none)
  else(match bM E (aK f) o.op with
   |some (g,args)=>(match call g args H with
    |some (v,H')=>some (v,H',true)
    |none=>none)
   |none=>(match aop E (aK f) o.op H with
    |some (v,H')=>some (v,H',true)
    |none=>none))
 else some (undef,H,false)
def jI(call:fW)(ops:OA):OL2->Fr->AH->Option (Fr×AH)
 |[],f,H=>some (f,H)
 |o::r,f,H=>(match sY E call ops o f H with
  |some (v,H',_)=>(match f.put o.dst v with
   |some g=>jI call ops r g H'
   |none=>none)
  |none=>none)
abbrev fU:=Fr×AH×Value×Bool
def hB(call:fW)(ops:OA):OL2->Fr->AH->Option (List fU×Fr×AH)
 |[],f,H=>some ([],f,H)
 |o::r,f,H=>(match sY E call ops o f H with
  |some (v,H',m)=>(match f.put o.dst v with
   |some g=>(match hB call ops r g H' with
    |some (l,x)=>some ((f,H,v,m)::l,x)
    |none=>none)
   |none=>none)
  |none=>none)
def eJ:Nat->List fU->List Nat
 |_,[]=>[]
 |i,(_,_,_,m)::r=>bif m then i::eJ (i+1) r else eJ (i+1) r
def dO(bs:NL):NL->Bool
 |[]=>true
 |i::r=>(r.all fun j=>(bs.getD j 0).testBit i)&&dO bs r
def lG(l:List fU)(last:AH):NL->List (Nat×AH)
 |[]=>[]
 |m::r=>(m+1,match l[m+1]? with
  |some s=>s.2.1
  |none=>last)::lG l last r
def aCp(bs ms:NL)(i:Nat)(o:Oper)(f:Fr)(v:Value)(t:Nat)(H:AH):Bool:=
 (ms.any fun j=>(bs.getD i 0).testBit j&&!(Nat.blt j t))||((ms.any fun j=>(bs.getD j 0).testBit i&&Nat.blt j t)||
  match aop E (aK f) o.op H with
  |some (u,_)=>veq u v
  |none=>false)
def nV(ops:OA)(bs ms:NL)(hs:List (Nat×AH)):Nat->List fU->Bool
 |_,[]=>true
 |i,(f,_,v,m)::r=>
  (match ops[i]? with
  |some o=>m||(dS E o.op||(!(aM ops (bX f) o)||hs.all fun th=>aCp E bs ms i o f v th.1 th.2))
  |none=>true)&&nV ops bs ms hs (i+1) r
theorem cU{call:fW}{ops:OA}{o:Oper}{f:Fr}{H H':AH}{v:Value}{m:Bool}(h:sY E call ops o f H=some (v,H',m)):
 (aM ops (bX f) o=false/\v=undef/\m=false/\H'=H)\/
 (aM ops (bX f) o=true/\m=false/\H'=H/\bY E o.op=true/\aop E (aK f) o.op H=some (v,H))\/
 (aM ops (bX f) o=true/\m=true/\aop E (aK f) o.op H=some (v,H'))\/
 (aM ops (bX f) o=true/\m=true/\∃g args,bM E (aK f) o.op=some (g,args)/\call g args H=some (v,H')):=by
 unfold sY at h;cases hw:aM ops (bX f) o with
 |false=>rw[hw,QF] at h;cases h;exact .inl ⟨rfl,rfl,rfl,rfl⟩
 |true=>
  rw[hw,QT] at h;cases hq:bY E o.op with
  |true=>
   rw[hq,QT] at h;split at h
   ·rename_i u K qg;have hK:=lF E hq qg;cases h;rw[hK] at qg;exact .inr (.inl ⟨rfl,rfl,rfl,rfl,qg⟩)
   ·cases h
  |false=>
   rw[hq,QF] at h;split at h
   ·rename_i g args hc;split at h
    ·rename_i u K qh;cases h;exact .inr (.inr (.inr ⟨rfl,rfl,g,args,hc,qh⟩))
    ·cases h
   ·split at h
    ·rename_i u K qg;cases h;exact .inr (.inr (.inl ⟨rfl,rfl,qg⟩))
    ·cases h
theorem aGq{call:fW}(qh:jV P call){ops:OA}{Q:AQ}{g:Fr}{K:AH}(hQ:Q .normal g K):∀(l:OL2) (k:Nat) (f:Fr) (H:AH),(∀j,l[j]?=ops[k+j]?)->jI E call ops l f H=some (g,K)->
 AOps P ops (List.range' k l.length) Q f H:=by
 intro l
 induction l with
 |nil=>intro k f H _ h;simp[jI] at h;obtain⟨rfl,rfl⟩:=h;exact AOps.nil hQ
 |cons o r ih=>
  intro k f H hl h;simp only[jI] at h;split at h
  ·rename_i v H' m hs;split at h
   ·rename_i f' hp;have ho:ops[k]?=some o:=by have:=hl 0;simpa using this.symm
    have hr:=ih (k+1) f' H' (fun j=>by have:=hl (j+1);simp only[List.getElem?_cons_succ] at this;rw[this];congr 1;omega) h;rw[List.length_cons,List.range'_succ];rcases cU E hs with⟨h1,rfl,_,rfl⟩|⟨h1,_,rfl,_,h2⟩|⟨h1,_,h2⟩|⟨h1,_,c,args,h2,h3⟩
    ·exact AOps.skip ho h1 hp hr
    ·exact AOps.op E ho h1 h2 hp hr
    ·exact AOps.op E ho h1 h2 hp hr
    ·refine AOps.call E ho h1 h2 ((qh _ _ _ _ _ h3).2.mono ?_);rintro u K' ⟨rfl,rfl⟩;exact⟨f',hp,hr⟩
   ·cases h
  ·cases h
theorem aMz{call:fW}{ops:OA}:∀(l:OL2) (f:Fr) (H:AH) (L:List fU) (g:Fr) (K:AH),hB E call ops l f H=some (L,g,K)->
 L.length=l.length/\∀(i:Nat) (o:Oper) (s:fU),l[i]?=some o->L[i]?=some s->∃s',(L++[(g,K,undef,false)])[i+1]?=some s'/\sY E call ops o s.1 s.2.1=some (s.2.2.1,s'.2.1,s.2.2.2)/\s.1.put o.dst s.2.2.1=some s'.1:=by
 intro l
 induction l with
 |nil=>intro f H L g K h;simp[hB] at h;obtain⟨rfl,rfl,rfl⟩:=h;exact⟨rfl,fun i o s h=>by simp at h⟩
 |cons o r ih=>
  intro f H L g K h;simp only[hB] at h;split at h
  ·rename_i v H' m hs;split at h
   ·rename_i f' hp;split at h
    ·rename_i L' x hr;obtain⟨g',K'⟩:=x;cases h;obtain⟨h1,h2⟩:=ih f' H' L' _ _ hr;have ko:∃s',(L'++[(g,K,undef,false)])[0]?=some s'/\s'.1=f'/\s'.2.1=H':=by
      cases r with
      |nil=>simp[hB] at hr;obtain⟨rfl,rfl,rfl⟩:=hr;exact⟨_,rfl,rfl,rfl⟩
      |cons o2 r2=>
       simp only[hB] at hr;split at hr
       ·split at hr
        ·split at hr
         ·cases hr;exact⟨_,rfl,rfl,rfl⟩
         ·cases hr
        ·cases hr
       ·cases hr
     refine⟨by simp[h1],fun i o' s hi wq=>?_⟩;cases i with
     |zero=>
      simp at hi wq;subst hi;subst wq;obtain⟨s',q1,q2,q3⟩:=ko;exact⟨s',by simpa using q1,by rw[q3];exact hs,by rw[q2];exact hp⟩
     |succ i=>
      simp at hi wq;obtain⟨s2,q1,q2⟩:=h2 i o' s hi wq;exact⟨s2,by simpa using q1,q2⟩
    ·cases h
   ·cases h
  ·cases h
theorem jN:∀(L:List fU) (k j:Nat),j∈eJ k L↔∃i s,L[i]?=some s/\s.2.2.2=true/\j=k+i:=by
 intro L
 induction L with
 |nil=>intro k j;simp[eJ]
 |cons s L ih=>
  intro k j;obtain⟨a,b,c,m⟩:=s;simp only[eJ];cases m with
  |true=>
   rw[QT,List.mem_cons,ih];constructor
   ·rintro(rfl|⟨i,s,h1,h2,rfl⟩)
    ·exact⟨0,_,rfl,rfl,rfl⟩
    ·exact⟨i+1,s,by simpa using h1,h2,by omega⟩
   ·rintro⟨i,s,h1,h2,rfl⟩;cases i with
    |zero=>exact .inl rfl
    |succ i=>exact .inr ⟨i,s,by simpa using h1,h2,by omega⟩
  |false=>
   rw[QF,ih];constructor
   ·rintro⟨i,s,h1,h2,rfl⟩;exact⟨i+1,s,by simpa using h1,h2,by omega⟩
   ·rintro⟨i,s,h1,h2,rfl⟩;cases i with
    |zero=>simp at h1;subst h1;cases h2
    |succ i=>exact⟨i,s,by simpa using h1,h2,by omega⟩
theorem xS:∀(L:List fU) (k:Nat),(eJ k L).Pairwise (·<·):=by
 intro L
 induction L with
 |nil=>intro k;exact List.Pairwise.nil
 |cons s L ih=>
  intro k;obtain⟨a,b,c,m⟩:=s;simp only[eJ];cases m with
  |true=>
   rw[QT];refine List.Pairwise.cons (fun j hj=>?_) (ih (k+1));obtain⟨i,_,_,_,rfl⟩:=(jN L (k+1) j).1 hj;omega
  |false=>rw[QF];exact ih (k+1)
theorem aDw{bs:NL}:∀{ms:NL},dO bs ms=true->ms.Pairwise (·<·)->∀i j,i∈ms->j∈ms->i<j->(bs.getD j 0).testBit i=true:=by
 intro ms
 induction ms with
 |nil=>intro _ _ i j h;cases h
 |cons m r ih=>
  intro h hs i j hi hj yq;simp only[dO,QB,List.all_eq_true] at h;rw[List.pairwise_cons] at hs;rcases List.mem_cons.1 hi with rfl|v5
  ·rcases List.mem_cons.1 hj with rfl|df
   ·omega
   ·exact h.1 j df
  ·rcases List.mem_cons.1 hj with rfl|df
   ·have:=hs.1 i v5;omega
   ·exact ih h.2 hs.2 i j v5 df yq
theorem aIp{ops:OA}{bs ms:NL}{hs:List (Nat×AH)}:∀(L:List fU) (k:Nat),nV E ops bs ms hs k L=true->∀(i:Nat) (s:fU) (o:Oper),L[i]?=some s->ops[k+i]?=some o->s.2.2.2=false->dS E o.op=false->
 aM ops (bX s.1) o=true->∀th∈hs,aCp E bs ms (k+i) o s.1 s.2.2.1 th.1 th.2=true:=by
 intro L
 induction L with
 |nil=>intro k _ i s o h;simp at h
 |cons x L ih=>
  intro k h i s o hi ho hm hp hw th aw;obtain⟨f,K,v,m⟩:=x;simp only[nV,QB] at h;cases i with
  |zero=>
   simp at hi;subst hi;simp only at hm hw;subst hm;rw[Nat.add_zero] at ho ⊢;have h1:=h.1;simp only[ho,hp,hw,Bool.false_or,Bool.not_true,List.all_eq_true] at h1;exact h1 th aw
  |succ i=>
   have:=ih (k+1) h.2 i s o (by simpa using hi) (by rw[<-ho];congr 1;omega) hm hp hw th aw
   rwa [show k+(i+1)=k+1+i by omega]
theorem aEy{L:List fU}{last:AH}:∀{ms:NL} {m:Nat},m∈ms->(m+1,match L[m+1]? with|some s=>s.2.1|none=>last)∈lG L last ms:=by
 intro ms
 induction ms with
 |nil=>intro m h;cases h
 |cons x r ih=>
  intro m h;simp only[lG];rcases List.mem_cons.1 h with rfl|h
  ·exact List.mem_cons_self ..
  ·exact List.mem_cons_of_mem _ (ih h)
end
end Go.AM
