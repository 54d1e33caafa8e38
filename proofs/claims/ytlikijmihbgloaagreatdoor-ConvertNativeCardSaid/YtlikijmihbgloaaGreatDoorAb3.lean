/-
  An abstract machine that runs a program of the given form, and its soundness, part 3.
-/
import Derived.Test.YtlikijmihbgloaaGreatDoorAb2
import Derived.Laws.Externs
import Derived.Laws.BytesString
import Derived.Lib.UnsafeStr
import Derived.OrdersIn
import Derived.ControlIn
set_option linter.unusedVariables false
set_option linter.unusedSimpArgs false
set_option linter.unusedSectionVars false
noncomputable section
namespace Go.AM
open Go.RowKit
variable [σ:Sg]
section
variable {P:PG}(E:Env P)
def aun(op:UnOp)(x:Value):Option Value:=
 match op,x with
 |.neg,.int k n=>some (.int k (k.wrap (0 - n)))
 |.xor,.int k n=>some (.int k (bits .xor k (if k.signed then -1 else k.max) n))
 |.not,.bool b=>some (.bool !b)
 |_,_=>none
theorem bFa{φ:PL}{op:UnOp}{x x' v:Value}(hx:VR φ x x')(h:aun op x=some v)(w:World):∃v',VR φ v v'/\(Op.unary op x').run P w=.ok v' w:=by
 unfold aun at h;split at h
 ·cases h;cases hx;exact⟨_,.int _ _,by simp[Op.unary,Op.intArith]⟩
 ·cases h;cases hx;exact⟨_,.int _ _,by simp only[Op.unary,intBits_xor];rfl⟩
 ·cases h;cases hx;exact⟨_,.bool _,by simp[Op.unary]⟩
 ·cases h
def aVh{P:PG}(E:Env P)(op:UnOp)(x:Value):Option Value:=
 match aun op x with
 |some v=>some v
 |none=>E.ou op x
theorem aLk{P:PG}(E:Env P){φ:PL}{op:UnOp}{x x' v:Value}(hx:VR φ x x')(h:aVh E op x=some v)(w:World):∃v',VR φ v v'/\(Op.unary op x').run P w=.ok v' w:=by
 unfold aVh at h;split at h
 ·rename_i u hu;cases h;exact bFa hx hu w
 ·exact E.ou_ok φ op _ _ _ h hx w
def jQ:VL->Option BL
 |[]=>some []
 |.int .u8 n::r=>(match jQ r with
  |some l=>some (UInt8.ofNat n.toNat::l)
  |none=>none)
 |_=>none
theorem pH{φ:PL}:∀{l l':VL} {bs:BL},VRs φ l l'->jQ l=some bs->∃ns:List Int,l'=ns.map (Value.int .u8)/\bs=ns.map fun n=>UInt8.ofNat n.toNat
 |[],[],bs,_,h=>by simp[jQ] at h;subst h;exact⟨[],rfl,rfl⟩
 |[],_::_,_,h,_=>by have:=h.1;simp at this
 |_::_,[],_,h,_=>by have:=h.1;simp at this
 |v::l,v'::l',bs,hr,h=>by
  unfold jQ at h;split at h
  ·rename_i e;cases e
  ·rename_i n r e;cases e;split at h
   ·rename_i bs' hb;cases h;obtain⟨ns,h1,h2⟩:=pH hr.tail hb;have:=hr.head;cases this;exact⟨n::ns,by simp[h1],by simp[h2]⟩
   ·cases h
  ·cases h
theorem yR(ns:List Int):∀s:BA,ns.foldl (fun r n=>r.push (UInt8.ofNat n.toNat)) s=⟨⟨s.data.toList++ns.map fun n=>UInt8.ofNat n.toNat⟩⟩:=by
 induction ns with
 |nil=>intro s;simp
 |cons n ns ih=>
  intro s;rw[List.foldl_cons,ih];congr 2;show((s.data.push _).toList++_)=_;simp
def kK(src dst:TY)(x:Value)(H:AH):Option (Value×AH):=
 match E.und src,E.und dst,x with
 |some _,some (.int k),.int _ n=>some (.int k (k.wrap n),H)
 |some _,some .string,.string s=>some (.string s,H)
 |some .string,some (.slice e),.string s=>(match E.und e with
  |some (.int .u8)=>some (cH H s.data.toList.length s.data.toList.length,dI H (.cells (s.data.toList.map fun b=>.int .u8 b.toNat) 1 false))
  |_=>none)
 |some (.slice e),some .string,.slice base l cc=>(match E.und e with
  |some (.int .u8)=>(match base with
   |none=>bif Nat.beq cc 1 then none else some (.string ⟨⟨[]⟩⟩,H)
   |some a=>(match aloads H a l with
    |some cs=>(match jQ cs with
     |some bs=>some (.string ⟨⟨bs⟩⟩,H)
     |none=>none)
    |none=>none))
  |_=>none)
 |some (.slice _),some (.slice e),.slice (some a) l c=>bif Nat.beq src dst&&(Nat.ble 1 c&&!(Nat.beq (a.block%2) 0)) then(match E.und e,H.tr.get (a.block / 2) with
  |some (.int .u8),some (.cells _ _ _)=>some (.slice (some a) l c,H)
  |_,_=>none) else none
 |some (.pointer t),some .unsafePointer,.pointer (some a)=>bif Nat.beq (a.block%2) 0 then none else(match E.inf t,H.tr.get (a.block / 2) with
  |some i,some (.cells cs _ _)=>bif Nat.beq i.size 0 then none else bif Nat.blt a.off cs.length then some (.pointer (some a),H) else none
  |_,_=>none)
 |some .unsafePointer,some (.pointer u),.pointer (some a)=>bif Nat.beq (a.block%2) 0 then none else(match E.inf u,H.tr.get (a.block / 2) with
  |some i,some (.cells cs sz true)=>bif Nat.beq i.size 0 then none else bif Nat.beq sz (u+bB)&&(Nat.blt 5 u&&(Nat.beq a.off 0&&Nat.beq cs.length i.size)) then some (.pointer (some a),H) else none
  |_,_=>none)
 |_,_,_=>none
theorem aJq{P:PG}{e:TY}(hc:P.cellsOf e≠0):liesAt P P.depth e 1 0 e 1=true:=by
 have hd:P.depth=(2*(P.types.size+Made.depth)+1)+1:=rfl;rw[hd];simp only[liesAt,Bool.or_eq_true];left;rw[hd];simp[rowAt,hc,sameLayout]
theorem lE{P:PG}{w:World}{b:Nat}{C:Array Value}{e:TY}{f:Nat×Nat}(h:w.heap[b]?=some (.cells C e f)):(viewAt b).run P w=.ok none w:=by
 simp[viewAt,run_shape,World.shape?,h]
theorem rF{P:PG}{w:World}{b:Nat}{C:Array Value}{e:TY}{f:Nat×Nat}(h:w.heap[b]?=some (.cells C e f)):(cellsIn b).run P w=.ok (some C.size) w:=by
 simp[cellsIn,run_shape,World.shape?,h]
theorem Rel.marked [Pins]{φ:PL}{H:AH}{w:World}(R:Rel φ H w){i:Nat}{cs:VL}{sz:Nat}{ex:Bool}(hg:H.tr.get i=some (.cells cs sz ex)){p:Place}(hp:φ[i]?=some p):
 ∃e n,w.shape? p.blk=some (e,n)/\Rel φ H (w.freeze ⟨p.blk,n,none⟩ 1):=by
 obtain⟨q,hq,hN,hO⟩:=R.obj _ _ hg;rw[hp] at hq;cases hq;obtain⟨C,e,lo,hi,hx,hf,u7⟩:=hO;have zt:=alt_of_getElem? hx;refine⟨e,C.size,by simp only[World.shape?,hx],?_⟩;have u9:∀k,(w.freeze ⟨p.blk,C.size,none⟩ 1).heap[k]?=if k=p.blk then some (.cells C e (if lo==hi then(C.size,C.size+1) else(min lo C.size,max hi (C.size+1)))) else w.heap[k]?:=by
  intro k;unfold World.freeze;rw[if_neg (by omega)];simp only[Array.getElem?_modify];by_cases hk:p.blk=k
  ·subst hk;rw[if_pos rfl,if_pos rfl,hx];rfl
  ·rw[if_neg hk,if_neg (fun h=>hk h.symm)]
 have yq:(w.freeze ⟨p.blk,C.size,none⟩ 1).heap.size=w.heap.size:=by
  unfold World.freeze;rw[if_neg (by omega)];simp
 have ox:(w.freeze ⟨p.blk,C.size,none⟩ 1).os=w.os/\(w.freeze ⟨p.blk,C.size,none⟩ 1).tape=w.tape/\(w.freeze ⟨p.blk,C.size,none⟩ 1).output=w.output:=by
  unfold World.freeze;rw[if_neg (by omega)];exact⟨rfl,rfl,rfl⟩
 refine⟨⟨ox.1.trans R.below.os,ox.2.1.trans R.below.tape,ox.2.2.trans R.below.output,by rw[yq];exact R.below.size,fun k hk=>?_⟩,R.len,fun j o' hj=>?_,R.inj,fun b x hb=>?_,fun i p hp=>by rw[yq];exact R.lt i p hp,R.ro⟩
 ·have uo:k<H.w0.heap.size:=hk;rw[u9,if_neg (by omega)];exact R.below.block k hk
 ·obtain⟨q,hq,sx,sy⟩:=R.obj _ _ hj;refine⟨q,hq,sx,?_⟩;by_cases yk:q.blk=p.blk
  ·have:j=i:=R.inj j i _ _ q p hj hg hq hp yk;subst this;rw[hp] at hq;cases hq;rw[hg] at hj;cases hj;refine⟨C,e,_,_,by rw[u9,if_pos rfl],fun k hk wq=>?_,u7⟩;exfalso;by_cases pe:lo=hi
   ·simp only[pe,beq_self_eq_true,if_true] at wq;omega
   ·have hb:(lo==hi)=false:=by simpa using pe
    rw[hb] at wq;simp only[Bool.false_eq_true,if_false] at wq;by_cases il:lo<=k
    ·exact pe (hf k hk il)
    ·omega
  ·rw[u9,if_neg yk];exact sy
 ·have tf:=R.pin b x hb;refine⟨?_,tf.2⟩;rw[u9,if_neg (fun e=>tf.2 _ _ hp (R.rdN hg) e.symm)];exact tf.1
theorem aCk(w:World)(C:Array Value)(e:TY)(n:Nat):(w.alloc (.cells C e)).freeze ⟨w.heap.size,n,none⟩ 1=w.alloc (.cells C e (n,n+1)):=by
 unfold World.freeze;rw[if_neg (by omega)];unfold World.alloc;congr 1;apply Array.ext_getElem?;intro k;rw[Array.getElem?_modify,Array.getElem?_push,Array.getElem?_push];by_cases hk:k=w.heap.size
 ·subst hk;simp
 ·rw[if_neg hk,if_neg (fun h=>hk h.symm),if_neg hk]
theorem aVv [Pins]{φ:PL}{H H':AH}{w:World}(R:Rel φ H w){src dst:TY}{x x' v:Value}(hx:VR φ x x')(h:kK E src dst x H=some (v,H')):SOk P (convert src dst x') φ w v H':=by
 unfold kK at h;split at h
 ·rename_i d k k2 n hs hd;cases h;cases hx;refine .here R (.int _ _) ?_;cases d<;>simp[convert,aG E hs,aG E hd,Conv.intToInt]
 ·rename_i d s hs hd;cases h;cases hx;refine .here R (.string _) ?_;cases d<;>simp[convert,aG E hs,aG E hd]
 ·rename_i e s hs hd;cases hx;split at h
  ·rename_i he;cases h;have key:∀bs:BL,VRs φ (bs.map fun b=>Value.int .u8 (b.toNat:Int)) (bs.map fun b=>Value.int .u8 (b.toNat:Int)):=by
    intro bs
    induction bs with
    |nil=>exact VRs.nil φ
    |cons b bs ih=>exact VRs.cons (.int _ _) ih
   have hc:=key s.data.toList;have qe:s.data.toList.length=s.size:=by rw[Array.length_toList];rfl
   let cap:=(Question.appendCap s.size 0 e).cut (w.tape w.drawn (.appendCap s.size 0 e))
   have rg:s.size<=cap:=by simp[cap,Question.cut]
   let more:=List.replicate (cap - s.size) (Value.int .u8 0)
   let C:=(s.data.toList.map fun b=>Value.int .u8 (b.toNat:Int))++more
   have fq:C.length=cap:=by simp[C,more,qe];omega
   have hR:=R.drew.new (.cells (s.data.toList.map fun b=>Value.int .u8 (b.toNat:Int)) 1 false) (.cells C.toArray e (cap,cap+1)) cap 1
    ⟨C.toArray,e,cap,cap+1,rfl,fun k hk=>by simp[fq] at hk;omega,by simp[fq],⟨rfl,SzE.small (by decide),fun _=>rfl⟩,by simp[fq,qe];omega,fun h=>by simp at h,by
     have:=hc.mono (φ':=φ++[⟨w.drew.heap.size,0,cap,1⟩]) ⟨_,rfl⟩;simpa [C] using this⟩
   refine⟨_,_,_,⟨_,rfl⟩,hR,.slc (SRel.new R.len ⟨w.heap.size,0,cap,1⟩ rfl (c':=cap) (Nat.le_refl _) (by omega) (by show cap*esz 1<=cap;rw[cC (by decide),Nat.mul_one];exact Nat.le_refl _)),?_⟩;have hq:(Question.appendCap s.size 0 e).forced=false:=rfl;have hC:(s.data.map fun b=>Value.int .u8 (b.toNat:Int))++Array.replicate (cap - s.size) (.int .u8 0)=C.toArray:=by
    rw[<-Array.toList_inj];simp[C,more]
   have dv:(w.drew.alloc (.cells C.toArray e)).shape? w.heap.size=some (e,cap):=by
    simp only[World.shape?];rw[show(w.drew.alloc (.cells C.toArray e)).heap[w.heap.size]?=some (.cells C.toArray e) from heap_alloc_new w.drew _];simp[fq]
   have u9:=aCk w.drew C.toArray e cap;have qu:w.drew.heap.size=w.heap.size:=rfl;simp only[convert,Sem.run_bind,aG E hs,aG E hd,aG E he,Result.andThen_ok,Conv.stringToBytes,run_choose,hq,Bool.false_eq_true,if_false,World.drew_eq,newRow,run_newObj,World.alloc_eq,Sem.run_pure,markStringish,run_shape];rw[show(Question.appendCap s.size 0 e).cut (w.tape w.drawn (.appendCap s.size 0 e))=cap from rfl,hC];simp only[qu,dv,run_freeze,Result.andThen_ok,qe];rw[qu] at u9;rw[u9]
  ·cases h
 ·rename_i e base l c hs hd;split at h
  ·rename_i he;split at h
   ·cases uy:Nat.beq c 1 with
    |true=>rw[uy] at h;cases h
    |false=>
    rw[uy,QF] at h;cases h;cases hx with
    |emp _=>cases uy
    |snil _ _=>
    refine .here R (.string _) ?_;rw[run_convert_bytes_string w src dst e _ _ _ (E.und_ok _ _ hs) (E.und_ok _ _ he) (E.und_ok _ _ hd)];rfl
   ·rename_i a;split at h
    ·rename_i cs yb;split at h
     ·rename_i bs oy;cases h;cases hx with
      | @slc _ a' _ _ c' wu=>
        have hA:l=0\/ARel φ a a':=by
         rcases wu with⟨_,_,hA⟩|⟨_,h1,h2,h3|⟨hA,_⟩⟩
         ·exact .inr hA
         ·left;omega
         ·exact .inr hA
        obtain⟨l',h1,h2,h3⟩:=lJ R hA yb;obtain⟨ns,rfl,rfl⟩:=pH h1 oy;have qp:=run_loadCells_list (P:=P) w a' _ h3;rw[h2] at qp;refine .here R (.string _) ?_;rw[run_convert_bytes_string w src dst e _ _ _ (E.und_ok _ _ hs) (E.und_ok _ _ he) (E.und_ok _ _ hd),run_bytesToString w a' l c' ns qp,yR];rfl
     ·cases h
    ·cases h
  ·cases h
 ·rename_i e0 e a l c hs hd;cases hb:(Nat.beq src dst&&(Nat.ble 1 c&&!(Nat.beq (a.block%2) 0))) with
  |false=>rw[hb] at h;cases h
  |true=>
   rw[hb,QT] at h;simp only[QB,Bool.not_eq_true'] at hb;obtain⟨oz,pg,zm⟩:=hb;have oz:=QN oz;have pg:=QL pg;have zm:=dD zm;subst oz;obtain rfl:e0=e:=by rw[hs] at hd;cases hd;rfl
   split at h
   ·rename_i cs sz ex he hg;cases h;cases hx with
    | @slc _ a' _ _ c' wu=>
      rcases wu with⟨h0,_⟩|⟨_,h1,h2,h3⟩
      ·omega
      ·rcases h3 with h3|⟨hA,_⟩
       ·omega
       ·have ug:=hA;rcases ug with⟨h0,_⟩|⟨_,_,_,p,hp,zt,_⟩
        ·omega
        ·obtain⟨e2,n,dv,hR⟩:=R.marked hg hp;refine⟨φ,.slice (some a') l c',_,List.prefix_refl _,hR,.slc ?_,?_⟩
         ·exact .inr ⟨zm,h1,h2,.inr ⟨hA,by assumption⟩⟩
         ·simp only[convert,Sem.run_bind,aG E hs,aG E hd,aG E he,Result.andThen_ok,beq_self_eq_true,markStringish,run_shape,zt,dv,run_freeze,Sem.run_pure]
   ·cases h
 ·rename_i t a hs hd;cases qz:Nat.beq (a.block%2) 0 with
  |true=>rw[qz] at h;cases h
  |false=>
   rw[qz,QF] at h;have zm:=dD qz;split at h
   ·rename_i i cs sz ex hi hg;cases hz:Nat.beq i.size 0 with
    |true=>rw[hz] at h;cases h
    |false=>
     rw[hz,QF] at h;cases hb:Nat.blt a.off cs.length with
     |false=>rw[hb] at h;cases h
     |true=>
      rw[hb,QT] at h;cases h;have qj:a.off+1<=cs.length:=QL hb;have xy:¬i.size=0:=fun q=>by rw[q] at hz;cases hz
      cases hx with
      | @ptr _ a' hA=>
        have ug:=hA;rcases ug with⟨h0,_⟩|⟨_,_,_,p,hp,zt,v8⟩
        ·omega
        ·obtain⟨q,hq,_,C,e,lo,wx,xn,_,_,_,qf,_,_⟩:=R.obj _ _ hg;rw[hp] at hq;cases hq;rw[<-zt] at xn;refine .here R (.ptr hA) ?_;have jk:¬(C.size<=a'.off):=by omega
         simp[convert,aG E hs,aG E hd,Conv.unsafePointer,Conv.seenAt,lE xn,rF xn,aL E hi,xy,jk]
   ·cases h
 ·rename_i u a hs hd;cases qz:Nat.beq (a.block%2) 0 with
  |true=>rw[qz] at h;cases h
  |false=>
   rw[qz,QF] at h;have zm:=dD qz;split at h
   ·rename_i i cs sz hi hg;cases hz:Nat.beq i.size 0 with
    |true=>rw[hz] at h;cases h
    |false=>
     rw[hz,QF] at h;cases hb:(Nat.beq sz (u+bB)&&(Nat.blt 5 u&&(Nat.beq a.off 0&&Nat.beq cs.length i.size))) with
     |false=>rw[hb] at h;cases h
     |true=>
      rw[hb,QT] at h;cases h;simp only[QB] at hb;obtain⟨b1,b2,b3,b4⟩:=hb;have b1:=QN b1;have b2:5+1<=u:=QL b2;have b3:=QN b3;have b4:=QN b4;have xy:¬i.size=0:=fun q=>by rw[q] at hz;cases hz
      cases hx with
      | @ptr _ a' hA=>
        have ug:=hA;rcases ug with⟨h0,_⟩|⟨_,_,_,p,hp,zt,v8⟩
        ·omega
        ·obtain⟨q,hq,_,C,e,lo,wx,xn,_,_,⟨_,rh,im⟩,_,y0,_⟩:=R.obj _ _ hg;rw[hp] at hq;cases hq;rw[<-zt] at xn;have pj:=im (by rw[b1];exact Nat.lt_of_lt_of_le (Nat.add_lt_add_left b2 bB) (Nat.le_of_eq (Nat.add_comm bB u)));have he:e=u:=Nat.add_right_cancel ((rh (by rw[b1];exact Nat.le_add_left _ _)).trans b1);subst he;have y0:=y0 rfl;obtain⟨ii,v6,e1,_⟩:=E.inf_ok _ _ hi;have wc:P.cellsOf e=i.size:=by simp[Program.cellsOf,v6,e1]
         have hC:C.size / P.cellsOf e=1:=by rw[wc,show C.size=i.size by omega];exact Nat.div_self (by omega)
         have jl:a'.off=0:=by omega
         have dw:(variablesAt a' e 1).run P w=.ok true w:=by
          simp[variablesAt,run_shape,World.shape?,xn,hC,jl,aJq (P:=P) (e:=e) (by rw[wc];exact xy)]
         refine .here R (.ptr hA) ?_;simp[convert,aG E hs,aG E hd,Conv.unsafePointer,Conv.seenAt,lE xn,aL E hi,xy,dw]
   ·cases h
 ·cases h
theorem aIo{P:PG}{e:TY}(hc:P.cellsOf e=1)(count off n:Nat)(hn:off+n<=count):liesAt P P.depth e count off e n=true:=by
 have hd:P.depth=(2*(P.types.size+Made.depth)+1)+1:=rfl;rw[hd];simp only[liesAt,Bool.or_eq_true];left;rw[hd];simp[rowAt,hc,hn,sameLayout,Nat.mod_one]
theorem lR{P:PG}{w:World}:∀(ns:List Int) (a:Addr) (acc:BA),(∀j v,(ns.map (Value.int .u8))[j]?=some v->w.cell? (a.add j)=some v)->
 (loadBytes a acc ns.length).run P w=.ok ⟨⟨acc.data.toList++ns.map fun n=>UInt8.ofNat n.toNat⟩⟩ w
 |[],a,acc,_=>by simp[loadBytes]
 |x::l,a,acc,h=>by
  have h0:w.cell? a=some (.int .u8 x):=by
   have:=h 0 _ rfl;simpa [Addr.add] using this
  have ih:=lR (P:=P) l (a.add 1) (acc.push x.toNat.toUInt8) (fun j y hy=>by
   have:=h (j+1) y (by simpa using hy);have e:(a.add 1).add j=a.add (j+1):=by
    unfold Addr.add;by_cases hj:j=0
    ·subst hj;simp
    ·simp[hj];omega
   rw[e];exact this)
  simp only[List.length_cons,loadBytes,Sem.run_bind,run_load,h0,Result.andThen_ok];rw[ih];congr 3;simp[ByteArray.push]
theorem Rel.dead [Pins]{φ:PL}{H:AH}{w:World}(R:Rel φ H w){i:Nat}{o:AObj}(hg:H.tr.get i=some o){p:Place}(hp:φ[i]?=some p)(off n:Nat):
 Rel φ {H with tr:=H.tr.set i none} (w.freeze ⟨p.blk,off,none⟩ n):=by
 obtain⟨q,hq,hN,_⟩:=R.obj _ _ hg;rw[hp] at hq;cases hq;have u9:∀k,k≠p.blk->(w.freeze ⟨p.blk,off,none⟩ n).heap[k]?=w.heap[k]?:=by
  intro k hk;unfold World.freeze;split
  ·rfl
  ·simp only[Array.getElem?_modify];rw[if_neg (fun h=>hk h.symm)]
 have yq:(w.freeze ⟨p.blk,off,none⟩ n).heap.size=w.heap.size:=by
  unfold World.freeze;split
  ·rfl
  ·simp
 have ox:(w.freeze ⟨p.blk,off,none⟩ n).os=w.os/\(w.freeze ⟨p.blk,off,none⟩ n).tape=w.tape/\(w.freeze ⟨p.blk,off,none⟩ n).output=w.output:=by
  unfold World.freeze;split
  ·exact⟨rfl,rfl,rfl⟩
  ·exact⟨rfl,rfl,rfl⟩
 have hget:∀j o',({H with tr:=H.tr.set i none}:AH).tr.get j=some o'->j≠i/\H.tr.get j=some o':=by
  intro j o' hj;simp only[Tr.get_set] at hj;by_cases e:j=i
  ·rw[if_pos e] at hj;cases hj
  ·rw[if_neg e] at hj;exact⟨e,hj⟩
 refine⟨⟨ox.1.trans R.below.os,ox.2.1.trans R.below.tape,ox.2.2.trans R.below.output,by rw[yq];exact R.below.size,fun k hk=>?_⟩,R.len,fun j o' hj=>?_,fun a b o1 o2 p1 p2 h1 h2=>R.inj a b o1 o2 p1 p2 (hget _ _ h1).2 (hget _ _ h2).2,fun b x hb=>?_,fun i p hp=>by rw[yq];exact R.lt i p hp,R.ro' rfl (List.prefix_refl _) fun j _ h=>by
  simp only[Tr.get_set];split
  ·rfl
  ·exact h⟩
 ·have uo:k<H.w0.heap.size:=hk;rw[u9 _ (by omega)];exact R.below.block k hk
 ·obtain⟨qn,hj⟩:=hget _ _ hj;obtain⟨q,hq,sx,sy⟩:=R.obj _ _ hj;refine⟨q,hq,sx,?_⟩;rw[u9 _ (fun e=>qn (R.inj j i _ _ q p hj hg hq hp e))];exact sy
 ·have tf:=R.pin b x hb;refine⟨?_,tf.2⟩;rw[u9 _ (fun e=>tf.2 _ _ hp (R.rdN hg) e.symm)];exact tf.1
def lV:Value->Option Value
 |.slice none _ 0=>some (.pointer none)
 |.slice (some a) l c=>bif Nat.beq c 0 then none else some (.pointer (some a))
 |_=>none
theorem zF{P:PG}{φ:PL}{x x' v:Value}(hx:VR φ x x')(h:lV x=some v)(ts:Array TypeId)(ty:TY)(w:World):∃v',VR φ v v'/\(Builtin.unsafeSliceData_ ts ty #[x']).run P w=.ok v' w:=by
 unfold lV at h;split at h
 ·cases h;cases hx;exact⟨_,.pnil,Lib.run_unsafeSliceData_nil w ts ty _ _⟩
 ·rename_i a l c;cases hz:Nat.beq c 0 with
  |true=>rw[hz] at h;cases h
  |false=>
   rw[hz,QF] at h;cases h;have hc:c≠0:=fun e=>by subst e;simp at hz
   cases hx with
   | @slc _ a' _ _ c' wu=>
     have hA:ARel φ a a'/\c'≠0:=by
      rcases wu with⟨_,h1,hA⟩|⟨_,h1,h2,h3|⟨hA,_⟩⟩
      ·exact⟨hA,by omega⟩
      ·omega
      ·exact⟨hA,by omega⟩
     exact⟨_,.ptr hA.1,Lib.run_unsafeSliceData_row w ts ty a' l c' hA.2⟩
 ·cases h
def kX(pt:TY)(x y:Value)(H:AH):Option (Value×AH):=
 match x,y with
 |.pointer p,.int .i64 n=>bif n==0 then some (.string ⟨⟨[]⟩⟩,H) else(match p with
  |some a=>bif Nat.beq (a.block%2) 0 then none else(match E.und pt,E.inf 5,H.tr.get (a.block / 2) with
   |some (.pointer t),some i,some (.cells _ sz _)=>bif (Nat.beq t 5&&Nat.beq i.size 1)&&(Nat.beq sz (5+bB)&&(decide (0<=n)&&Nat.ble n.toNat 1099511627776)) then(match aloads H a n.toNat with
    |some cs=>(match jQ cs with
     |some bs=>some (.string ⟨⟨bs⟩⟩,{H with tr:=H.tr.set (a.block / 2) none})
     |none=>none)
    |none=>none) else none
   |_,_,_=>none)
  |none=>none)
 |_,_=>none
theorem aDt [Pins]{φ:PL}{H H':AH}{w:World}(R:Rel φ H w){pt it ty:TY}{x x' y y' v:Value}(hx:VR φ x x')(hy:VR φ y y')(h:kX E pt x y H=some (v,H')):SOk P (Builtin.unsafeString_ #[pt,it] ty #[x',y']) φ w v H':=by
 unfold kX at h;split at h
 ·rename_i p n;cases hn:(n==0) with
  |true=>
   rw[hn,QT] at h;have hn:n=0:=by simpa using hn
   subst hn;cases h;cases hy;cases hx with
   |pnil=>exact .here R (.string _) (Lib.run_unsafeString_none w pt it ty none)
   |ptr hA=>exact .here R (.string _) (Lib.run_unsafeString_none w pt it ty _)
  |false=>
   rw[hn,QF] at h;have hn:n≠0:=by simpa using hn
   split at h
   ·rename_i a;cases qz:Nat.beq (a.block%2) 0 with
    |true=>rw[qz] at h;cases h
    |false=>
     rw[qz,QF] at h;have zm:=dD qz;split at h
     ·rename_i t i cs0 sz ex hu hi hg;cases hb:((Nat.beq t 5&&Nat.beq i.size 1)&&(Nat.beq sz (5+bB)&&(decide (0<=n)&&Nat.ble n.toNat 1099511627776))) with
      |false=>rw[hb] at h;cases h
      |true=>
       rw[hb,QT] at h;simp only[QB,decide_eq_true_eq] at hb;obtain⟨⟨b1,b2⟩,b3,b4,b5⟩:=hb;have b1:=QN b1;have b2:=QN b2;have b3:=QN b3;have b5:=QL b5;subst b1;split at h
       ·rename_i cs yb;split at h
        ·rename_i bs oy;cases h;cases hy;cases hx with
         | @ptr _ a' hA=>
           have ug:=hA;rcases ug with⟨h0,_⟩|⟨_,_,kf,p,hp,zt,v8⟩
           ·omega
           ·obtain⟨l',h1,h2,h3⟩:=lJ R (.inr hA) yb;obtain⟨ns,rfl,rfl⟩:=pH h1 oy;have qe:ns.length=n.toNat:=by simpa using h2
            have qp:=lR (P:=P) (w:=w) ns a' .empty h3;rw[qe] at qp;obtain⟨q,hq,_,C,e,lo,wx,xn,_,rk,⟨_,rh,_⟩,qf,_,_⟩:=R.obj _ _ hg;rw[hp] at hq;cases hq;rw[<-zt] at xn;have he:e=5:=Nat.add_right_cancel ((rh (by rw[b3];exact Nat.le_add_left _ _)).trans b3);subst he;have yg:a'.off+n.toNat<=C.size:=by
             unfold aloads at yb;have om:Nat.beq n.toNat 0=false:=by
              cases hz:Nat.beq n.toNat 0 with
              |false=>rfl
              |true=>have:=QN hz;omega
             rw[om,QF,qz,QF,hg] at yb;simp only at yb;cases og:Nat.ble (a.off+n.toNat) cs0.length with
             |false=>rw[og] at yb;cases yb
             |true=>have:=QL og;omega
            obtain⟨ii,v6,e1,_⟩:=E.inf_ok _ _ hi;have wc:P.cellsOf 5=1:=by simp[Program.cellsOf,v6,e1,b2]
            have dw:(variablesAt a' 5 n.toNat).run P w=.ok true w:=by
             simp[variablesAt,run_shape,World.shape?,xn,wc,aIo (P:=P) wc _ _ _ yg]
            have hR:=R.dead hg hp a'.off n.toNat;have dy:a'=⟨p.blk,a'.off,none⟩:=by
             cases a';simp only at zt kf ⊢;subst zt;subst kf;rfl
            rw[<-dy] at hR;refine⟨φ,_,_,List.prefix_refl _,hR,.string _,?_⟩;have ky:IntKind.i64.max=9223372036854775807:=rfl;have g1:¬(n<0):=by omega
            have g2:¬(9223372036854775807<n):=by omega
            have dz:Builtin.unsafeString_ #[pt,it] ty #[.pointer (some a'),.int .i64 n]=
             (do
              let n <-asInt (.int .i64 n)
              if n<0 then runtimePanic (.error "unsafe.String: len out of range")
              if n>IntKind.i64.max then unsupported (.unsafePointer "String: a length above the largest int")
              if n=0 then pure (.string .empty)
              else if <-variablesAt a' (<-elemOf pt) n.toNat then do
               let s <-loadBytes a' .empty n.toNat
               freeze a' n.toNat
               pure (.string s)
              else unsupported (.unsafePointer "String: not so many bytes at ptr")):=rfl
            rw[dz];simp[asInt,asIntOf,ky,g1,g2,hn,dw,qp,elemOf,aG E hu]
        ·cases h
       ·cases h
     ·cases h
   ·cases h
 ·cases h
def vH(mx:Bool):Value->List Value->Option Value
 |x,[]=>some x
 |.int k a,.int k' b::r=>bif decide (k=k') then vH mx (.int k (if (if mx then b>a else b<a) then b else a)) r else none
 |_,_=>none
theorem vY{φ:PL}(mx:Bool):∀(l l':VL) (x x' v:Value),VR φ x x'->VRs φ l l'->vH mx x l=some v->∀w,∃v',VR φ v v'/\(l'.foldlM (if mx then Builtin.max2 else Builtin.min2) x':Sem Value).run P w=.ok v' w:=by
 intro l
 induction l with
 |nil=>
  intro l' x x' v hx hl h w;have:l'=[]:=List.eq_nil_of_length_eq_zero hl.1.symm;subst this;cases x<;>(simp only[vH] at h;cases h;exact⟨x',hx,by simp⟩)
 |cons y l ih=>
  intro l' x x' v hx hl h w;cases l' with
  |nil=>have:=hl.1;simp at this
  |cons y' l'=>
   cases x<;>(try (simp only[vH] at h;cases h;done));cases y<;>(try (simp only[vH] at h;cases h;done));rename_i k a k' b;simp only[vH] at h;cases hk:decide (k=k') with
   |false=>rw[hk] at h;cases h
   |true=>
    rw[hk,QT] at h;simp only[decide_eq_true_eq] at hk;subst hk;cases hx;have:=hl.head;cases this;obtain⟨v',h1,h2⟩:=ih l' _ _ v (.int k _) hl.tail h w;refine⟨v',h1,?_⟩;cases mx
    ·simpa [Builtin.min2] using h2
    ·simpa [Builtin.max2] using h2
end
structure Fr where
 n:Nat
 tr:Tr Value
def aN(f:Fr):Operand->Value
 |.tmp t=>(match f.tr.get t with
  |some v=>v
  |none=>undef)
 |.const v=>ext v
 |.global g=>.pointer (some ⟨2*g,0,none⟩)
 |.func g=>.func (.func g) ⟨[]⟩ ⟨[]⟩
def FRel [π:Pins](φ:PL)(f:Fr)(a:Act):Prop:=a.defers=π.ds/\a.tmps.size=f.n/\∀t,VR φ (aN f (.tmp t)) (a.tmps.getD t undef)
abbrev FQ:=Fr->AH->Prop
theorem FRel.mono [Pins]{φ φ':PL}(h:φ <+: φ'){f:Fr}{a:Act}(r:FRel φ f a):FRel φ' f a:=⟨r.1,r.2.1,fun t=>(r.2.2 t).mono h⟩
theorem FRel.eval [Pins]{φ:PL}{f:Fr}{a:Act}(r:FRel φ f a)(x:Operand):VR φ (aN f x) (a.eval x):=by
 cases x with
 |tmp t=>exact r.2.2 t
 |const v=>exact VR.ext φ v
 |global g=>exact .ptr (.inl ⟨by simp,by simp,rfl,rfl⟩)
 |func g=>exact .func _ rfl rfl rfl (fun i v v' h=>by simp at h) (fun i v v' h=>by simp at h)
def Fr.put(f:Fr)(d:Option Tmp)(v:Value):Option Fr:=
 match d with
 |none=>some f
 |some d=>bif Nat.ble (d+1) f.n then some {f with tr:=f.tr.set d (some v)} else none
theorem FRel.put [Pins]{φ:PL}{f g:Fr}{a:Act}(r:FRel φ f a){d:Option Tmp}{v v':Value}(hv:VR φ v v')(h:f.put d v=some g):FRel φ g (a.put d v'):=by
 unfold Fr.put at h;cases d with
 |none=>cases h;exact r
 |some d=>
  simp only at h;cases qf:Nat.ble (d+1) f.n with
  |false=>rw[qf] at h;cases h
  |true=>
   rw[qf,QT] at h;cases h;have ul:=QL qf;refine⟨r.1,by simp[Act.put,r.2.1],fun t=>?_⟩;have qu:=r.2.1;have hr:=r.2.2 t;simp only[aN,Act.put,Tr.get_set] at hr ⊢;by_cases e:t=d
   ·subst e;rw[if_pos rfl];simp only[Array.getD_eq_getD_getElem?,Array.getElem?_setIfInBounds,if_true];rw[if_pos (by omega)];exact hv
   ·rw[if_neg e];simp only[Array.getD_eq_getD_getElem?,Array.getElem?_setIfInBounds] at hr ⊢;rw[if_neg (fun h=>e h.symm)];exact hr
def aQ(x:Option Value)(H:AH):Option (Value×AH):=
 match x with
 |some v=>some (v,H)
 |none=>none
def aCf:VL->Option Value
 |[.int .u64 x,.int .u64 y,.int .u64 c]=>if 0<=x/\0<=y/\0<=c/\c<=1 then some (.tuple ⟨[.int .u64 ((x+y+c)%18446744073709551616),.int .u64 ((x+y+c) / 18446744073709551616)]⟩) else none
 |_=>none
def aPi:VL->Option Value
 |[.string s,.int .u8 c]=>some (.int .i64 (firstIdx s c.toNat.toUInt8))
 |_=>none
def aJf:VL->Option Value
 |[.pointer (some a)]=>some (.pointer (some a))
 |_=>none
def aVm:VL->Option Value
 |[.string s,.int .u8 c]=>some (.int .i64 (s.foldl (fun n x=>if x==c.toNat.toUInt8 then n+1 else n) (((0:Nat):Int))))
 |_=>none
def aOf(P:PG)(g:FuncId)(args:VL):Option Value:=
 match P.funcs[g]? with
 |some F=>(match F.body with
  |some _=>none
  |none=>bif F.origin== "" then(bif F.name== "math/bits.Add64" then aCf args else bif F.name== "internal/bytealg.IndexByteString" then aPi args else bif F.name== "internal/abi.NoEscape" then aJf args else bif F.name== "internal/bytealg.CountString" then aVm args else none) else none)
 |none=>none
theorem aCl(n:String)(h1:Extern.allNextRows.lookup n=none)(h2:Extern.allNextRows.lookup ""=none){F:Func}(hn:F.name=n)(ho:F.origin= ""):Extern.findNext F=none:=by
 simp only[Extern.findNext,hn,ho,h1,h2];rfl
theorem aCm(n:String){e:Array Value->Sem Value}(h1:Extern.allGenericRows.lookup n=none)(h2:Extern.allTypedRows.lookup n=none)(h3:Extern.allRows.lookup n=some e){F:Func}(hn:F.name=n):Extern.find F=some e:=by
 simp only[Extern.find,hn,h1,h2,h3];rfl
theorem vU:Extern.allNextRows.lookup ""=none:=by kernel_rfl
theorem aYc{P:PG}{φ:PL}{g:FuncId}{args args':VL}{v:Value}(hv:VRs φ args args')(h:aOf P g args=some v)(w:World):∃v',VR φ v v'/\(callFunc g ⟨args'⟩).run P w=.ok (.value v') w:=by
 unfold aOf at h;split at h
 ·rename_i F hF;split at h
  ·cases h
  ·rename_i hb;cases ho:(F.origin== "") with
   |false=>rw[ho] at h;cases h
   |true=>
    rw[ho,QT] at h;have ho:F.origin= "":=by simpa using ho
    have xx:F.body.isNone=true:=by rw[hb];rfl
    cases hn:(F.name== "math/bits.Add64") with
    |true=>
     rw[hn,QT] at h;have hn:F.name= "math/bits.Add64":=by simpa using hn
     unfold aCf at h;split at h
     ·rename_i x y c;split at h
      ·rename_i hc;cases h;obtain rfl:=jL hv rfl;refine⟨_,VR.tuple' (VRs.cons (.int _ _) (VRs.cons (.int _ _) (VRs.nil φ))),?_⟩;have hr:=run_callFunc_extern (P:=P) (e:=add64Entry) hF (by rw[hn];rfl) xx (aCl "math/bits.Add64" (by kernel_rfl) vU hn ho) (aCm "math/bits.Add64" (by kernel_rfl) (by kernel_rfl) (by kernel_rfl) hn) #[.int .u64 x,.int .u64 y,.int .u64 c] w;rw[run_add64 x y c hc.1 hc.2.1 hc.2.2.1 hc.2.2.2] at hr;exact hr
      ·cases h
     ·cases h
    |false=>
     rw[hn,QF] at h;cases hn:(F.name== "internal/bytealg.IndexByteString") with
     |true=>
      rw[hn,QT] at h;have hn:F.name= "internal/bytealg.IndexByteString":=by simpa using hn
      unfold aPi at h;split at h
      ·rename_i s c;cases h;obtain rfl:=jL hv rfl;refine⟨_,.int _ _,?_⟩;have hr:=run_callFunc_extern (P:=P) (e:=Extern.BytealgIndexByte.indexByte) hF (by rw[hn];rfl) xx (aCl "internal/bytealg.IndexByteString" (by kernel_rfl) vU hn ho) (aCm "internal/bytealg.IndexByteString" (by kernel_rfl) (by kernel_rfl) (by kernel_rfl) hn) #[.string s,.int .u8 c] w;rw[run_indexByte_string s c] at hr;exact hr
      ·cases h
     |false=>
      rw[hn,QF] at h;cases hn:(F.name== "internal/abi.NoEscape") with
      |true=>
       rw[hn,QT] at h;have hn:F.name= "internal/abi.NoEscape":=by simpa using hn
       unfold aJf at h;split at h
       ·rename_i a;cases h
        match args',hv with
        |[x'],hv=>
         have hx:=hv.2 0 _ _ rfl rfl;refine⟨x',hx,?_⟩;exact run_callFunc_extern (P:=P) (e:=Extern.AbiNoEscape.same) hF (by rw[hn];rfl) xx (aCl "internal/abi.NoEscape" (by kernel_rfl) vU hn ho) (aCm "internal/abi.NoEscape" (by kernel_rfl) (by kernel_rfl) (by kernel_rfl) hn) #[x'] w
        |[],hv=>exact absurd hv.1 (by simp)
        |_::_::_,hv=>exact absurd hv.1 (by simp)
       ·cases h
      |false=>
       rw[hn,QF] at h;cases hn:(F.name== "internal/bytealg.CountString") with
       |true=>
        rw[hn,QT] at h;have hn:F.name= "internal/bytealg.CountString":=by simpa using hn
        unfold aVm at h;split at h
        ·rename_i s c;cases h;obtain rfl:=jL hv rfl;refine⟨_,.int _ _,?_⟩;have hr:=run_callFunc_extern (P:=P) (e:=Extern.BytealgCount.count) hF (by rw[hn];rfl) xx (aCl "internal/bytealg.CountString" (by kernel_rfl) vU hn ho) (aCm "internal/bytealg.CountString" (by kernel_rfl) (by kernel_rfl) (by kernel_rfl) hn) #[.string s,.int .u8 c] w;have hc:(Extern.BytealgCount.count #[.string s,.int .u8 c]).run P w=.ok (.int .i64 (s.foldl (fun n x=>if x==c.toNat.toUInt8 then n+1 else n) (((0:Nat):Int)))) w:=by
          show Sem.run P (do
           let b <-Extern.Bytes.bytesOf (.string s)
           let c' <-Extern.Bytes.asByte (.int .u8 c)
           pure (goInt (b.foldl (fun n x=>if x==c' then n+1 else n) (((0:Nat):Int))))) w=_
          simp only[Extern.Bytes.bytesOf,Extern.Bytes.asByte,Sem.run_bind,Sem.run_pure,Result.andThen,goInt]
         rw[hc] at hr;exact hr
        ·cases h
       |false=>rw[hn] at h;cases h
 ·cases h
def aop{P:PG}(E:Env P)(ρ:Operand->Value)(op:Op)(H:AH):Option (Value×AH):=
 match op with
 |.move x=>some (ρ x,H)
 |.assign x=>some (ρ x,H)
 |.pick c a b=>(match ρ c with
  |.bool true=>some (ρ a,H)
  |.bool false=>some (ρ b,H)
  |_=>none)
 |.alloc t=>uK E t H
 |.box t x=>some (aGf E t (ρ x) H)
 |.build t ps=>aQ (pW E t (ps.toList.map fun x=>(x.1,ρ x.2))) H
 |.buildSlice t n ps=>dW E t n (ps.toList.map fun x=>(x.1,ρ x.2)) H
 |.load t x=>(match ρ x with
  |.pointer (some a)=>aQ (fA E t a H) H
  |_=>none)
 |.store t x y=>(match ρ x with
  |.pointer (some a)=>(match jH E t a (ρ y) H with
   |some H'=>some (undef,H')
   |none=>none)
  |_=>none)
 |.nilCheck x=>(match ρ x with
  |.pointer (some a)=>some (.pointer (some a),H)
  |.func (.func g) a b=>some (.func (.func g) a b,H)
  |_=>none)
 |.binOp op t x y _=>aQ (aS E op t (ρ x) (ρ y)) H
 |.unOp op _ x=>aQ (aVh E op (ρ x)) H
 |.convert s d x=>kK E s d (ρ x) H
 |.makeFunc fn a b=>bif fnY fn then none else some (.func fn ⟨a.toList.map ρ⟩ ⟨b.toList.map ρ⟩,H)
 |.makeMap _ none=>some (rO H)
 |.makeSlice t l c=>jT E t (ρ l) (ρ c) H
 |.slice t x lo hi mx=>aQ (mP E t (ρ x) (lo.map ρ) (hi.map ρ) (mx.map ρ) H) H
 |.fieldAddr s x f=>aQ (fU E s (ρ x) f) H
 |.field t x f=>aQ (aId E t (ρ x) f) H
 |.indexAddr t x ix=>aQ (bE E t (ρ x) (ρ ix)) H
 |.index t x ix=>aQ (kT E t (ρ x) (ρ ix)) H
 |.lookup t x ix ok=>aQ (rD E t (ρ x) (ρ ix) ok H) H
 |.mapUpdate t m k x=>(match fY E t (ρ m) (ρ k) (ρ x) H with
  |some H'=>some (undef,H')
  |none=>none)
 |.insert t m k x=>(match fY E t (ρ m) (ρ k) (ρ x) H with
  |some H'=>some (undef,H')
  |none=>none)
 |.extract x i=>aQ (sQ (ρ x) i) H
 |.call c=>(match c.callee with
  |.builtin .len=>(match c.args.toList,c.argTypes.toList with
   |[x],[t]=>aQ (aFz E t (ρ x) H) H
   |_,_=>none)
  |.builtin .cap=>(match c.args.toList,c.argTypes.toList with
   |[x],[t]=>aQ (bEw E t (ρ x) H) H
   |_,_=>none)
  |.builtin .append=>(match c.args.toList,c.argTypes.toList with
   |[s,x],[sT,xT]=>gJ E sT xT (ρ s) (ρ x) H
   |_,_=>none)
  |.builtin .copy=>(match c.args.toList,c.argTypes.toList with
   |[d,x],[dT,_]=>aFu E dT (ρ d) (ρ x) H
   |_,_=>none)
  |.builtin .min=>(match c.args.toList with
   |x::r=>aQ (vH false (ρ x) (r.map ρ)) H
   |_=>none)
  |.builtin .max=>(match c.args.toList with
   |x::r=>aQ (vH true (ρ x) (r.map ρ)) H
   |_=>none)
  |.builtin .unsafeSliceData=>(match c.args.toList with
   |[x]=>aQ (lV (ρ x)) H
   |_=>none)
  |.builtin .unsafeString=>(match c.args.toList,c.argTypes.toList with
   |[x,y],[pt,_]=>kX E pt (ρ x) (ρ y) H
   |_,_=>none)
  |.value x=>(match ρ x with
   |.func (.func g) ⟨[]⟩ ⟨[]⟩=>aQ (aOf P g (c.args.toList.map ρ)) H
   |_=>none)
  |_=>none)
 |_=>none
def OOk [Pins](P:PG)(o:Oper)(ρ:Operand->Value)(φ:PL)(w:World)(v:Value)(H':AH):Prop:=
 ∃φ' v' w',φ <+: φ'/\Rel φ' H' w'/\VR φ' v v'/\((execOp ρ o).run P w=.ok (.value v') w'\/((execOp ρ o).run P w=.ok .skip w'/\v'=undef))
theorem aE{x:Option Value}{H H':AH}{v:Value}(h:aQ x H=some (v,H')):x=some v/\H'=H:=by
 unfold aQ at h;split at h
 ·cases h;exact⟨rfl,rfl⟩
 ·cases h
theorem gX{φ:PL}{ρ ρ':Operand->Value}(h:∀x,VR φ (ρ x) (ρ' x)):∀l:List Operand,VRs φ (l.map ρ) (l.map ρ')
 |[]=>VRs.nil φ
 |x::l=>VRs.cons (h x) (gX h l)
theorem wI{φ:PL}{ρ ρ':Operand->Value}(h:∀x,VR φ (ρ x) (ρ' x))(l:List (Nat×Operand))(i n:Nat)(v:Value)(n':Nat)(v':Value)
 (h1:(l.map fun x=>(x.1,ρ x.2))[i]?=some (n,v))(h2:(l.map fun x=>(x.1,ρ' x.2))[i]?=some (n',v')):n=n'/\VR φ v v':=by
 rw[List.getElem?_map] at h1 h2;cases hl:l[i]? with
 |none=>rw[hl] at h1;simp at h1
 |some x=>
  rw[hl] at h1 h2;simp at h1 h2;obtain⟨rfl,rfl⟩:=h1;obtain⟨rfl,rfl⟩:=h2;exact⟨rfl,h _⟩
theorem tS{φ:PL}{ρ ρ':Operand->Value}(h:∀x,VR φ (ρ x) (ρ' x))(x:Option Operand):uT φ (x.map ρ) (x.map ρ'):=by
 cases x with
 |none=>exact .inl ⟨rfl,rfl⟩
 |some x=>exact .inr ⟨_,_,rfl,rfl,h x⟩
theorem aCh [Pins]{P:PG}(E:Env P){φ:PL}{H H':AH}{w:World}(R:Rel φ H w){ρ ρ':Operand->Value}(hρ:∀x,VR φ (ρ x) (ρ' x)){o:Oper}{v:Value}(h:aop E ρ o.op H=some (v,H')):OOk P o ρ' φ w v H':=by
 have here:∀{v v':Value},VR φ v v'->(execOp ρ' o).run P w=.ok (.value v') w->OOk P o ρ' φ w v H:=fun hv hr=>⟨φ,_,w,List.prefix_refl _,R,hv,.inl hr⟩;have sok:∀{s:Sem Value} {v:Value} {H':AH},SOk P s φ w v H'->execOp ρ' o=(do pure (.value (<-s)))->OOk P o ρ' φ w v H':=by
  intro s v H' ⟨φ',v',w',h1,h2,h3,h4⟩ he;exact⟨φ',v',w',h1,h2,h3,.inl (by rw[he];simp[h4])⟩
 unfold aop at h;split at h<;>rename_i qi
 ·cases h;exact here (hρ _) (by simp[execOp,qi])
 ·cases h;exact here (hρ _) (by simp[execOp,qi])
 ·rename_i c a b;split at h
  ·rename_i hc;cases h;have:=hρ c;rw[hc] at this;generalize zj:ρ' c=cc at this;cases this;exact here (hρ _) (by simp[execOp,qi,zj,asBool])
  ·rename_i hc;cases h;have:=hρ c;rw[hc] at this;generalize zj:ρ' c=cc at this;cases this;exact here (hρ _) (by simp[execOp,qi,zj,asBool])
  ·cases h
 ·rename_i t;unfold uK at h;split at h
  ·rename_i i hi;split at h
   ·rename_i z hz;cases h;obtain⟨φ',w',b,h1,h2,h3,h4⟩:=aKx E R t (VR.ext φ z);refine⟨φ',_,w',h1,h2,h3,.inl ?_⟩;simp[execOp,qi,Instr.alloc,bD E hi hz,h4]
   ·cases h
  ·cases h
 ·rename_i t x;cases h;obtain⟨φ',w',b,h1,h2,h3,h4⟩:=aKx E R t (hρ x);refine⟨φ',_,w',h1,h2,h3,.inl ?_⟩;simp[execOp,qi,Instr.box,h4]
 ·rename_i t ps;obtain⟨hh,rfl⟩:=aE h
  replace h:=hh
  obtain⟨v',h1,h2⟩:=zS E (parts':=ps.toList.map fun x=>(x.1,ρ' x.2)) (by simp) (wI hρ ps.toList) h w;refine here h1 ?_;have:(ps.map fun(x:Nat×Operand)=>(x.1,ρ' x.2))=⟨ps.toList.map fun x=>(x.1,ρ' x.2)⟩:=by rw[<-Array.toList_inj];simp
  simp only[execOp,qi,Sem.run_bind,this,h2,Result.andThen_ok,Sem.run_pure]
 ·rename_i t n ps;have hs:=xX E R (parts':=ps.toList.map fun x=>(x.1,ρ' x.2)) (by simp) (wI hρ ps.toList) h;have:(ps.map fun(x:Nat×Operand)=>(x.1,ρ' x.2))=⟨ps.toList.map fun x=>(x.1,ρ' x.2)⟩:=by rw[<-Array.toList_inj];simp
  exact sok hs (by simp only[execOp,qi,this])
 ·rename_i t x;split at h
  ·rename_i a ha;obtain⟨hh,rfl⟩:=aE h
   replace h:=hh
   have:=hρ x;rw[ha] at this;generalize zj:ρ' x=cc at this;cases this with
   |ptr hA=>
    obtain⟨v',h1,h2⟩:=oC E R hA h;exact here h2 (by simp[execOp,qi,zj,Instr.loadAt,Instr.sureAddr,h1])
  ·cases h
 ·rename_i t x y;split at h
  ·rename_i a ha;split at h
   ·rename_i H2 qr;cases h;have:=hρ x;rw[ha] at this;generalize zj:ρ' x=cc at this;cases this with
    |ptr hA=>
     obtain⟨w',h1,h2⟩:=aDn E R hA (hρ y) qr;exact⟨φ,undef,w',List.prefix_refl _,h2,VR.undef φ,.inr ⟨by simp[execOp,qi,zj,Instr.storeAt,Instr.sureAddr,h1],rfl⟩⟩
   ·cases h
  ·cases h
 ·rename_i x;split at h
  ·rename_i a ha;cases h;have:=hρ x;rw[ha] at this;generalize zj:ρ' x=cc at this;cases this with
   |ptr hA=>exact here (.ptr hA) (by simp[execOp,qi,zj])
  ·rename_i g a b ha;cases h;have:=hρ x;rw[ha] at this;generalize zj:ρ' x=cc at this;cases this with
   |func fn hy q1 q2 q3 q4=>exact here (.func _ hy q1 q2 q3 q4) (by simp[execOp,qi,zj])
  ·cases h
 ·rename_i op t x y yt;obtain⟨hh,rfl⟩:=aE h
  replace h:=hh
  obtain⟨v',h1,h2⟩:=aKv E (hρ x) (hρ y) h x y w;refine here h1 ?_;simp only[execOp,qi];rw[Sem.run_bind,h2];rfl
 ·rename_i op t x;obtain⟨hh,rfl⟩:=aE h
  replace h:=hh
  obtain⟨v',h1,h2⟩:=aLk E (hρ x) h w;exact here h1 (by simp[execOp,qi,h2])
 ·rename_i s d x;exact sok (aVv E R (hρ x) h) (by simp only[execOp,qi])
 ·rename_i fn a b;obtain⟨hy,h⟩:fnY fn=false/\_:=by
   cases e:fnY fn with
   |true=>rw[e] at h;cases h
   |false=>rw[e,QF] at h;exact⟨rfl,h⟩
  cases h;have va:=gX hρ a.toList;have vb:=gX hρ b.toList;refine here (.func fn hy va.1 vb.1 va.2 vb.2) ?_;have e1:a.map ρ'=⟨a.toList.map ρ'⟩:=by rw[<-Array.toList_inj];simp
  have e2:b.map ρ'=⟨b.toList.map ρ'⟩:=by rw[<-Array.toList_inj];simp
  simp only[execOp,qi,Instr.makeFunc,e1,e2,Sem.run_bind,Sem.run_pure,Result.andThen_ok]
 ·rename_i t;cases h;exact sok (aGh R t) (by simp only[execOp,qi,Option.map_none])
 ·rename_i t l c;exact sok (yY E R (hρ l) (hρ c) h) (by simp only[execOp,qi])
 ·rename_i t x lo hi mx;obtain⟨hh,rfl⟩:=aE h
  replace h:=hh
  obtain⟨v',h1,h2⟩:=zP E R (hρ x) (tS hρ lo) (tS hρ hi) (tS hρ mx) h;exact here h1 (by simp[execOp,qi,h2])
 ·rename_i s x f;obtain⟨hh,rfl⟩:=aE h
  replace h:=hh
  obtain⟨v',h1,h2⟩:=pO E (hρ x) h w;exact here h1 (by simp[execOp,qi,h2])
 ·rename_i s x f;obtain⟨hh,rfl⟩:=aE h
  replace h:=hh
  obtain⟨v',h1,h2⟩:=aAm E (hρ x) h w;exact here h1 (by simp[execOp,qi,h2])
 ·rename_i t x ix;obtain⟨hh,rfl⟩:=aE h
  replace h:=hh
  obtain⟨v',h1,h2⟩:=pV E (hρ x) (hρ ix) h w;exact here h1 (by simp[execOp,qi,h2])
 ·rename_i t x ix;obtain⟨hh,rfl⟩:=aE h
  replace h:=hh
  obtain⟨v',h1,h2⟩:=aBa E (hρ x) (hρ ix) h w;exact here h1 (by simp[execOp,qi,h2])
 ·rename_i t x ix ok;obtain⟨hh,rfl⟩:=aE h
  replace h:=hh
  obtain⟨v',h1,h2⟩:=vB E R (hρ x) (hρ ix) h;exact here h1 (by simp[execOp,qi,h2])
 ·rename_i t m k x;split at h
  ·rename_i H2 qr;cases h;obtain⟨w',h1,h2⟩:=nO E R (hρ m) (hρ k) (hρ x) qr;exact⟨φ,undef,w',List.prefix_refl _,h1,VR.undef φ,.inr ⟨by simp[execOp,qi,h2],rfl⟩⟩
  ·cases h
 ·rename_i t m k x;split at h
  ·rename_i H2 qr;cases h;obtain⟨w',h1,h2⟩:=nO E R (hρ m) (hρ k) (hρ x) qr;exact⟨φ,undef,w',List.prefix_refl _,h1,VR.undef φ,.inr ⟨by simp[execOp,qi,h2],rfl⟩⟩
  ·cases h
 ·rename_i x i;obtain⟨hh,rfl⟩:=aE h
  replace h:=hh
  obtain⟨v',h1,h2⟩:=uW (P:=P) (hρ x) h w;exact here h1 (by simp[execOp,qi,h2])
 ·rename_i c;split at h<;>rename_i yi
  ·split at h
   ·rename_i x t qh yp;obtain⟨hh,rfl⟩:=aE h
    replace h:=hh
    obtain⟨v',h1,h2⟩:=aLb E R (ty:=o.type) (hρ x) h;have e1:c.args= #[x]:=by rw[<-Array.toList_inj,qh]
    have e2:c.argTypes= #[t]:=by rw[<-Array.toList_inj,yp]
    refine here h1 ?_;simp[execOp,qi,resolve,yi,invoke,builtin,e1,e2,h2]
   ·cases h
  ·split at h
   ·rename_i x t qh yp;obtain⟨hh,rfl⟩:=aE h
    replace h:=hh
    obtain⟨v',h1,h2⟩:=aKz E R (ty:=o.type) (hρ x) h;have e1:c.args= #[x]:=by rw[<-Array.toList_inj,qh]
    have e2:c.argTypes= #[t]:=by rw[<-Array.toList_inj,yp]
    refine here h1 ?_;simp[execOp,qi,resolve,yi,invoke,builtin,e1,e2,h2]
   ·cases h
  ·split at h
   ·rename_i s x sT xT qh yp;have e1:c.args= #[s,x]:=by rw[<-Array.toList_inj,qh]
    have e2:c.argTypes= #[sT,xT]:=by rw[<-Array.toList_inj,yp]
    refine sok (aGy E R o.type (hρ s) (hρ x) h) ?_;simp[execOp,qi,resolve,yi,invoke,builtin,e1,e2]
   ·cases h
  ·split at h
   ·rename_i d x dT xT qh yp;have e1:c.args= #[d,x]:=by rw[<-Array.toList_inj,qh]
    have e2:c.argTypes= #[dT,xT]:=by rw[<-Array.toList_inj,yp]
    refine sok (aXk E R (xT:=xT) o.type (hρ d) (hρ x) h) ?_;simp[execOp,qi,resolve,yi,invoke,builtin,e1,e2]
   ·cases h
  ·split at h
   ·rename_i x r qh;obtain⟨hh,rfl⟩:=aE h
    replace h:=hh
    obtain⟨v',h1,h2⟩:=vY (P:=P) false (r.map ρ) (r.map ρ') _ _ v (hρ x) (gX hρ r) h w;refine here h1 ?_;have e1:(c.args.map ρ').toList=ρ' x::r.map ρ':=by simp[qh]
    simp only[Bool.false_eq_true,if_false] at h2;simp[execOp,qi,resolve,yi,invoke,builtin,Builtin.min_,qh,h2]
   ·cases h
  ·split at h
   ·rename_i x r qh;obtain⟨hh,rfl⟩:=aE h
    replace h:=hh
    obtain⟨v',h1,h2⟩:=vY (P:=P) true (r.map ρ) (r.map ρ') _ _ v (hρ x) (gX hρ r) h w;refine here h1 ?_;simp only[if_true] at h2;simp[execOp,qi,resolve,yi,invoke,builtin,Builtin.max_,qh,h2]
   ·cases h
  ·split at h
   ·rename_i x qh;obtain⟨hh,rfl⟩:=aE h
    replace h:=hh
    obtain⟨v',h1,h2⟩:=zF (P:=P) (hρ x) h c.argTypes o.type w;have e1:c.args= #[x]:=by rw[<-Array.toList_inj,qh]
    refine here h1 ?_;simp[execOp,qi,resolve,yi,invoke,builtin,e1,h2]
   ·cases h
  ·split at h
   ·rename_i x y pt it qh yp;have e1:c.args= #[x,y]:=by rw[<-Array.toList_inj,qh]
    have e2:c.argTypes= #[pt,it]:=by rw[<-Array.toList_inj,yp]
    refine sok (aDt E R (it:=it) (ty:=o.type) (hρ x) (hρ y) h) ?_;simp[execOp,qi,resolve,yi,invoke,builtin,e1,e2]
   ·cases h
  ·rename_i x;split at h
   ·rename_i g hx;obtain⟨hh,rfl⟩:=aE h;have d5:=hρ x;rw[hx] at d5;generalize zj:ρ' x=cc at d5;cases d5 with
    |func fn' hy q1 q2 q3 q4=>
     rename_i a' b';obtain⟨_,r1,r2⟩:=aYc (gX hρ c.args.toList) hh w;refine here r1 ?_;have e1:c.args.map ρ'=⟨c.args.toList.map ρ'⟩:=by rw[<-Array.toList_inj];simp
     have ea:a'=[]:=List.eq_nil_of_length_eq_zero q1.symm;have eb:b'=[]:=List.eq_nil_of_length_eq_zero q2.symm;subst ea;subst eb;simp[execOp,qi,resolve,yi,zj,Deferred.ofValue,invoke,e1,r2]
   ·cases h
  ·cases h
 ·cases h
end Go.AM
namespace Go.AM
open Go.RowKit
variable [σ:Sg]
theorem qZ{H H':AH}{a:Addr}{vs:VL}(h:gP H a vs=some H'):H'.w0=H.w0:=by
 unfold gP at h;cases he:Nat.beq (a.block%2) 0 with
 |true=>rw[he] at h;cases h
 |false=>
  rw[he,QF] at h;split at h
  ·rename_i cs sz ex hg;cases hb:(Nat.ble (a.off+vs.length) cs.length&&aY vs) with
   |false=>rw[hb] at h;cases h
   |true=>rw[hb,QT] at h;cases h;rfl
  ·cases h
theorem aK{α:Type}{b:Bool}{x y:Option α}{z:α}(h:(bif b then x else y)=some z):x=some z\/y=some z:=by
 cases b
 ·exact .inr h
 ·exact .inl h
theorem nQ{tg size bytes n:Nat}{s:Value}{sLen:Nat}{new:VL}{H H':AH}{v:Value}(h:dJ tg size bytes n s sLen new H=some (v,H')):H'.w0=H.w0:=by
 unfold dJ at h;split at h
 ·rcases aK h with h|h
  ·cases h;rfl
  ·cases h
 ·cases h
section
variable {P:PG}(E:Env P)
theorem aIj{sT xT:TY}{s x v:Value}{H H':AH}(h:gJ E sT xT s x H=some (v,H')):H'.w0=H.w0:=by
 unfold gJ at h;split at h
 ·rcases aK h with h|h
  ·split at h
   ·unfold sW at h;split at h
    ·split at h
     ·split at h
      ·cases h
      ·cases h;rfl
     ·cases h
    ·cases h
   ·cases h
  ·split at h
   ·rcases aK h with h|h
    ·cases h
    ·split at h
     ·split at h
      ·rcases aK h with h|h
       ·rcases aK h with h|h
        ·cases h;rfl
        ·cases h
       ·split at h
        ·rcases aK h with h|h
         ·exact nQ h
         ·cases h
        ·rcases aK h with h|h
         ·rcases aK h with h|h
          ·cases h
          ·exact nQ h
         ·split at h
          ·rcases aK h with h|h
           ·rcases aK h with h|h
            ·split at h
             ·rename_i H2 qr;cases h;exact qZ qr
             ·cases h
            ·rcases aK h with h|h
             ·rcases aK h with h|h
              ·exact nQ h
              ·cases h
             ·rcases aK h with h|h
              ·cases h;rfl
              ·cases h
           ·cases h
          ·cases h
      ·cases h
     ·cases h
   ·cases h
 ·cases h
theorem aQb{dT:TY}{d x v:Value}{H H':AH}(h:aFu E dT d x H=some (v,H')):H'.w0=H.w0:=by
 unfold aFu at h;split at h
 ·split at h
  ·split at h
   ·split at h
    ·rcases aK h with h|h
     ·cases h;rfl
     ·split at h
      ·rename_i H2 qr;cases h;exact qZ qr
      ·cases h
    ·rcases aK h with h|h
     ·cases h
     ·cases h;rfl
   ·cases h
  ·cases h
 ·cases h
theorem zK{t:TY}{m k v:Value}{H H':AH}(h:fR E t m k v H=some H'):H'.w0=H.w0:=by
 unfold fR at h;split at h
 ·rcases aK h with h|h
  ·cases h
  ·split at h
   ·rcases aK h with h|h
    ·split at h
     ·cases h;rfl
     ·cases h;rfl
     ·cases h
    ·cases h
   ·cases h
 ·cases h
theorem xS{t:TY}{m k v:Value}{H H':AH}(h:iK E t m k v H=some H'):H'.w0=H.w0:=by
 unfold iK at h;split at h
 ·rcases aK h with h|h
  ·cases h
  ·split at h
   ·rcases aK h with h|h
    ·split at h
     ·cases h;rfl
     ·cases h
    ·cases h
   ·cases h
 ·cases h
theorem yK{t:TY}{m k v:Value}{H H':AH}(h:fY E t m k v H=some H'):H'.w0=H.w0:=by
 rcases xQ h with h|h
 ·exact zK E h
 ·exact xS E h
theorem aTc{s d:TY}{x v:Value}{H H':AH}(h:kK E s d x H=some (v,H')):H'.w0=H.w0:=by
 unfold kK at h;split at h
 ·cases h;rfl
 ·cases h;rfl
 ·split at h
  ·cases h;rfl
  ·cases h
 ·split at h
  ·split at h
   ·rcases aK h with h|h
    ·cases h
    ·cases h;rfl
   ·split at h
    ·split at h
     ·cases h;rfl
     ·cases h
    ·cases h
  ·cases h
 ·rcases aK h with h|h
  ·split at h
   ·cases h;rfl
   ·cases h
  ·cases h
 ·rcases aK h with h|h
  ·cases h
  ·split at h
   ·rcases aK h with h|h
    ·cases h
    ·rcases aK h with h|h
     ·cases h;rfl
     ·cases h
   ·cases h
 ·rcases aK h with h|h
  ·cases h
  ·split at h
   ·rcases aK h with h|h
    ·cases h
    ·rcases aK h with h|h
     ·cases h;rfl
     ·cases h
   ·cases h
 ·cases h
theorem aEo{pt:TY}{x y v:Value}{H H':AH}(h:kX E pt x y H=some (v,H')):H'.w0=H.w0:=by
 unfold kX at h;split at h
 ·rcases aK h with h|h
  ·cases h;rfl
  ·split at h
   ·rcases aK h with h|h
    ·cases h
    ·split at h
     ·rcases aK h with h|h
      ·split at h
       ·split at h
        ·cases h;rfl
        ·cases h
       ·cases h
      ·cases h
     ·cases h
   ·cases h
 ·cases h
theorem lY{ρ:Operand->Value}{op:Op}{H H':AH}{v:Value}(h:aop E ρ op H=some (v,H')):H'.w0=H.w0:=by
 unfold aop at h;split at h
 case h_1|h_2|h_5|h_14|h_15=>first|(cases h;rfl)|(rename_i fn a b;cases e:fnY fn with
  |true=>rw[e] at h;cases h
  |false=>rw[e,QF] at h;cases h;rfl)
 case h_3=>split at h<;>cases h<;>rfl
 case h_4=>
  unfold uK at h;split at h
  ·split at h
   ·cases h;rfl
   ·cases h
  ·cases h
 case h_7=>
  unfold dW at h;split at h
  ·split at h
   ·rcases aK h with h|h
    ·split at h
     ·split at h
      ·rcases aK h with h|h
       ·cases h;rfl
       ·cases h
      ·cases h
     ·cases h
    ·cases h
   ·cases h
  ·cases h
 case h_8=>
  split at h
  ·rw[(aE h).2]
  ·cases h
 case h_9=>
  split at h
  ·split at h
   ·rename_i qr;cases h;unfold jH at qr;split at qr
    ·rcases aK qr with qr|qr
     ·exact qZ qr
     ·cases qr
    ·cases qr
   ·cases h
  ·cases h
 case h_10=>split at h<;>cases h<;>rfl
 case h_13=>exact aTc E h
 case h_16=>
  unfold jT at h;split at h
  ·split at h
   ·split at h
    ·split at h
     ·cases h;rfl
     ·cases h
    ·cases h
   ·cases h
  ·cases h
 case h_23|h_24=>
  split at h
  ·rename_i qr;cases h;exact yK E qr
  ·cases h
 case h_26=>
  split at h
  ·split at h
   ·rw[(aE h).2]
   ·cases h
  ·split at h
   ·rw[(aE h).2]
   ·cases h
  ·split at h
   ·exact aIj E h
   ·cases h
  ·split at h
   ·exact aQb E h
   ·cases h
  ·split at h
   ·rw[(aE h).2]
   ·cases h
  ·split at h
   ·rw[(aE h).2]
   ·cases h
  ·split at h
   ·rw[(aE h).2]
   ·cases h
  ·split at h
   ·exact aEo E h
   ·cases h
  ·split at h
   ·rw[(aE h).2]
   ·cases h
  ·cases h
 case h_27=>cases h
 all_goals rw[(aE h).2]
theorem tE{ρ ρ':Operand->Value}(op:Op)(H:AH)(h:∀x∈op.operands,ρ x=ρ' x):aop E ρ op H=aop E ρ' op H:=by
 have pairs:∀ps:Array (Nat×Operand),(∀x∈(ps.toList.map (·.2)).toArray,ρ x=ρ' x)->(ps.toList.map fun x=>(x.1,ρ x.2))=(ps.toList.map fun x=>(x.1,ρ' x.2)):=fun ps hp=>
  List.map_congr_left fun p hm=>by rw[hp p.2 (by simp;exact⟨p.1,Array.mem_toList_iff.1 hm⟩)]
 cases op<;>simp only[Op.operands] at h<;>simp only[aop]
 case build t ps=>rw[pairs ps h]
 case buildSlice t n ps=>rw[pairs ps h]
 case makeFunc fn first captured=>
  rw[List.map_congr_left (l:=first.toList) fun x hx=>h x (by simp[Array.mem_toList_iff.1 hx]),List.map_congr_left (l:=captured.toList) fun x hx=>h x (by simp[Array.mem_toList_iff.1 hx])]
 case makeMap t r=>cases r<;>rfl
 case slice t x lo hi mx=>cases lo<;>cases hi<;>cases mx<;>simp_all
 case call c=>
  have ha:∀x∈c.args.toList,ρ x=ρ' x:=fun x hx=>h x (by simp[Call.operands,Array.mem_toList_iff.1 hx]);cases hc:c.callee with
  |value f=>
   have e1:ρ f=ρ' f:=h f (by simp[Call.operands,hc]);simp only[e1,List.map_congr_left ha]
  |invoke r m=>rfl
  |builtin b=>
   cases b<;>(try rfl)<;>simp only
   ·split
    ·rename_i hs xs hl ht;rw[ha _ (by rw[hl];simp),ha _ (by rw[hl];simp)]
    ·rfl
   ·split
    ·rename_i hl ht;rw[ha _ (by rw[hl];simp)]
    ·rfl
   ·split
    ·rename_i hs xs hl ht;rw[ha _ (by rw[hl];simp),ha _ (by rw[hl];simp)]
    ·rfl
   ·split
    ·rename_i hl ht;rw[ha _ (by rw[hl];simp)]
    ·rfl
   ·split
    ·rename_i x r hl;rw[ha x (by rw[hl];simp),List.map_congr_left fun y hy=>ha y (by rw[hl];simp[hy])]
    ·rfl
   ·split
    ·rename_i x r hl;rw[ha x (by rw[hl];simp),List.map_congr_left fun y hy=>ha y (by rw[hl];simp[hy])]
    ·rfl
   ·split
    ·rename_i x hl;rw[ha x (by rw[hl];simp)]
    ·rfl
   ·split
    ·rename_i hl ht;rw[ha _ (by rw[hl];simp),ha _ (by rw[hl];simp)]
    ·rfl
 all_goals (first|rfl|(simp_all;done))
def bN(ρ:Operand->Value)(op:Op):Option (FuncId×List Value):=
 match op with
 |.call c=>(match c.callee with
  |.value x=>(match ρ x with
   |.func (.func g) ⟨a⟩ ⟨b⟩=>(match E.fn g with
    |some _=>some (g,a++(c.args.toList.map ρ++b))
    |none=>none)
   |_=>none)
  |_=>none)
 |_=>none
theorem pN{ρ ρ':Operand->Value}(op:Op)(h:∀x∈op.operands,ρ x=ρ' x):bN E ρ op=bN E ρ' op:=by
 cases op<;>simp only[bN]
 case call c=>
  simp only[Op.operands] at h;cases hc:c.callee with
  |value f=>
   have e1:ρ f=ρ' f:=h f (by simp[Call.operands,hc]);have ha:c.args.toList.map ρ=c.args.toList.map ρ':=List.map_congr_left fun x hx=>h x (by simp[Call.operands,Array.mem_toList_iff.1 hx]);simp only[e1,ha]
  |invoke r m=>rfl
  |builtin b=>rfl
theorem qX{φ:PL}{ρ ρ':Operand->Value}(hρ:∀x,VR φ (ρ x) (ρ' x)){o:Oper}{g:FuncId}{args:VL}(h:bN E ρ o.op=some (g,args))(w:World):
 ∃args',VRs φ args args'/\(execOp ρ' o).run P w=.ok (.enter g ⟨args'⟩) w:=by
 unfold bN at h;split at h
 ·rename_i c qi;split at h
  ·rename_i x hc;split at h
   ·rename_i g' a b hx;split at h
    ·rename_i fn d6;cases h;have hv:=hρ x;rw[hx] at hv;generalize zj:ρ' x=cc at hv;cases hv with
     |func fn' hy q1 q2 q3 q4=>
      rename_i a' b';refine⟨a'++(c.args.toList.map ρ'++b'),VRs.append ⟨q1,q3⟩ ((gX hρ _).append ⟨q2,q4⟩),?_⟩;obtain⟨F,hF,hb,_,_,hn⟩:=E.fn_ok _ _ d6;have e1:c.args.map ρ'=⟨c.args.toList.map ρ'⟩:=by rw[<-Array.toList_inj];simp
      have ra:¬F.name= "runtime.NumGoroutine":=by simpa using hn
      simp[execOp,qi,resolve,hc,zj,Deferred.ofValue,invoke,callFunc,hF,ra,hb,e1]
    ·cases h
   ·cases h
  ·cases h
 ·cases h
end
abbrev AQ:=Exit->Fr->AH->Prop
def gY [Pins](φ:PL)(w0:Base)(Q:AQ):Exit->Act->World->Prop:=fun e a w=>∃φ' f H,φ <+: φ'/\FRel φ' f a/\Rel φ' H w/\H.w0=w0/\Q e f H
theorem lB [Pins]{φ φ':PL}(h:φ <+: φ'){w0:Base}{Q:AQ}{e:Exit}{a:Act}{w:World}(k:gY φ' w0 Q e a w):gY φ w0 Q e a w:=by
 obtain⟨ψ,f,H,h1,h2⟩:=k;exact⟨ψ,f,H,h.trans h1,h2⟩
def cM(r:Option Nat):Fence:={Fence.wide with round:=r}
structure Gam1 where
 y:Bool
 n0:Nat
 ok:Pins->Option Nat->List Place->Prop
 mono:∀(π:Pins) (ro:Option Nat) (φ φ':PL),φ <+: φ'->ok π ro φ->ok π ro φ'
abbrev Gam:Type:=Inhabited Gam1
def Gam.ok(γ:Gam)(π:Pins)(ro:Option Nat)(φ:PL):Prop:=(@default Gam1 γ).ok π ro φ
theorem Gam.mono(γ:Gam){π:Pins}{ro:Option Nat}{φ φ':PL}(h:φ <+: φ')(k:γ.ok π ro φ):γ.ok π ro φ':=(@default Gam1 γ).mono π ro φ φ' h k
def Gam.y(γ:Gam):Bool:=(@default Gam1 γ).y
def Gam.n0(γ:Gam):Nat:=(@default Gam1 γ).n0
instance allG:Gam:=⟨⟨false,0,fun _ _ _=>True,fun _ _ _ _ _ _=>trivial⟩⟩
def ACode [γ:Gam](P:PG)(c:Code)(Q:AQ)(f:Fr)(H:AH):Prop:=∀(π:Pins) (ro:Option Nat) φ a w,γ.ok π ro φ->FRel φ f a->Rel φ H w->c.wpIn (cM ro) 0 P (gY φ H.w0 Q) a w
theorem yS{P:PG}{o:Oper}{a:Act}{K:Act->World->Prop}{Q:Exit->Act->World->Prop}{ro:Option Nat}{r:Result Next}(h:o.upon P a K Q r):o.uponIn (cM ro) 0 P a K Q r:=by
 cases r with
 |ok n w'=>
  cases n<;>simp only[Oper.upon,Oper.uponIn] at h ⊢ <;>
   first
    |exact h
    |exact⟨fun e=>by simp[cM,Fence.wide] at e,callsIn_wide.2 h⟩
    |exact⟨fun e=>by simp[cM,Fence.wide] at e,fun c cs hr=>by
     obtain⟨v,w2,q,s⟩:=h c cs;exact⟨v,w2,q,stepsIn_wide.2 s⟩⟩
    |exact h.elim
 |halt x w'=>cases x<;>simp only[Oper.upon,Oper.uponIn] at h ⊢ <;>exact h
theorem Oper.wpIn_of{P:PG}{o:Oper}{a:Act}{w:World}{K:Act->World->Prop}{Q:Exit->Act->World->Prop}(ro:Option Nat)(hd:∀c,o.op≠.defer c)(h:o.wp P a w K Q):o.wpIn (cM ro) 0 P a w K Q:=by
 refine⟨fun f _=>trivial,?_⟩;rw[Oper.semAt_eq _ _ _ hd];exact yS h
theorem aMq{P:PG}{ops:OA}{Q:Exit->Act->World->Prop}(ro:Option Nat)(pp:∀(i:Nat) (o:Oper) (c:Call),ops[i]?=some o->o.op≠.defer c)(hQ:¬LetsOut Q){i:Nat}{K:Act->World->Prop}{a:Act}{w:World}(h:wpOp P ops Q i K a w):wpOpIn (cM ro) 0 P ops Q i K a w:=by
 unfold wpOp at h;unfold wpOpIn;cases ho:ops[i]? with
 |none=>rw[ho] at h;exact h
 |some o=>
  rw[ho] at h;simp only at h ⊢;cases hw:Region.wanted o (yielded ops a.tmps) with
  |true=>
   rw[hw] at h;simp only[if_true] at h ⊢;rcases h with h|h
   ·exact Oper.wpIn_of ro (fun c=>pp i o c ho) h
   ·exact absurd h.2 hQ
  |false=>
   rw[hw] at h;simp only[Bool.false_eq_true,if_false] at h ⊢;exact⟨fun f _=>trivial,h⟩
theorem xO{P:PG}{md:Region.Mode}{ops:OA}{Q:Exit->Act->World->Prop}(ro:Option Nat)(pp:∀(i:Nat) (o:Oper) (c:Call),ops[i]?=some o->o.op≠.defer c)(hQ:¬LetsOut Q):∀(n:Nat) (l:Array Bool) (a:Act) (w:World),wpAny P md ops Q n l a w->wpAnyIn (cM ro) 0 P md ops Q n l a w
 |0,l,a,w,h=>h
 |n+1,l,a,w,h=>⟨h.1,fun i hi=>wpOpIn_mono (fun a w k=>xO ro pp hQ n _ a w k) (aMq ro pp hQ (h.2 i hi))⟩
def ACalls(P:PG)(g:FuncId)(args:VL)(H:AH)(Q:Value->AH->Prop):Prop:=
 ∀(π:Pins) φ args' w,VRs φ args args'->Rel φ H w->Calls P g ⟨args'⟩ w fun e w'=>∃φ' v v' H',φ <+: φ'/\e=.returned v'/\VR φ' v v'/\Rel φ' H' w'/\H'.w0=H.w0/\Q v H'
theorem ACalls.mono{P:PG}{g:FuncId}{args:VL}{H:AH}{Q Q':Value->AH->Prop}(h:ACalls P g args H Q)(hq:∀v H',Q v H'->Q' v H'):ACalls P g args H Q':=
 fun π φ args' w hv hR=>(h π φ args' w hv hR).mono fun _ _ ⟨φ',v,v',H',h1,h2,h3,h4,h5,h6⟩=>⟨φ',v,v',H',h1,h2,h3,h4,h5,hq _ _ h6⟩
theorem jB{Q Q':Exit->Act->World->Prop}(h:∀e a w,Q e a w->Q' e a w)(k:LetsOut Q):LetsOut Q':=let ⟨a,w,q⟩:=k;⟨a,w,h _ _ _ q⟩
theorem Oper.wpIn_monoQ{P:PG}{o:Oper}{F:Fence}{n:Nat}{K K':Act->World->Prop}{Q Q':Exit->Act->World->Prop}(h:∀e a w,Q e a w->Q' e a w)(hK:∀a w,K a w->K' a w){a:Act}{w:World}(k:o.wpIn F n P a w K Q):o.wpIn F n P a w K' Q':=by
 unfold Oper.wpIn at*;refine⟨k.1,?_⟩;have k:=k.2;generalize (o.semAt F.round a.eval).run P w=r at*;cases r with
 |ok n w'=>
  cases n<;>simp only[Oper.uponIn] at k ⊢ <;>
   first
    |exact hK _ _ k
    |exact⟨k.1,CallsIn.mono k.2 (fun e w'' he=>by cases e<;>first|exact hK _ _ he|exact h _ _ _ he|exact jB h he)⟩
    |exact⟨k.1,RowsIn.mono k.2 (fun _ _ he=>hK _ _ he)⟩
    |exact⟨k.1,RoundIn.mono k.2 (fun e w'' he=>by cases e<;>first|exact hK _ _ he|exact h _ _ _ he|exact jB h he)⟩
 |halt x w'=>cases x<;>simp only[Oper.uponIn] at k ⊢ <;>first|exact h _ _ _ k|exact k
theorem nE{P:PG}{F:Fence}{n:Nat}{ops:OA}{Q Q':Exit->Act->World->Prop}(h:∀e a w,Q e a w->Q' e a w):∀(l:NL) (a:Act) (w:World),wpOpsIn F n P ops Q l a w->wpOpsIn F n P ops Q' l a w:=by
 intro l
 induction l with
 |nil=>intro a w k;exact h _ _ _ k
 |cons i rest ih=>
  intro a w k;simp only[wpOpsIn] at k ⊢;cases ho:ops[i]? with
  |none=>simp only[ho] at k ⊢;exact ih a w k
  |some o=>
   simp only[ho] at k ⊢;split
   ·rename_i hw;simp only[hw,if_true] at k;exact Oper.wpIn_monoQ h ih k
   ·rename_i hw;simp only[hw] at k;exact⟨k.1,ih _ _ k.2⟩
def aR(ops:OA)(sv:Tmp->Value)(o:Oper):Bool:=
 match o.guard with
 |none=>true
 |some (j,want)=>(match ops[j]? with
  |some oj=>(match oj.dst with
   |some d=>(match sv d with
    |.bool b=>b==want
    |_=>false)
   |none=>false)
  |none=>false)
def VRel [π:Pins](φ:PL)(n:Nat)(sv:Tmp->Value)(a:Act):Prop:=a.defers=π.ds/\a.tmps.size=n/\∀t,VR φ (sv t) (a.tmps.getD t undef)
theorem aGe{φ:PL}{v v':Value}(h:VR φ v v')(b:Bool):v=.bool b↔v'=.bool b:=by
 cases h
 case ph k=>rcases σ.kind k with⟨c,n,e⟩|⟨s,e⟩<;>rw[e]<;>simp
 case emp e=>obtain⟨_,_,rfl⟩:=e;simp
 all_goals simp
theorem fV{φ:PL}{sv:Tmp->Value}{a:Act}(ops:OA)(o:Oper)
 (h:∀d∈o.looksAt ops,VR φ (sv d) (a.tmps.getD d undef)):Region.wanted o (yielded ops a.tmps)=aR ops sv o:=by
 unfold Region.wanted aR;cases hg:o.guard with
 |none=>rfl
 |some jw=>
  obtain⟨j,want⟩:=jw;simp only[yielded];cases hj:ops[j]? with
  |none=>simp
  |some oj=>
   cases hd:oj.dst with
   |none=>simp[hd]
   |some d=>
    simp only[hd,Option.bind_some];have hv:=h d (by simp[Oper.looksAt,hg,hj,hd]);by_cases qj:d<a.tmps.size
    ·have e:a.tmps[d]?=some (a.tmps.getD d undef):=by simp[Array.getD_eq_getD_getElem?,qj]
     rw[e];generalize a.tmps.getD d undef=x at hv;generalize sv d=y at hv;cases hv
     case ph k=>rcases σ.kind k with⟨c,n,e⟩|⟨s,e⟩<;>rw[e]<;>rfl
     case emp e=>obtain⟨_,_,rfl⟩:=e;rfl
     all_goals (first|rfl|(rename_i b;cases b<;>cases want<;>rfl))
    ·have e:a.tmps[d]?=none:=Array.getElem?_eq_none (Nat.le_of_not_lt qj);have e2:a.tmps.getD d undef=undef:=by simp[Array.getD_eq_getD_getElem?,e]
     rw[e2] at hv;rw[e];have hy:∀b,sv d≠.bool b:=fun b q=>by have:=(aGe hv b).1 q;unfold undef at this;cases this
     generalize sv d=y at hy;cases y<;>first|rfl|(exact absurd rfl (hy _))
def AOps [γ:Gam](P:PG)(ops:OA)(l:NL)(Q:AQ)(f:Fr)(H:AH):Prop:=∀(π:Pins) (ro:Option Nat) φ a w,γ.ok π ro φ->FRel φ f a->Rel φ H w->wpOpsIn (cM ro) 0 P ops (gY φ H.w0 Q) l a w
def bV(f:Fr)(t:Tmp):Value:=aN f (.tmp t)
section
variable [γ:Gam]{P:PG}{ops:OA}{Q:AQ}{f:Fr}{H:AH}
theorem AOps.nil(h:Q .normal f H):AOps P ops [] Q f H:=fun π ro φ _ _ hg hf hR=>⟨φ,f,H,List.prefix_refl _,hf,hR,rfl,h⟩
theorem AOps.skip{i:Nat}{rest:NL}{o:Oper}{g:Fr}(ho:ops[i]?=some o)(hw:aR ops (bV f) o=false)(hp:f.put o.dst undef=some g)(h:AOps P ops rest Q g H):AOps P ops (i::rest) Q f H:=by
 intro π ro φ a w hg hf hR;have x5:Region.wanted o (yielded ops a.tmps)=false:=by rw[fV (φ:=φ) (sv:=bV f) ops o (fun d _=>hf.2.2 d),hw]
 simp only[wpOpsIn,ho,x5,Bool.false_eq_true,if_false];exact⟨fun _ _=>trivial,h _ ro φ _ w hg (hf.put (VR.undef φ) hp) hR⟩
theorem bDp(E:Env P){ρ:Operand->Value}{op:Op}{r:Value×AH}(h:aop E ρ op H=some r):∀c,op≠.defer c:=by
 intro c e;subst e;simp[aop] at h
theorem aHj(E:Env P){ρ:Operand->Value}{op:Op}{r:FuncId×List Value}(h:bN E ρ op=some r):∀c,op≠.defer c:=by
 intro c e;subst e;simp[bN] at h
theorem AOps.op(E:Env P){i:Nat}{rest:NL}{o:Oper}{g:Fr}{v:Value}{H':AH}(ho:ops[i]?=some o)(hw:aR ops (bV f) o=true)(qi:aop E (aN f) o.op H=some (v,H'))(hp:f.put o.dst v=some g)
 (h:AOps P ops rest Q g H'):AOps P ops (i::rest) Q f H:=by
 intro π ro φ a w hg hf hR;have x5:Region.wanted o (yielded ops a.tmps)=true:=by rw[fV (φ:=φ) (sv:=bV f) ops o (fun d _=>hf.2.2 d),hw]
 simp only[wpOpsIn,ho,x5,if_true];obtain⟨φ',v',w',h1,h2,h3,h4⟩:=aCh E hR (ρ:=aN f) (ρ':=a.eval) hf.eval qi;have zo:=lY E qi;have wg:wpOpsIn (cM ro) 0 P ops (gY φ H.w0 Q) rest (a.put o.dst v') w':=by
  refine nE (fun e a w k=>lB h1 k) rest _ _ ?_;rw[<-zo];exact h _ ro φ' _ w' (γ.mono h1 hg) ((hf.mono h1).put h3 hp) h2
 refine Oper.wpIn_of ro (bDp E qi) ?_;unfold Oper.wp;rcases h4 with h4|⟨h4,rfl⟩
 ·rw[h4];exact wg
 ·rw[h4];exact wg
theorem AOps.call(E:Env P){i:Nat}{rest:NL}{o:Oper}{k:FuncId}{args:VL}(ho:ops[i]?=some o)(hw:aR ops (bV f) o=true)(hc:bN E (aN f) o.op=some (k,args))
 (h:ACalls P k args H fun v H'=>∃g,f.put o.dst v=some g/\AOps P ops rest Q g H'):AOps P ops (i::rest) Q f H:=by
 intro π ro φ a w hg hf hR;have x5:Region.wanted o (yielded ops a.tmps)=true:=by rw[fV (φ:=φ) (sv:=bV f) ops o (fun d _=>hf.2.2 d),hw]
 simp only[wpOpsIn,ho,x5,if_true];obtain⟨args',h1,h2⟩:=qX E (ρ:=aN f) (ρ':=a.eval) hf.eval hc w;refine Oper.wpIn_of ro (aHj E hc) ?_;unfold Oper.wp;rw[h2];refine(h _ φ args' w h1 hR).mono ?_;rintro e w' ⟨φ',v,v',H',h3,rfl,h4,h5,h6,g,hp,u7⟩;refine nE (fun e a w k=>lB h3 k) rest _ _ ?_;rw[<-h6];exact u7 _ ro φ' _ w' (γ.mono h3 hg) ((hf.mono h3).put h4 hp) h5
def AYield(P:PG)(o:Oper)(f:Fr)(H:AH)(v:Value)(H':AH):Prop:=
 γ.y=true/\(∃c,o.op=.call c)/\∀(π:Pins) (ro:Option Nat) φ a w,γ.ok π ro φ->(∀x,VR φ (aN f x) (a.eval x))->Rel φ H w->∀(next:Act->World->Prop) (Q:Exit->Act->World->Prop),
  (∀φ' v' w',φ <+: φ'->VR φ' v v'->Rel φ' H' w'->next (a.put o.dst v') w')->o.wpIn (cM ro) 0 P a w next Q
theorem AOps.yield{i:Nat}{rest:NL}{o:Oper}{g:Fr}{v:Value}{H':AH}(ho:ops[i]?=some o)(hw:aR ops (bV f) o=true)(zo:H'.w0=H.w0)(hy:AYield P o f H v H')(hp:f.put o.dst v=some g)(h:AOps P ops rest Q g H'):AOps P ops (i::rest) Q f H:=by
 intro π ro φ a w hg hf hR;have x5:Region.wanted o (yielded ops a.tmps)=true:=by rw[fV (φ:=φ) (sv:=bV f) ops o (fun d _=>hf.2.2 d),hw]
 simp only[wpOpsIn,ho,x5,if_true];refine hy.2.2 π ro φ a w hg hf.eval hR _ _ fun φ' v' w' h1 h3 h2=>?_;refine nE (fun e a w k=>lB h1 k) rest _ _ ?_;rw[<-zo];exact h _ ro φ' _ w' (γ.mono h1 hg) ((hf.mono h1).put h3 hp) h2
theorem ACode.of_any{id:Nat}{g:Fr}{K:AH}(hm:P.follows .mixedOrders=true)(pp:∀(i:Nat) (o:Oper) (c:Call),ops[i]?=some o->o.op≠.defer c)
 (h:∀(π:Pins) φ a w,FRel φ f a->Rel φ H w->wpAny P .any ops (gY φ H.w0 fun e f' H'=>e=.normal/\f'=g/\H'=K) ops.size (Array.replicate ops.size false) a w.drew)(hQ:Q .normal g K):ACode P (.region id ops true) Q f H:=by
 intro π ro φ a w hg hf hR;refine wpIn_mono (wpIn_region_any hm (xO ro pp ?_ _ _ _ _ (h π φ a w hf hR))) ?_
 ·rintro⟨a,w,φ',f',H',_,_,_,_,e,_⟩;cases e
 ·rintro e a' w' ⟨φ',f',H',h1,h2,h3,h4,rfl,rfl,rfl⟩;exact⟨φ',_,_,h1,h2,h3,h4,hQ⟩
end
end Go.AM
