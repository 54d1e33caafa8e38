/-
  An abstract machine that runs a program of the given form, and its soundness, part 9.
-/
import Derived.Test.YtlikijmihbgloaaGreatDoorAb8
set_option linter.unusedVariables false
set_option linter.unusedSimpArgs false
set_option linter.unusedSectionVars false
noncomputable section
namespace Go.AM
open Go.RowKit
structure Ob (p k:Prop):Prop where
 h:p
 t:k
structure HyP (p:Prop):Prop where
 h:p
structure HyX (p:Prop):Prop where
 h:p
structure Bad (n:Nat):Prop where
 h:False
theorem Bad.elim{n:Nat}{p:Prop}(b:Bad n):p:=b.h.elim
structure Ag (p k:Prop):Prop where
 h:p
 t:k
structure Pr (p:Prop):Prop where
 h:p
structure Kb (b:Bool) (k:Prop):Prop where
 h:b=true
 t:k
structure Sp (p x y:Prop):Prop where
 t:p->x
 f:¬p->y
theorem Sp.yes{p x y:Prop}(h:p)(k:x):Sp p x y:=⟨fun _=>k,fun n=>absurd h n⟩
theorem Sp.no{p x y:Prop}(h:¬p)(k:y):Sp p x y:=⟨fun a=>absurd a h,fun _=>k⟩
structure Sf (p x y:Prop):Prop where
 h:(p/\x)\/y
theorem Sf.eq{p x y:Prop}(h:p)(k:x):Sf p x y:=⟨.inl ⟨h,k⟩⟩
theorem Sf.no{p x y:Prop}(k:y):Sf p x y:=⟨.inr k⟩
structure Ix (j:Int) (p q:Prop):Prop where
 h:p\/q
theorem Ix.gen{j:Int}{p q:Prop}(h:p):Ix j p q:=⟨.inl h⟩
theorem Ix.lit{j:Int}{p q:Prop}(_:0<=j)(h:q):Ix j p q:=⟨.inr h⟩
structure Wr (lo hi e:Int) (K:Int->Prop):Prop where
 h:∀z,lo<=z->z<=hi->(lo<=e->e<=hi->z=e)->(lo=0->z=e%(hi+1))->K z
theorem Wr.ex{lo hi e:Int}{K:Int->Prop}(h1:lo<=e)(h2:e<=hi)(h:K e):Wr lo hi e K:=⟨fun z _ _ hz _=>by rw[hz h1 h2];exact h⟩
theorem Wr.cl{lo hi e z:Int}{K:Int->Prop}(h:e=z)(h1:lo<=z)(h2:z<=hi)(k:K z):Wr lo hi e K:=by subst h;exact Wr.ex h1 h2 k
theorem sY{a b:Prop}(_:a)(k:b):a->b:=fun _=>k
theorem Wr.in'{lo hi e:Int}{K:Int->Prop}(h:∀z,lo<=z->z<=hi->K z):Wr lo hi e K:=⟨fun z a b _ _=>h z a b⟩
theorem Wr.md{lo hi e:Int}{K:Int->Prop}(h0:lo=0)(h:∀z,lo<=z->z<=hi->z=e%(hi+1)->K z):Wr lo hi e K:=⟨fun z a b _ d=>h z a b (d h0)⟩
structure Qu (lo hi n m:Int) (K:Int->Prop):Prop where
 h:∀z,lo<=z->z<=hi->(0<=n->0<m->z=n / m/\0<=z/\z<=n)->K z
theorem Qu.ex{lo hi n m:Int}{K:Int->Prop}(h1:0<=n)(h2:0<m)(h:∀z,z=n / m->0<=z->z<=n->K z):Qu lo hi n m K:=⟨fun z _ _ hz=>h z (hz h1 h2).1 (hz h1 h2).2.1 (hz h1 h2).2.2⟩
theorem Qu.in'{lo hi n m:Int}{K:Int->Prop}(h:∀z,lo<=z->z<=hi->K z):Qu lo hi n m K:=⟨fun z a b _=>h z a b⟩
structure Rm (lo hi n m:Int) (K:Int->Prop):Prop where
 h:∀z,lo<=z->z<=hi->(0<=n->0<=z/\(0<m->z=n%m))->(0<m->z<m/\ -m<z)->K z
theorem Rm.ex{lo hi n m:Int}{K:Int->Prop}(h1:0<=n)(h2:0<m)(h:∀z,z=n%m->0<=z->z<m->K z):Rm lo hi n m K:=⟨fun z _ _ hz hy=>h z ((hz h1).2 h2) (hz h1).1 (hy h2).1⟩
theorem Rm.in'{lo hi n m:Int}{K:Int->Prop}(h:∀z,lo<=z->z<=hi->K z):Rm lo hi n m K:=⟨fun z a b _ _=>h z a b⟩
structure An (lo hi n m:Int) (K:Int->Prop):Prop where
 h:∀z,lo<=z->z<=hi->(0<=m->m<=hi->0<=z/\z<=m)->(0<=n->n<=1->(m= -1->z=n)/\(m= -2->z=0))->(0<=n->0<=m->z=((n.toNat &&& m.toNat:Nat):Int))->K z
theorem An.ex{lo hi n m:Int}{K:Int->Prop}(h1:0<=m)(h2:m<=hi)(h:∀z,0<=z->z<=m->K z):An lo hi n m K:=⟨fun z _ _ hz _ _=>h z (hz h1 h2).1 (hz h1 h2).2⟩
theorem An.m1{lo hi n m:Int}{K:Int->Prop}(h1:m= -1)(h2:0<=n/\n<=1)(h:K n):An lo hi n m K:=⟨fun z _ _ _ hz _=>(hz h2.1 h2.2).1 h1▸h⟩
theorem An.m2{lo hi n m:Int}{K:Int->Prop}(h1:m= -2)(h2:0<=n/\n<=1)(h:K 0):An lo hi n m K:=⟨fun z _ _ _ hz _=>(hz h2.1 h2.2).2 h1▸h⟩
theorem An.bt{lo hi n m:Int}{K:Int->Prop}(h1:0<=n)(h2:0<=m)(h:∀z,lo<=z->z<=hi->z=((n.toNat &&& m.toNat:Nat):Int)->K z):An lo hi n m K:=⟨fun z a b _ _ c=>h z a b (c h1 h2)⟩
structure Oo (lo hi n m:Int) (K:Int->Prop):Prop where
 h:∀z,lo<=z->z<=hi->(0<=n->n<=127->0<=m->m<=127->0<=z/\z<=127)->(0<=n->0<=m->z=((n.toNat ||| m.toNat:Nat):Int))->K z
theorem Oo.ex{lo hi n m:Int}{K:Int->Prop}(h1:(0<=n/\n<=127)/\0<=m/\m<=127)(h:∀z,0<=z->z<=127->K z):Oo lo hi n m K:=⟨fun z _ _ hz _=>h z (hz h1.1.1 h1.1.2 h1.2.1 h1.2.2).1 (hz h1.1.1 h1.1.2 h1.2.1 h1.2.2).2⟩
theorem Oo.in'{lo hi n m:Int}{K:Int->Prop}(h:∀z,lo<=z->z<=hi->K z):Oo lo hi n m K:=⟨fun z a b _ _=>h z a b⟩
theorem Oo.bt{lo hi n m:Int}{K:Int->Prop}(h1:0<=n)(h2:0<=m)(h:∀z,lo<=z->z<=hi->z=((n.toNat ||| m.toNat:Nat):Int)->K z):Oo lo hi n m K:=⟨fun z a b _ c=>h z a b (c h1 h2)⟩
structure Nx (lo hi n:Int) (K:Int->Prop):Prop where
 h:∀z,lo<=z->z<=hi->(0<=n->n<=1->lo<0->z= -1 - n)->(lo<0->z= -1 - n)->(lo=0->z=hi - n)->K z
theorem Nx.ex{lo hi n:Int}{K:Int->Prop}(h1:0<=n/\n<=1/\lo<0)(h:K (-1 - n)):Nx lo hi n K:=⟨fun z _ _ hz _ _=>hz h1.1 h1.2.1 h1.2.2▸h⟩
theorem Nx.sg{lo hi n:Int}{K:Int->Prop}(h0:lo<0)(h:∀z,lo<=z->z<=hi->z= -1 - n->K z):Nx lo hi n K:=⟨fun z a b _ c _=>h z a b (c h0)⟩
theorem Nx.us{lo hi n:Int}{K:Int->Prop}(h0:lo=0)(h:∀z,lo<=z->z<=hi->z=hi - n->K z):Nx lo hi n K:=⟨fun z a b _ _ c=>h z a b (c h0)⟩
def frc(v:SV)(K:SP):Prop:=match v with
 |.undef=>K .undef
 |.int a b=>K (.int a b)
 |.bool b=>K (.bool b)
 |.str b=>K (.str b)
 |.nil=>K .nil
 |.pnil=>K .pnil
 |.row a b c=>K (.row a b c)
 |.el a b c=>K (.el a b c)
 |.ptr a b=>K (.ptr a b)
 |.ow a=>K (.ow a)
 |.op a b c d=>K (.op a b c d)
 |.fn a b=>K (.fn a b)
 |.gp a b=>K (.gp a b)
 |.rng a b=>K (.rng a b)
 |.xp a b c=>K (.xp a b c)
 |.any=>K .any
 |.yl a=>K (.yl a)
 |.agg a=>K (.agg a)
 |.tup a=>K (.tup a)
theorem kS{v:SV}{K:SP}(h:frc v K):K v:=by cases v<;>exact h
def iM(l:SL):(List SV->Prop)->Prop:=List.rec (motive:=fun _=>(List SV->Prop)->Prop) (fun K=>K []) (fun x _ ih K=>frc x fun x=>ih fun r=>K (x::r)) l
theorem cF:∀{l:SL} {K:SL->Prop},iM l K->K l
 |[],K,h=>h
 |x::r,K,h=>cF (l:=r) (K:=fun r=>K (x::r)) (kS (v:=x) (K:=fun x=>iM r fun r=>K (x::r)) h)
def aGp(v:SV)(K:SP):Prop:=match v with
 |.bool b=>Sp (b=true) (K (.bool true)) (K (.bool false))
 |.undef=>K .undef
 |.int a b=>K (.int a b)
 |.str b=>K (.str b)
 |.nil=>K .nil
 |.pnil=>K .pnil
 |.row a b c=>K (.row a b c)
 |.el a b c=>K (.el a b c)
 |.ptr a b=>K (.ptr a b)
 |.ow a=>K (.ow a)
 |.op a b c d=>K (.op a b c d)
 |.fn a b=>K (.fn a b)
 |.gp a b=>K (.gp a b)
 |.rng a b=>K (.rng a b)
 |.xp a b c=>K (.xp a b c)
 |.any=>K .any
 |.yl a=>K (.yl a)
 |.agg a=>K (.agg a)
 |.tup a=>K (.tup a)
theorem tB{v:SV}{K:SP}(h:aGp v K):K v:=by
 cases v with
 |bool b=>
  cases b with
  |true=>exact h.t rfl
  |false=>exact h.f (by simp)
 |_=>exact h
def aM(k:Nat):NL->Bool
 |[]=>false
 |j::r=>cond (Nat.beq j k) true (aM k r)
def bT(k:Nat):FR->Option SV
 |[]=>none
 |(j,v)::r=>cond (Nat.beq j k) (some v) (bT k r)
def hget(k:Nat):HP->Option SJ
 |[]=>none
 |(j,v)::r=>cond (Nat.beq j k) (some v) (hget k r)
def kP(k:Nat)(o:SJ)(h:HP):(HP->Prop)->Prop:=List.rec (motive:=fun _=>(HP->Prop)->Prop) (fun _=>False) (fun p r ih K=>match p with
 |(j,v)=>cond (Nat.beq j k) (K ((j,o)::r)) (ih fun r=>K ((j,v)::r))) h
theorem oX{k j:Nat}{o v:SJ}{r:HP}{K:HP->Prop}:kP k o ((j,v)::r) K=cond (Nat.beq j k) (K ((j,o)::r)) (kP k o r fun r=>K ((j,v)::r)):=rfl
def mX(k:Nat)(h:HP):(HP->Prop)->Prop:=List.rec (motive:=fun _=>(HP->Prop)->Prop) (fun _=>False) (fun p r ih K=>match p with
 |(j,v)=>cond (Nat.beq j k) (K r) (ih fun r=>K ((j,v)::r))) h
theorem aNy{k j:Nat}{v:SJ}{r:HP}{K:HP->Prop}:mX k ((j,v)::r) K=cond (Nat.beq j k) (K r) (mX k r fun r=>K ((j,v)::r)):=rfl
def aIv:NL:=[0,1,2,3,4,5,6,7,8,9,10,11,12,13,14,15,16,17,18,19,20,21,22,23,24,25,26,27,28,29,30,31,32,33,34,35,36,37,38,39,40,41,42,43,44,45,46,47,48,49,50,51,52,53,54,55,56,57,58,59,60,61,62,63,64,65,66,67,68,69,70,71,72,73,74,75,76,77,78,79,80,81,82,83,84,85,86,87,88,89,90,91,92,93,94,95,96,97,98,99,100,101,102,103,104,105,106,107,108,109,110,111,112,113,114,115,116,117,118,119,120,121,122,123,124,125,126,127,128,129,130,131,132,133,134,135,136,137,138,139,140,141,142,143,144,145,146,147,148,149,150,151,152,153,154,155,156,157,158,159,160,161,162,163,164,165,166,167,168,169,170,171,172,173,174,175,176,177,178,179,180,181,182,183,184,185,186,187,188,189,190,191,192,193,194,195,196,197,198,199]
def atN:NL->Nat->Option Nat
 |[],_=>none
 |x::_,0=>some x
 |_::r,n+1=>atN r n
def qW(n:Nat)(K:NQ):Prop:=match atN aIv n with
 |some m=>K m
 |none=>False
theorem tV:∀{len s n m:Nat},atN (List.range' s len) n=some m->m=s+n
 |0,s,n,m,h=>by simp[atN] at h
 |len+1,s,0,m,h=>by simp[List.range'_succ,atN] at h;omega
 |len+1,s,n+1,m,h=>by
  rw[List.range'_succ] at h;simp only[atN] at h;have:=tV h;omega
theorem bAc:aIv=List.range' 0 200:=by kernel_rfl
theorem iH{n:Nat}{K:NQ}(h:qW n K):K n:=by
 unfold qW at h;split at h
 ·rename_i m hm;rw[bAc] at hm;have:=tV hm;rw[Nat.zero_add] at this;subst this;exact h
 ·exact h.elim
def aEy(ks:KL)(c:CL):Nat->(List SV->Prop)->Prop:=List.rec (motive:=fun _=>Nat->(List SV->Prop)->Prop) (fun _ K=>K []) (fun k _ ih j K=>qW j fun j=>frc (kSV k c j) fun v=>ih (j+1) fun r=>K (v::r)) ks
theorem sF:∀{ks:KL} {c:CL} {j:Nat} {K:SL->Prop},aEy ks c j K->K (bI ks c j)
 |[],c,j,K,h=>h
 |k::ks,c,j,K,h=>sF (ks:=ks) (c:=c) (j:=j+1) (K:=fun r=>K (kSV k c j::r)) (kS (iH (n:=j) (K:=fun j=>frc (kSV k c j) fun v=>aEy ks c (j+1) fun r=>K (v::r)) h))
def lhK(k:IntKind)(K:Int->Int->Prop):Prop:=match k with
 |.i8=>K (-128) 127
 |.i16=>K (-32768) 32767
 |.i32=>K (-2147483648) 2147483647
 |.i64=>K (-9223372036854775808) 9223372036854775807
 |.u8=>K 0 255
 |.u16=>K 0 65535
 |.u32=>K 0 4294967295
 |.u64=>K 0 18446744073709551615
def kNo:IntKind->Nat
 |.i8=>0
 |.i16=>1
 |.i32=>2
 |.i64=>3
 |.u8=>4
 |.u16=>5
 |.u32=>6
 |.u64=>7
def kEq(a b:IntKind):Bool:=Nat.beq (kNo a) (kNo b)
mutual
def nU:Kd->Kd->Bool
 |.int a,.int b=>kEq a b
 |.bool,.bool=>true
 |.str,.str=>true
 |.row b ks,.row b' ks'=>cond (Nat.beq b b') (kdsEq ks ks') false
 |_,_=>false
def kdsEq:KL->List Kd->Bool
 |[],[]=>true
 |a::r,b::s=>cond (nU a b) (kdsEq r s) false
 |_,_=>false
end
def wfB(k:IntKind)(n:Int):Bool:=match n with
 |.ofNat m=>Nat.ble m (match k with
  |.i8=>127
  |.i16=>32767
  |.i32=>2147483647
  |.i64=>9223372036854775807
  |.u8=>255
  |.u16=>65535
  |.u32=>4294967295
  |.u64=>18446744073709551615)
 |.negSucc m=>(match k with
  |.i8=>Nat.ble m 127
  |.i16=>Nat.ble m 32767
  |.i32=>Nat.ble m 2147483647
  |.i64=>Nat.ble m 9223372036854775807
  |_=>false)
theorem iS{k:IntKind}{K:Int->Int->Prop}(h:lhK k K):K k.min k.max:=by cases k<;>exact h
theorem gG{a b:IntKind}(h:kEq a b=true):a=b:=by
 have:=QN h;cases a<;>cases b<;>first|rfl|(simp[kNo] at this)
mutual
theorem bBe:∀{a b:Kd},nU a b=true->a=b
 |.int a,.int b,h=>by
  simp only[nU] at h;have:=gG h;subst this;rfl
 |.bool,.bool,_=>rfl
 |.str,.str,_=>rfl
 |.row b ks,.row b' ks',h=>by
  simp only[nU] at h;cases e:Nat.beq b b' with
  |true=>
   rw[e,QT] at h;have h1:=QN e;have h2:=kdsEq_ok h;subst h1;subst h2;rfl
  |false=>rw[e] at h;cases h
 |.int _,.bool,h=>by simp[nU] at h
 |.int _,.str,h=>by simp[nU] at h
 |.int _,.row _ _,h=>by simp[nU] at h
 |.bool,.int _,h=>by simp[nU] at h
 |.bool,.str,h=>by simp[nU] at h
 |.bool,.row _ _,h=>by simp[nU] at h
 |.str,.int _,h=>by simp[nU] at h
 |.str,.bool,h=>by simp[nU] at h
 |.str,.row _ _,h=>by simp[nU] at h
 |.row _ _,.int _,h=>by simp[nU] at h
 |.row _ _,.bool,h=>by simp[nU] at h
 |.row _ _,.str,h=>by simp[nU] at h
theorem kdsEq_ok:∀{a b:KL},kdsEq a b=true->a=b
 |[],[],_=>rfl
 |a::r,b::s,h=>by
  simp only[kdsEq] at h;cases e:nU a b with
  |true=>
   rw[e,QT] at h;have h1:=bBe e;have h2:=kdsEq_ok h;subst h1;subst h2;rfl
  |false=>rw[e] at h;cases h
 |[],_::_,h=>by simp[kdsEq] at h
 |_::_,[],h=>by simp[kdsEq] at h
end
theorem jM{k:IntKind}{n:Int}(h1:k.min<=n)(h2:n<=k.max):(Lit.int k n).wf=true:=by simp[Lit.wf,h1,h2]
theorem bU{k:IntKind}{n:Int}(h:(Lit.int k n).wf=true):k.min<=n/\n<=k.max:=by simpa [Lit.wf] using h
theorem aSx{k:IntKind}{n:Int}(h:wfB k n=true):(Lit.int k n).wf=true:=by
 unfold wfB at h;refine jM ?_ ?_<;>(cases n<;>cases k<;>simp[IntKind.min,IntKind.max,IntKind.bits,IntKind.signed] at h ⊢ <;>omega)
inductive Sm where
 |int (k:IntKind)
 |bool
 |str
 |slice (e:Nat)
 |struct (fs:List (Nat×Nat×Nat))
 |array (n e:Nat)
 |ptr (e:Nat)
 |map (k e:Nat)
 /-- strings.Builder -/
 |bld
 |oth
structure TyI where
 sm:Sm
 size:Nat
 bytes:Nat
 agg:Bool
 ks:List Kd
 zs:List SV
abbrev TTb:=List (Nat×TyI)
def bF(k:Nat):TTb->Option TyI
 |[]=>none
 |(j,v)::r=>cond (Nat.beq j k) (some v) (bF k r)
inductive PK where
 |sc (k:Kd)
 |ag (ks:KL)
inductive CK where
 |d (k:Kd)
 |ow (b:Nat) (ks:KL)
 /-- a closure over variables that are lent with it -/
 |fx (g:Nat) (is:NL)
inductive PI where
 |d (p:PK)
 |bx (t:TY) (cs:List CK)
 /-- a variable,with more cells:numbers in a range -/
 |bxr (t:TY) (cs:List CK) (n:Nat)
 |own (b:Nat) (ks:KL) (back:Bool)
 |fn (g:Nat) (cs:List (TypeId×List CK))
structure CtrI where
 ps:List PI
 rs:List PI
 pre:SL->HP->Prop
 post:SL->HP->List SV->HP->Prop
abbrev IW:=List Nat->List SV->HP->Nat->(List Nat->SV->HP->Nat->Prop)->Prop
inductive CIO where
 |ctr (c:CtrI)
 |inl (w:IW)
 |yld (w:Nat->IW)
structure Ctr where
 ps:List PK
 rs:List PK
 pre:SL->Prop
 post:SL->List SV->Prop
 ext:Nat
 io:Option CIO
abbrev CTb:=List (Nat×Ctr)
def wS(k:Nat):CTb->Option Ctr
 |[]=>none
 |(j,v)::r=>cond (Nat.beq j k) (some v) (wS k r)
def coK(k:Kd)(v:SV)(K:SP):Prop:=match k,v with
 |.int k,.int k' n=>cond (kEq k k') (K (.int k n)) False
 |.bool,.bool b=>K (.bool b)
 |.str,.str s=>K (.str s)
 |.row b ks,.nil=>K (.row b ks [])
 |.row b ks,.row b' ks' l=>cond (Nat.beq b b') (cond (kdsEq ks ks') (K (.row b ks l)) False) False
 |_,_=>False
def rK(ks:KL):SL->(List SV->Prop)->Prop:=List.rec (motive:=fun _=>List SV->(List SV->Prop)->Prop) (fun vs K=>match vs with
 |[]=>K []
 |_::_=>False) (fun k _ ih vs K=>match vs with
 |[]=>False
 |v::vs=>coK k v fun v=>ih vs fun vs=>K (v::vs)) ks
theorem aEn{K:SL->Prop}:rK [] [] K=K []:=rfl
theorem aRv{v:SV}{vs:SL}{K:SL->Prop}:rK [] (v::vs) K=False:=rfl
theorem aVf{k:Kd}{ks:KL}{K:SL->Prop}:rK (k::ks) [] K=False:=rfl
theorem aBh{k:Kd}{ks:KL}{v:SV}{vs:SL}{K:SL->Prop}:rK (k::ks) (v::vs) K=coK k v fun v=>rK ks vs fun vs=>K (v::vs):=rfl
def coP(p:PK)(v:SV)(K:SP):Prop:=match p,v with
 |.sc k,v=>coK k v K
 |.ag ks,.agg l=>rK ks l fun l=>K (.agg l)
 |_,_=>False
def yH(ps:List PK):SL->(List SV->Prop)->Prop:=List.rec (motive:=fun _=>List SV->(List SV->Prop)->Prop) (fun vs K=>match vs with
 |[]=>K []
 |_::_=>False) (fun p _ ih vs K=>match vs with
 |[]=>False
 |v::vs=>coP p v fun v=>ih vs fun vs=>K (v::vs)) ps
theorem aYa{v:SV}{vs:SL}{K:SL->Prop}:yH [] (v::vs) K=False:=rfl
theorem aYo{k:PK}{ks:List PK}{K:SL->Prop}:yH (k::ks) [] K=False:=rfl
theorem bCi{k:PK}{ks:List PK}{v:SV}{vs:SL}{K:SL->Prop}:yH (k::ks) (v::vs) K=coP k v fun v=>yH ks vs fun vs=>K (v::vs):=rfl
def allK(k:Kd)(K:SP):Prop:=match k with
 |.int k=>∀n,K (.int k n)
 |.bool=>K (.bool true)/\K (.bool false)
 |.str=>∀s,K (.str s)
 |.row b ks=>∀l,K (.row b ks l)
def bAi(p:PK)(K:SP):Prop:=match p with
 |.sc k=>allK k K
 |.ag ks=>∀c,aEy ks c 0 fun l=>K (.agg l)
def aEc(ps:List PK):(List SV->Prop)->Prop:=List.rec (motive:=fun _=>(List SV->Prop)->Prop) (fun K=>K []) (fun p _ ih K=>bAi p fun v=>ih fun vs=>K (v::vs)) ps
def sX(l:SL):SV:=match l with
 |[v]=>v
 |[]=>.tup []
 |a::b::r=>.tup (a::b::r)
abbrev TBl:=List (Nat×Nat×IntKind×Option (Nat->Int))
structure TBs where
 l:TBl
 ok:World->Prop
structure RI where
 D:Bool
 G:Bool
 ops:Array Oper
 ms:List Nat
 st:List Nat
 tb:TBs
 fx:List Nat
 nb:Bool
def aIl(k:Nat):TBl->Option (Nat×IntKind×Option (Nat->Int))
 |[]=>none
 |(j,v)::r=>cond (Nat.beq j k) (some v) (aIl k r)
def aPo(k:Nat)(tb:TBs):Option (Nat×IntKind×Option (Nat->Int)):=aIl k tb.l
def wmn(ri:RI)(i:Nat)(K:Prop):Prop:=cond ri.D (cond (aM i ri.ms) K False) K
def wns(ri:RI)(id:Nat)(K:Prop):Prop:=cond ri.D (cond (aM id ri.st) False K) K
def wdl(ri:RI)(i:Nat)(K:Prop):Prop:=cond ri.D (cond ri.G (Kb (fK (bef ri.ops) ri.ms i) K) K) K
def wgr(ri:RI)(K:Prop):Prop:=cond ri.D (cond ri.G K False) K
def wld(ri:RI)(i id:Nat)(K:Prop):Prop:=cond ri.D (cond (aM id ri.st) K (Kb (fK (bef ri.ops) ri.ms i) K)) K
def aJc(v:Value)(K:SP):Prop:=match v with
 |.int a n=>cond (wfB a n) (K (.int a n)) False
 |.bool b=>K (.bool b)
 |.string s=>Kb (Nat.ble s.size maxLen) (match atN aIv s.size with
  |some n=>∀u:BA,u=s->u.data.toList.length=n->K (.str u)
  |none=>K (.str s))
 |.slice none 0 0=>K .nil
 |.pointer none=>K .pnil
 |.nilFunc=>K .any
 |.map none=>K .any
 |_=>False
def wop(fr:FR)(o:Operand)(K:SP):Prop:=match o with
 |.tmp d=>(match bT d fr with
  |some v=>K v
  |none=>False)
 |.const v=>aJc v K
 |.func g=>K (.fn g [])
 |.global _=>False
def aXx(fr:FR)(os:List Operand):(List SV->Prop)->Prop:=List.rec (motive:=fun _=>(List SV->Prop)->Prop) (fun K=>K []) (fun o _ ih K=>wop fr o fun v=>ih fun vs=>K (v::vs)) os
def aVq(b:BinOp)(k:IntKind)(n m:Int)(K:SP):Prop:=match b with
 |.lss=>Sp (n<m) (K (.bool true)) (K (.bool false))
 |.leq=>Sp (n<=m) (K (.bool true)) (K (.bool false))
 |.gtr=>Sp (m<n) (K (.bool true)) (K (.bool false))
 |.geq=>Sp (m<=n) (K (.bool true)) (K (.bool false))
 |.eql=>Sp (n=m) (K (.bool true)) (K (.bool false))
 |.neq=>Sp (n=m) (K (.bool false)) (K (.bool true))
 |.add=>lhK k fun lo hi=>lo<=n->n<=hi->lo<=m->m<=hi->Wr lo hi (n+m) fun z=>K (.int k z)
 |.sub=>lhK k fun lo hi=>lo<=n->n<=hi->lo<=m->m<=hi->Wr lo hi (n - m) fun z=>K (.int k z)
 |.mul=>lhK k fun lo hi=>lo<=n->n<=hi->lo<=m->m<=hi->Wr lo hi (n*m) fun z=>K (.int k z)
 |.quo=>lhK k fun lo hi=>lo<=n->n<=hi->lo<=m->m<=hi->Ob (m≠0) (Qu lo hi n m fun z=>K (.int k z))
 |.rem=>lhK k fun lo hi=>lo<=n->n<=hi->lo<=m->m<=hi->Ob (m≠0) (Rm lo hi n m fun z=>K (.int k z))
 |.and=>lhK k fun lo hi=>lo<=n->n<=hi->lo<=m->m<=hi->An lo hi n m fun z=>K (.int k z)
 |.or=>lhK k fun lo hi=>Oo lo hi n m fun z=>K (.int k z)
 |.xor=>lhK k fun lo hi=>∀z,lo<=z->z<=hi->K (.int k z)
 |.andNot=>False
 |.shl=>False
 |.shr=>False
def mT:SL->Option VL
 |[]=>some []
 |.int k n::r=>(match mT r with
  |some l=>some (.int k n::l)
  |none=>none)
 |.bool b::r=>(match mT r with
  |some l=>some (.bool b::l)
  |none=>none)
 |.str s::r=>(match mT r with
  |some l=>some (.string s::l)
  |none=>none)
 |_::_=>none
section
variable [σ:Sg]{P:PG}(E:Env P)(T:TTb)(C:CTb)
def aAh:List (Nat×Nat×Nat)->Nat->Bool
 |[],_=>true
 |(o,ft,_)::r,k=>cond (Nat.beq o k) (match bF ft T with
  |some ti=>(match ti.sm with
   |.int _=>aAh r (k+1)
   |.str=>aAh r (k+1)
   |_=>false)
  |none=>false) false
def aKk(t:TY)(n:Nat):Bool:=match E.und t with
 |some (.struct F)=>Nat.beq F.toList.length n&&F.toList.all fun fd=>!(fd.name== "_")
 |_=>false
def xY:List (Nat×Nat×Nat)->Nat
 |[]=>0
 |_::r=>Nat.succ (xY r)
def qJ:SL->List SV->Prop
 |.int _ a::r,.int _ b::q=>a=b/\qJ r q
 |.str a::r,.str b::q=>a=b/\qJ r q
 |[],[]=>True
 |_,_=>False
structure EqX (xs ys:SL):Prop where
 h:qJ xs ys
def kZ:SL->Nat
 |[]=>0
 |.int _ _::r=>Nat.succ (kZ r)
 |.str _::r=>Nat.succ (kZ r)
 |_::_=>0
def gK:SL->List (Nat×Nat×Nat)->Bool
 |[],[]=>true
 |.int _ _::r,_::q=>gK r q
 |.str _::r,_::q=>gK r q
 |_,_=>false
def xP(b:BinOp)(t:TY)(xs ys:SL)(K:SP):Prop:=match bF t T with
 |some ti=>(match ti.sm with
  |.struct fs=>cond (aAh T fs 0) (cond (gK xs fs) (cond (gK ys fs) (match b with
   |.eql=>Kb (aKk E t (xY fs)) ((HyX (EqX xs ys)->K (.bool true))/\(HyX (¬EqX xs ys)->K (.bool false)))
   |.neq=>Kb (aKk E t (xY fs)) ((HyX (¬EqX xs ys)->K (.bool true))/\(HyX (EqX xs ys)->K (.bool false)))
   |_=>K (.bool true)/\K (.bool false)) (K (.bool true)/\K (.bool false))) (K (.bool true)/\K (.bool false))) (K (.bool true)/\K (.bool false))
  |_=>K (.bool true)/\K (.bool false))
 |none=>K (.bool true)/\K (.bool false)
def aQm(b:BinOp)(t:TY)(xs ys:SL)(K:SP):Prop:=match b with
 |.eql=>Sf (xs=ys) (K (.bool true)) (xP E T b t xs ys K)
 |.neq=>Sf (xs=ys) (K (.bool false)) (xP E T b t xs ys K)
 |_=>xP E T b t xs ys K
def bBw(b:BinOp)(n m:Int)(K:SP):Prop:=match b with
 |.lss=>K (.bool (decide (n<m)))
 |.leq=>K (.bool (decide (n<=m)))
 |.gtr=>K (.bool (decide (m<n)))
 |.geq=>K (.bool (decide (m<=n)))
 |.eql=>K (.bool (decide (n=m)))
 |.neq=>K (.bool (decide (n≠m)))
 |_=>False
def bCb(b:BinOp):Bool:=match b with
 |.lss=>true
 |.leq=>true
 |.gtr=>true
 |.geq=>true
 |.eql=>true
 |.neq=>true
 |_=>false
def bEs(nb:Bool)(b:BinOp)(t:TY)(x y:SV)(K:SP):Prop:=match x,y with
 |.int k n,.int k' m=>(match b with
  |.shl=>lhK k fun lo hi=>Ob (0<=m) (∀z,lo<=z->z<=hi->HyX (lo=0->z=(n*2^m.toNat)%(hi+1))->K (.int k z))
  |.shr=>lhK k fun lo hi=>lo<=n->n<=hi->Ob (0<=m) (∀z,lo<=z->z<=hi->(0<=n->0<=z/\z<=n)->(0<n->0<m->z<n)->HyX (0<=n->z=n / 2^m.toNat)->K (.int k z))
  |b=>cond (kEq k k') (cond nb (cond (bCb b) (bBw b n m K) (aVq b k n m K)) (aVq b k n m K)) False)
 |.bool p,.bool q=>(match bF t T with
  |some ti=>(match ti.sm with
   |.bool=>(match b with
    |.eql=>aGp (.bool (p==q)) K
    |.neq=>aGp (.bool (!(p==q))) K
    |_=>False)
   |_=>False)
  |none=>False)
 |.str s,.str u=>(match b with
  |.eql=>Sp (s.data.toList.length=u.data.toList.length) ((HyX (s=u)->K (.bool true))/\(HyX (s≠u)->K (.bool false))) (K (.bool false))
  |.neq=>Sp (s.data.toList.length=u.data.toList.length) ((HyX (s≠u)->K (.bool true))/\(HyX (s=u)->K (.bool false))) (K (.bool true))
  |.lss=>K (.bool true)/\K (.bool false)
  |.leq=>K (.bool true)/\K (.bool false)
  |.gtr=>K (.bool true)/\K (.bool false)
  |.geq=>K (.bool true)/\K (.bool false)
  |.add=>Ob (s.data.toList.length+u.data.toList.length<=9223372036854775807) (∀w:BA,w.data.toList.length=s.data.toList.length+u.data.toList.length->HyX (w.data.toList=s.data.toList++u.data.toList)->K (.str w))
  |_=>False)
 |.agg xs,.agg ys=>(match mT xs,mT ys with
  |some vs,some ws=>Kb (aJt E b t (.agg ⟨vs⟩) (.agg ⟨ws⟩)) (aQm E T b t xs ys K)
  |_,_=>False)
 |.ptr _ _,.pnil=>(match bF t T with
  |some ti=>(match ti.sm,b with
   |.ptr _,.eql=>K (.bool false)
   |.ptr _,.neq=>K (.bool true)
   |_,_=>False)
  |none=>False)
 |_,_=>False
end
end Go.AM
namespace Go.AM
open Go.RowKit
def sBt(s:BA)(j:Int):Int:=((((s.data.toList[j.toNat]?).getD 0).toNat:Nat):Int)
def cSV:SV->CT
 |.int k n=>.v (.int k n)
 |.bool b=>.v (.bool b)
 |.str s=>.v (.string s)
 |.row _ _ l=>.row l
 |_=>.row []
def atS:SL->Nat->Option SV
 |[],_=>none
 |x::_,0=>some x
 |_::r,n+1=>atS r n
def atK:KL->Nat->Option Kd
 |[],_=>none
 |x::_,0=>some x
 |_::r,n+1=>atK r n
def atF:List (Nat×Nat×Nat)->Nat->Option (Nat×Nat×Nat)
 |[],_=>none
 |x::_,0=>some x
 |_::r,n+1=>atF r n
def plF(fs:List (Nat×Nat×Nat))(i:Nat):Option (Nat×Nat):=match atF fs i with
 |some (o,_,s)=>some (o,s)
 |none=>none
def sM:Nat->List SV->Option SL
 |0,_=>some []
 |n+1,x::r=>(match sM n r with
  |some l=>some (x::l)
  |none=>none)
 |_+1,[]=>none
def vN:Nat->List SV->Option SL
 |0,l=>some l
 |n+1,_::r=>vN n r
 |_+1,[]=>none
def aHv:Nat->List Kd->Option KL
 |0,l=>some l
 |n+1,_::r=>aHv n r
 |_+1,[]=>none
def aGt:Nat->List Kd->Option KL
 |0,_=>some []
 |n+1,x::r=>(match aGt n r with
  |some l=>some (x::l)
  |none=>none)
 |_+1,[]=>none
def rJ:SL->Nat->List SV->Option SL
 |r,0,[]=>some r
 |_::r,0,y::ys=>(match rJ r 0 ys with
  |some l=>some (y::l)
  |none=>none)
 |x::r,n+1,ys=>(match rJ r n ys with
  |some l=>some (x::l)
  |none=>none)
 |[],_,_=>none
def dF(v:SV):Option SL:=match v with
 |.agg l=>some l
 |.tup _=>none
 |.undef=>none
 |.gp _ _=>none
 |.rng _ _=>none
 |.any=>none
 |.yl _=>none
 |.xp _ _ _=>none
 |v=>some [v]
def scS:SL->Bool
 |[]=>true
 |.agg _::_=>false
 |.tup _::_=>false
 |.undef::_=>false
 |.gp _ _::_=>false
 |.rng _ _::_=>false
 |.any::_=>false
 |.yl _::_=>false
 |.xp _ _ _::_=>false
 |_::r=>scS r
def iJ:SL->Nat
 |[]=>0
 |_::r=>Nat.succ (iJ r)
mutual
def sbS(i b:Nat)(ks:KL)(l:LX):SV->SV
 |.ow j=>cond (Nat.beq j i) (.row b ks l) (.ow j)
 |.agg vs=>.agg (sbL i b ks l vs)
 |.tup vs=>.tup (sbL i b ks l vs)
 |.fn g vs=>.fn g (sbL i b ks l vs)
 |.undef=>.undef
 |.int k n=>.int k n
 |.bool b=>.bool b
 |.str s=>.str s
 |.nil=>.nil
 |.pnil=>.pnil
 |.row b ks l=>.row b ks l
 |.el ks c o=>.el ks c o
 |.ptr i o=>.ptr i o
 |.op i j o m=>.op i j o m
 |.gp g o=>.gp g o
 |.rng lo hi=>.rng lo hi
 |.any=>.any
 |.yl i=>.yl i
 |.xp i o m=>.xp i o m
def sbL(i b:Nat)(ks:KL)(l:LX):SL->List SV
 |[]=>[]
 |v::r=>sbS i b ks l v::sbL i b ks l r
end
def sbF(i b:Nat)(ks:KL)(l:LX)(f:FR):(FR->Prop)->Prop:=List.rec (motive:=fun _=>(FR->Prop)->Prop) (fun K=>K []) (fun p _ ih K=>match p with
 |(j,v)=>frc (sbS i b ks l v) fun v=>ih fun r=>K ((j,v)::r)) f
theorem bFp{i b j:Nat}{ks:KL}{l:LX}{v:SV}{r:FR}{K:FR->Prop}:sbF i b ks l ((j,v)::r) K=frc (sbS i b ks l v) fun v=>sbF i b ks l r fun r=>K ((j,v)::r):=rfl
def sbH(i b:Nat)(ks:KL)(l:LX)(f:HP):(HP->Prop)->Prop:=List.rec (motive:=fun _=>(HP->Prop)->Prop) (fun K=>K []) (fun p _ ih K=>match p with
 |(j,.box t cs)=>iM (sbL i b ks l cs) fun cs=>ih fun r=>K ((j,.box t cs)::r)
 |(j,.row b' ks' l')=>ih fun r=>K ((j,.row b' ks' l')::r)
 |(j,.oth (.vals us cs))=>iM (sbL i b ks l cs) fun cs=>ih fun r=>K ((j,.oth (.vals us cs))::r)
 |(j,.oth o)=>ih fun r=>K ((j,.oth o)::r)) f
theorem aUe{i b j:Nat}{ks:KL}{l:LX}{us:VL}{cs:SL}{r:HP}{K:HP->Prop}:sbH i b ks l ((j,.oth (.vals us cs))::r) K=iM (sbL i b ks l cs) fun cs=>sbH i b ks l r fun r=>K ((j,.oth (.vals us cs))::r):=rfl
theorem bBg{i b j:Nat}{ks:KL}{l:LX}{o:SJx}{r:HP}{K:HP->Prop}(ho:∀us cs,o≠.vals us cs):sbH i b ks l ((j,.oth o)::r) K=sbH i b ks l r fun r=>K ((j,.oth o)::r):=by
 cases o with
 |vals us cs=>exact absurd rfl (ho us cs)
 |_=>rfl
theorem bFv{i b j t:Nat}{ks:KL}{l:LX}{cs:SL}{r:HP}{K:HP->Prop}:sbH i b ks l ((j,.box t cs)::r) K=iM (sbL i b ks l cs) fun cs=>sbH i b ks l r fun r=>K ((j,.box t cs)::r):=rfl
theorem bFs{i b j b':Nat}{ks ks':KL}{l l':LX}{r:HP}{K:HP->Prop}:sbH i b ks l ((j,.row b' ks' l')::r) K=sbH i b ks l r fun r=>K ((j,.row b' ks' l')::r):=rfl
def aQw(ri:RI)(i:Nat)(fr:FR)(hp:HP)(K:Nat->List Kd->List CL->FR->HP->Prop):Prop:=match hget i hp with
 |some (.row b ks l)=>wgr ri (wns ri i (mX i hp fun hp=>sbF i b ks l fr fun fr=>sbH i b ks l hp fun hp=>K b ks l fr hp))
 |_=>False
def owL:SL->Option Nat
 |[]=>none
 |.ow i::_=>some i
 |_::r=>owL r
def aEx(n:Nat)(ri:RI):SL->FR->HP->(List SV->FR->HP->Prop)->Prop:=Nat.rec (motive:=fun _=>List SV->FR->HP->(List SV->FR->HP->Prop)->Prop) (fun vs fr hp K=>K vs fr hp) (fun _ ih vs fr hp K=>match owL vs with
 |none=>K vs fr hp
 |some i=>aQw ri i fr hp fun b ks l fr hp=>iM (sbL i b ks l vs) fun vs=>ih vs fr hp K) n
theorem aXw{n:Nat}{ri:RI}{vs:SL}{fr:FR}{hp:HP}{K:SL->FR->HP->Prop}:aEx (n+1) ri vs fr hp K=(match owL vs with
 |none=>K vs fr hp
 |some i=>aQw ri i fr hp fun b ks l fr hp=>iM (sbL i b ks l vs) fun vs=>aEx n ri vs fr hp K):=rfl
def aEd(place:Nat->Option (Nat×Nat)):SL->List (Nat×SV)->Option SL
 |cells,[]=>some cells
 |cells,(i,v)::rest=>(match place i with
  |none=>none
  |some (off,size)=>(match dF v with
   |none=>none
   |some l=>cond (Nat.beq (iJ l) size) (match rJ cells off l with
    |none=>none
    |some cells=>aEd place cells rest) none))
def iA:Nat->List SV->List SV
 |0,_=>[]
 |n+1,l=>l++iA n l
def aJj:KL->Nat
 |[]=>0
 |_::r=>Nat.succ (aJj r)
def bFl(n:Nat)(ks:KL):SL->(List SL->Prop)->Prop:=Nat.rec (motive:=fun _=>List SV->(List SL->Prop)->Prop) (fun cells K=>match cells with
 |[]=>K []
 |_::_=>False) (fun _ ih cells K=>match sM (aJj ks) cells with
 |some l=>rK ks l fun l=>ih (cells.drop (aJj ks)) fun r=>K (l::r)
 |none=>False) n
theorem bFu{ks:KL}{c:SV}{cs:SL}{K:List SL->Prop}:bFl 0 ks (c::cs) K=False:=rfl
theorem bEn{n:Nat}{ks:KL}{cells:SL}{K:List SL->Prop}:bFl (n+1) ks cells K=(match sM (aJj ks) cells with
 |some l=>rK ks l fun l=>bFl n ks (cells.drop (aJj ks)) fun r=>K (l::r)
 |none=>False):=rfl
section
variable [σ:Sg]{P:PG}(E:Env P)(T:TTb)(C:CTb)
def qI(nb:Bool)(t:TY)(cs:SL)(o:Nat)(K:SP):Prop:=match bF t T with
 |some ti=>(match ti.agg with
  |true=>(match vN o cs with
   |some cs=>(match sM ti.size cs with
    |some l=>iM l fun l=>K (.agg l)
    |none=>False)
   |none=>False)
  |false=>(match atS cs o with
   |some v=>cond nb (frc v K) (aGp v K)
   |none=>False))
 |none=>False
def wEl(t:TY)(ks:KL)(c:CL)(o:Nat)(K:SP):Prop:=match bF t T with
 |some ti=>(match ti.agg with
  |true=>(match aHv o ks with
   |some ks=>(match aGt ti.size ks with
    |some ks=>aEy ks c o fun l=>K (.agg l)
    |none=>False)
   |none=>False)
  |false=>(match atK ks o with
   |some k=>qW o fun o=>aGp (kSV k c o) K
   |none=>False))
 |none=>False
def zG(j:Int)(n:Nat)(K:NQ):Prop:=match j with
 |.ofNat a=>cond (Nat.blt a n) (K a) False
 |.negSucc _=>False
def aSf(ri:RI)(i:Nat)(t:TY)(x:SV)(hp:HP)(K:SP):Prop:=match x with
 |.gp g m=>(match aPo g ri.tb,bF t T with
  |some (m',k,F),some ti=>(match ti.sm with
   |.int k'=>cond (kEq k k') (Ob (m<m') (lhK k fun lo hi=>∀z,lo<=z->z<=hi->(match F with
    |some f=>z=f m->K (.int k z)
    |none=>K (.int k z)))) False
   |_=>False)
  |_,_=>False)
 |.ptr id o=>(match hget id hp with
  |some (.box _ cs)=>wld ri i id (qI T ri.nb t cs o K)
  |_=>False)
 |.xp id o m=>(match hget id hp,bF t T with
  |some (.box _ cs),some ti=>(match ti.sm with
   |.int k'=>(match vN o cs with
    |some (.rng lo hi::r)=>cond (kEq .i64 k') (Ag (sM m (.rng lo hi::r)=some (iA m [.rng lo hi])) (wld ri i id (∀z:Int,lo<=z->z<=hi-> -9223372036854775808<=z->z<=9223372036854775807->K (.int .i64 z)))) False
    |_=>False)
   |_=>False)
  |_,_=>False)
 |.el ks c o=>wdl ri i (wEl T t ks c o K)
 |.op id j o m=>(match hget id hp with
  |some (.row b ks l)=>cond (Nat.beq m ks.length) (wld ri i id (Ob (0<=j/\j<((l.length:Nat):Int)) (∀c,elC l j=c->wEl T t ks c o K))) False
  |some (.oth (.ho b ks l j' id2))=>(match bF t T with
   |some ti=>cond ti.agg False (cond (Nat.beq m 1) (cond (Nat.beq o 0) (wld ri i id (Ob (j=j') (K (.ow id2)))) False) False)
   |none=>False)
  |some (.oth (.vr cs))=>(match bF t T with
   |some ti=>cond ti.agg False (cond (Nat.beq m 1) (cond (Nat.beq o 0) (wld ri i id (zG j (iJ cs) fun a=>(match atS cs a with
    |some v=>K v
    |none=>False))) False) False)
   |none=>False)
  |_=>False)
 |_=>False
def bEj(ri:RI)(t:TY)(id:Nat)(j:Int)(o m id2:Nat)(hp:HP)(K:HP->Prop):Prop:=match hget id hp,bF t T with
 |some (.row b ks l),some ti=>cond (Nat.beq ti.size 1) (cond (Nat.beq o 0) (cond (Nat.beq m ks.length) (cond (Nat.beq ks.length 1) (wns ri id (Ob (0<=j/\j<((l.length:Nat):Int)) (kP id (.oth (.ho b ks l j id2)) hp K))) False) False) False) False
 |_,_=>False
def aJs(ri:RI)(t:TY)(p v:SV)(hp:HP)(K:HP->Prop):Prop:=match dF v,bF t T with
 |some l,some ti=>cond (scS l) (cond (Nat.beq (iJ l) ti.size) (match p with
  |.ptr id o=>(match hget id hp with
   |some (.box bt cs)=>wns ri id (match rJ cs o l with
    |some cs=>iM cs fun cs=>kP id (.box bt cs) hp K
    |none=>False)
   |_=>False)
  |.op id j o m=>(match hget id hp with
   |some (.row b ks r)=>cond (Nat.beq m ks.length) (wns ri id (Ob (0<=j/\j<((r.length:Nat):Int)) (match aHv o ks with
    |some ks'=>(match aGt (iJ l) ks' with
    |some kk=>rK kk l fun ss=>∀r',r'.length=r.length->r'=r.set j.toNat ((elC r j).take o++(ss.map cSV++(elC r j).drop (o+iJ l)))->kP id (.row b ks r') hp K
    |none=>False)
    |none=>False))) False
   |_=>False)
  |.xp id o m=>(match hget id hp,l with
   |some (.box _ cs),[.int .i64 z]=>wns ri id (match vN o cs with
    |some (.rng lo hi::r)=>Ag (sM m (.rng lo hi::r)=some (iA m [.rng lo hi])) (Ob (lo<=z/\z<=hi) (K hp))
    |_=>False)
   |_,_=>False)
  |_=>False) False) False
 |_,_=>False
def aGu(t:TY)(x:SV)(f:Nat)(K:SP):Prop:=match bF t T with
 |some ti=>(match ti.sm with
  |.struct fs=>(match atF fs f with
   |some (o',_,_)=>(match x with
    |.ptr i o=>K (.ptr i (o+o'))
    |.el ks c o=>K (.el ks c (o+o'))
    |.op i j o m=>K (.op i j (o+o') m)
    |_=>False)
   |none=>False)
  |_=>False)
 |none=>False
def aJw(n:Nat):Nat->Int->NQ->Prop:=Nat.rec (motive:=fun _=>Nat->Int->NQ->Prop) (fun _ _ _=>True) (fun _ ih a j K=>(j=((a:Nat):Int)->K a)/\ih (a+1) j K) n
def aPx(t:TY)(g:Nat)(y:SV)(K:SP):Prop:=match y with
 |.int kk j=>lhK kk fun lo hi=>lo<=j->j<=hi->(match bF t T with
  |some ti=>(match ti.sm with
   |.array m e=>(match bF e T with
    |some te=>cond (Nat.beq te.size 1) (Ob (0<=j/\j<((m:Nat):Int)) (K (.gp g j.toNat))) False
    |none=>False)
   |_=>False)
  |none=>False)
 |_=>False
def aCd(t:TY)(x y:SV)(hp:HP)(lit:Bool)(K:SP):Prop:=match y with
 |.int kk j=>lhK kk fun lo hi=>lo<=j->j<=hi->(match bF t T with
  |some ti=>(match x with
   |.row b ks l=>(match ti.sm with
    |.slice e=>(match bF e T with
     |some te=>cond (Nat.beq te.size ks.length) (l.length<=140737488351232->Ob (0<=j/\j<((l.length:Nat):Int)) (∀c,elC l j=c->K (.el ks c 0))) False
     |none=>False)
    |_=>False)
   |.ow id=>(match hget id hp with
    |some (.row b ks l)=>(match ti.sm with
     |.slice e=>(match bF e T with
      |some te=>cond (Nat.beq te.size ks.length) (l.length<=140737488351232->Ob (0<=j/\j<((l.length:Nat):Int)) (K (.op id j 0 te.size))) False
      |none=>False)
     |_=>False)
    |some (.oth (.ho b ks l j' id2))=>(match ti.sm with
     |.slice e=>(match bF e T with
      |some te=>cond (Nat.beq te.size 1) (Ob (0<=j/\j<((l.length:Nat):Int)) (K (.op id j 0 1))) False
      |none=>False)
     |_=>False)
    |some (.oth (.vr cs))=>(match ti.sm with
     |.slice e=>(match bF e T with
      |some te=>cond (Nat.beq te.size 1) (zG j (iJ cs) fun a=>K (.op id (.ofNat a) 0 1)) False
      |none=>False)
     |_=>False)
    |_=>False)
   |.ptr id o=>(match ti.sm with
    |.array n e=>(match bF e T with
     |some te=>(match lit with
      |true=>zG j n fun a=>K (.ptr id (o+a*te.size))
      |false=>Ix j (cond (Nat.blt 16 n) (cond (Nat.beq te.size 1) (Ob (0<=j/\j<((n:Nat):Int)) (K (.xp id o n))) False) (Ob (0<=j/\j<((n:Nat):Int)) (aJw n 0 j fun a=>K (.ptr id (o+a*te.size))))) (zG j n fun a=>K (.ptr id (o+a*te.size))))
     |none=>False)
    |_=>False)
   |.op id jj o mm=>(match ti.sm with
    |.array n e=>(match bF e T with
     |some te=>(match lit with
      |true=>zG j n fun a=>K (.op id jj (o+a*te.size) mm)
      |false=>Ob (0<=j/\j<((n:Nat):Int)) (aJw n 0 j fun a=>K (.op id jj (o+a*te.size) mm)))
     |none=>False)
    |_=>False)
   |.el ks c o=>(match ti.sm with
    |.array n e=>(match bF e T with
     |some te=>(match lit with
      |true=>zG j n fun a=>K (.el ks c (o+a*te.size))
      |false=>Ob (0<=j/\j<((n:Nat):Int)) (aJw n 0 j fun a=>K (.el ks c (o+a*te.size))))
     |none=>False)
    |_=>False)
   |_=>False)
  |none=>False)
 |_=>False
def zY:SL->Bool
 |[]=>true
 |.int .i64 _::r=>zY r
 |_::_=>false
def bBy(n:Nat):(List SV->Prop)->Prop:=Nat.rec (motive:=fun _=>(List SV->Prop)->Prop) (fun K=>K []) (fun _ ih K=>∀z:Int,-9223372036854775808<=z->z<=9223372036854775807->ih fun l=>K (.int .i64 z::l)) n
def aIi(t:TY)(x y:SV)(lit:Bool)(K:SP):Prop:=match y with
 |.int kk j=>lhK kk fun lo hi=>lo<=j->j<=hi->(match bF t T with
  |some ti=>(match x with
   |.str s=>(match ti.sm with
    |.str=>s.data.toList.length<=9223372036854775807->Ob (0<=j/\j<((s.data.toList.length:Nat):Int)) (∀z,0<=z->z<=255->z=sBt s j->K (.int .u8 z))
    |_=>False)
   |.agg cs=>(match ti.sm with
    |.array n e=>(match bF e T with
     |some te=>Ix j (cond (zY cs) (cond (Nat.ble (n*te.size) (iJ cs)) (Ob (0<=j/\j<((n:Nat):Int)) (match te.agg with
      |true=>bBy te.size fun l=>K (.agg l)
      |false=>cond (Nat.beq te.size 1) (∀z:Int,-9223372036854775808<=z->z<=9223372036854775807->K (.int .i64 z)) False)) False) False) (zG j n fun a=>qI T false e cs (a*te.size) K)
     |none=>False)
    |_=>False)
   |_=>False)
  |none=>False)
 |_=>False
def aYj(v:SV)(hp:HP)(b:Nat)(ks:KL)(K:LX->Prop):Prop:=match v with
 |.nil=>K []
 |.row b' ks' l=>cond (Nat.beq b b') (cond (kdsEq ks ks') (K l) False) False
 |.ow j=>(match hget j hp with
  |some (.row b' ks' l)=>cond (Nat.beq b b') (cond (kdsEq ks ks') (K l) False) False
  |_=>False)
 |_=>False
def aBw(ri:RI)(i:Nat)(sT xT:TY)(x y:SV)(hp:HP)(nx:Nat)(K:SV->HP->Nat->Prop):Prop:=match bF sT T,bF xT T with
 |some ti,some tx=>(match ti.sm,tx.sm with
  |.slice e,.slice _=>(match bF e T with
   |some te=>cond (Nat.beq te.size 0) False (cond (Nat.beq te.size te.ks.length) (wmn ri i (match x with
    |.nil=>aYj y hp te.bytes te.ks fun l2=>l2.length<=140737488351232->Ob (l2.length*te.bytes<=140737488351232) (∀l',l'.length=l2.length->l'=l2->K (.ow nx) ((nx,.row te.bytes te.ks l')::hp) (nx+1))
    |.ow id=>(match hget id hp with
     |some (.row b ks l1)=>cond (Nat.beq b te.bytes) (cond (kdsEq ks te.ks) (wns ri id (mX id hp fun qc=>aYj y qc b ks fun l2=>l1.length<=140737488351232->l2.length<=140737488351232->Ob ((l1.length+l2.length)*b<=140737488351232/\l1.length+l2.length<=140737488351232)
      (∀l',l'.length=l1.length+l2.length->l'=l1++l2->K (.ow nx) ((nx,.row b ks l')::qc) (nx+1)))) False) False
     |_=>False)
    |_=>False)) False)
   |none=>False)
  |_,_=>False)
 |_,_=>False
def aUc(ri:RI)(i:Nat)(t:TY)(x y:SV)(hp:HP)(nx:Nat)(K:SV->HP->Nat->Prop):Prop:=match x,y with
 |.int k n,.int k' m=>(match bF t T with
  |some ti=>(match ti.sm with
   |.slice e=>(match bF e T with
    |some te=>cond (Nat.beq te.size 0) False (wmn ri i (Ob (n=m/\0<=n/\n<=140737488351232/\n*((te.bytes:Nat):Int)<=140737488351232) (rK te.ks te.zs fun ss=>∀l',((l'.length:Nat):Int)=n->l'=List.replicate n.toNat (ss.map cSV)->K (.ow nx) ((nx,.row te.bytes te.ks l')::hp) (nx+1))))
    |none=>False)
   |_=>False)
  |none=>False)
 |_,_=>False
def ptL:SL->Bool
 |[]=>true
 |.ptr _ _::r=>ptL r
 |_::_=>false
def aLt(ri:RI)(i:Nat)(te:TyI)(len:Nat)(vs:List (Nat×SV))(fr:FR)(hp:HP)(nx:Nat)(K:SV->FR->HP->Nat->Prop):Prop:=
 cond (Nat.beq te.size 1) (match aEd (fun j=>some (j*te.size,te.size)) (iA len te.zs) vs with
  |some cells=>cond (ptL cells) (cond (Nat.beq (iJ cells) len) (wmn ri i (iM cells fun cells=>K (.ow nx) fr ((nx,.oth (.vr cells))::hp) (nx+1))) False) False
  |none=>False) False
def aCg(ri:RI)(i:Nat)(t:TY)(len:Nat)(vs:List (Nat×SV))(fr:FR)(hp:HP)(nx:Nat)(K:SV->FR->HP->Nat->Prop):Prop:=match bF t T with
 |some ti=>(match ti.sm with
  |.slice e=>(match bF e T with
   |some te=>cond (Nat.beq te.size 0) False (cond (Nat.ble (len*te.size) 16777216) (cond (Nat.ble (len*te.bytes) 140737488351232) (cond (Nat.beq te.size te.ks.length) (wmn ri i (match aEd (fun j=>some (j*te.size,te.size)) (iA len te.zs) vs with
    |some cells=>aEx 9 ri cells fr hp fun cells fr hp=>cond (Nat.ble len 140737488351232) (bFl len te.ks cells fun rr=>∀l',l'.length=len->l'=(rr.map fun x=>x.map cSV)->K (.ow nx) fr ((nx,.row te.bytes te.ks l')::hp) (nx+1)) False
    |none=>False)) (aLt ri i te len vs fr hp nx K)) False) False)
   |none=>False)
  |_=>False)
 |none=>False
def aHx(t:TY)(vs:List (Nat×SV))(K:SP):Prop:=match bF t T with
 |some ti=>(match ti.sm with
  |.struct fs=>(match aEd (plF fs) ti.zs vs with
   |some l=>iM l fun l=>K (.agg l)
   |none=>False)
  |.array n e=>(match bF e T with
   |some te=>(match aEd (fun j=>some (j*te.size,te.size)) ti.zs vs with
    |some l=>iM l fun l=>K (.agg l)
    |none=>False)
   |none=>False)
  |_=>False)
 |none=>False
def aUa(fr:FR)(os:List (Nat×Operand)):(List (Nat×SV)->Prop)->Prop:=List.rec (motive:=fun _=>(List (Nat×SV)->Prop)->Prop) (fun K=>K []) (fun p _ ih K=>match p with
 |(j,o)=>wop fr o fun v=>ih fun vs=>K ((j,v)::vs)) os
def bCe(o:Operand):Bool:=match o with
 |.const _=>true
 |_=>false
def bDe(t:TY)(x:SV)(hp:HP)(K:SP):Prop:=match bF t T with
 |some ti=>(match ti.sm with
  |.slice _=>(match x with
   |.nil=>K (.int .i64 0)
   |.row b ks l=>((l.length:Nat):Int)<=140737488351232->l.length*b<=140737488351232->K (.int .i64 ((l.length:Nat):Int))
   |.ow id=>(match hget id hp with
    |some (.row b ks l)=>((l.length:Nat):Int)<=140737488351232->K (.int .i64 ((l.length:Nat):Int))
    |some (.oth (.vr cs))=>qW (iJ cs) fun n=>K (.int .i64 (.ofNat n))
    |_=>False)
   |_=>False)
  |.str=>(match x with
   |.str s=>((s.data.toList.length:Nat):Int)<=9223372036854775807->K (.int .i64 ((s.data.toList.length:Nat):Int))
   |_=>False)
  |_=>False)
 |none=>False
def aMv(o:Option Operand)(fr:FR)(K:Option SV->Prop):Prop:=match o with
 |none=>K none
 |some x=>wop fr x fun v=>K (some v)
def wng(ri:RI)(K:Prop):Prop:=cond ri.D (cond ri.G False K) K
def aBt(ri:RI)(t:TY)(x:SV)(lo hi:Option SV)(K:SP):Prop:=match bF t T with
 |some ti=>(match ti.sm with
  |.slice e=>(match bF e T with
   |some te=>cond (Nat.beq te.size 0) False (match x,lo,hi with
    |.row b ks l,none,some (.int _ h)=>wng ri (cond (Nat.beq ks.length te.size) (l.length<=140737488351232->Ob (0<=h/\h<=((l.length:Nat):Int)) (∀l',((l'.length:Nat):Int)=h->l'=l.take h.toNat->K (.row b ks l'))) False)
    |.row b ks l,some (.int _ a),none=>wng ri (cond (Nat.beq ks.length te.size) (l.length<=140737488351232->Ob (0<=a/\a<=((l.length:Nat):Int)) (∀l',((l'.length:Nat):Int)=((l.length:Nat):Int) - a->l'=l.drop a.toNat->K (.row b ks l'))) False)
    |_,_,_=>False)
   |none=>False)
  |.str=>(match x,lo,hi with
   |.str s,none,some (.int _ h)=>s.data.toList.length<=9223372036854775807->Ob (0<=h/\h<=((s.data.toList.length:Nat):Int)) (∀w:BA,((w.data.toList.length:Nat):Int)=h->HyX (w.data.toList=s.data.toList.take h.toNat)->K (.str w))
   |.str s,some (.int _ a),none=>s.data.toList.length<=9223372036854775807->Ob (0<=a/\a<=((s.data.toList.length:Nat):Int)) (∀w:BA,((w.data.toList.length:Nat):Int)=((s.data.toList.length:Nat):Int) - a->HyX (w.data.toList=s.data.toList.drop a.toNat)->K (.str w))
   |.str s,some (.int _ a),some (.int _ h)=>s.data.toList.length<=9223372036854775807->Ob (0<=a/\a<=h/\h<=((s.data.toList.length:Nat):Int)) (∀w:BA,((w.data.toList.length:Nat):Int)=h - a->HyX (w.data.toList=(s.data.toList.take h.toNat).drop a.toNat)->K (.str w))
   |_,_,_=>False)
  |_=>False)
 |none=>False
def wSlc(ri:RI)(t:TY)(x:SV)(lo hi:Option Operand)(fr:FR)(hp:HP)(K:SV->FR->HP->Prop):Prop:=match x with
 |.ow id=>aQw ri id fr hp fun b ks l fr hp=>aMv lo fr fun lo=>aMv hi fr fun hi=>aBt T ri t (.row b ks l) lo hi fun v=>K v fr hp
 |x=>aMv lo fr fun lo=>aMv hi fr fun hi=>aBt T ri t x lo hi fun v=>K v fr hp
def uF:KL->Bool
 |[]=>true
 |.row _ _::_=>false
 |_::r=>uF r
def yZ:List PK->Bool
 |[]=>true
 |.sc k::r=>cond (uF [k]) (yZ r) false
 |.ag ks::r=>cond (uF ks) (yZ r) false
def bDg(k:Nat)(vs:SL)(K:SP):Prop:=match k,vs with
 |1,[.int .u64 a,.int .u64 b,.int .u64 e]=>0<=a->a<=18446744073709551615->0<=b->b<=18446744073709551615->Ob (0<=e/\e<=1) (∀z1 z2:Int,0<=z1->z1<=18446744073709551615->0<=z2->z2<=1->K (.tup [.int .u64 z1,.int .u64 z2]))
 |2,[.str s,.int .u8 b]=>s.data.toList.length<=9223372036854775807->∀z:Int,-1<=z->z<((s.data.toList.length:Nat):Int)->K (.int .i64 z)
 |3,[.str s,.int .u8 b]=>s.data.toList.length<=9223372036854775807->∀z:Int,0<=z->z<=((s.data.toList.length:Nat):Int)->K (.int .i64 z)
 |_,_=>False
def aXr(o:Operand):Bool:=match o with
 |.func _=>true
 |_=>false
abbrev TH:=List (Nat×Nat)
def bCh(k:Kd)(K:SP):Prop:=match k with
 |.int k=>∀n,K (.int k n)
 |.bool=>∀b,K (.bool b)
 |.str=>∀s,K (.str s)
 |.row b ks=>∀l,K (.row b ks l)
def bEq(is:NL):(List SV->Prop)->Prop:=List.rec (motive:=fun _=>(List SV->Prop)->Prop) (fun K=>K []) (fun i _ ih K=>ih fun r=>K (.ptr i 0::r)) is
def bCd(c:CK)(hp:HP)(nx:Nat)(K:SV->HP->Nat->Prop):Prop:=match c with
 |.d k=>bCh k fun v=>K v hp nx
 |.ow b ks=>∀l,K (.ow nx) ((nx,.row b ks l)::hp) (nx+1)
 |.fx g is=>bEq is fun l=>K (.fn g l) hp nx
def aCt(cs:List CK):HP->Nat->(List SV->HP->Nat->Prop)->Prop:=List.rec (motive:=fun _=>HP->Nat->(List SV->HP->Nat->Prop)->Prop) (fun hp nx K=>K [] hp nx) (fun c _ ih hp nx K=>bCd c hp nx fun v hp nx=>ih hp nx fun vs hp nx=>K (v::vs) hp nx) cs
def aRi(t:TY)(cs:List CK)(hp:HP)(nx:Nat)(K:SV->HP->Nat->Prop):Prop:=aCt cs hp (nx+1) fun cells hp nx'=>K (.ptr nx 0) ((nx,.box t cells)::hp) nx'
def aHd(bs:List (TypeId×List CK)):HP->Nat->(List SV->HP->Nat->Prop)->Prop:=List.rec (motive:=fun _=>HP->Nat->(List SV->HP->Nat->Prop)->Prop) (fun hp nx K=>K [] hp nx) (fun p _ ih hp nx K=>match p with
 |(t,cs)=>aRi t cs hp nx fun v hp nx=>ih hp nx fun vs hp nx=>K (v::vs) hp nx) bs
def aVb(t:TY)(cs:List CK)(n:Nat)(hp:HP)(nx:Nat)(K:SV->HP->Nat->Prop):Prop:=∀lo hi:Int,aCt cs hp (nx+1) fun cells hp nx'=>iM (cells++iA n [.rng lo hi]) fun cells=>K (.ptr nx 0) ((nx,.box t cells)::hp) nx'
def genI(p:PI)(hp:HP)(nx:Nat)(K:SV->HP->Nat->Prop):Prop:=match p with
 |.d p=>bAi p fun v=>K v hp nx
 |.bx t cs=>aRi t cs hp nx K
 |.bxr t cs n=>aVb t cs n hp nx K
 |.own b ks _=>∀l,K (.ow nx) ((nx,.row b ks l)::hp) (nx+1)
 |.fn g bs=>aHd bs hp nx fun vs hp nx=>K (.fn g vs) hp nx
def aLc(ps:List PI):HP->Nat->(List SV->HP->Nat->Prop)->Prop:=List.rec (motive:=fun _=>HP->Nat->(List SV->HP->Nat->Prop)->Prop) (fun hp nx K=>K [] hp nx) (fun p _ ih hp nx K=>genI p hp nx fun v hp nx=>ih hp nx fun vs hp nx=>K (v::vs) hp nx) ps
def yA:List CK->Nat->Nat
 |[],nx=>nx
 |.d _::r,nx=>yA r nx
 |.ow _ _::r,nx=>yA r (nx+1)
 |.fx _ _::r,nx=>yA r nx
def aNs:List (TypeId×List CK)->Nat->List Nat×Nat
 |[],nx=>([],nx)
 |(_,cs)::r,nx=>(nx::(aNs r (yA cs (nx+1))).1,(aNs r (yA cs (nx+1))).2)
def cA:List PI->Nat->List Nat×List Nat
 |[],_=>([],[])
 |.d _::r,nx=>cA r nx
 |.bx _ cs::r,nx=>(nx::(cA r (yA cs (nx+1))).1,(cA r (yA cs (nx+1))).2)
 |.bxr _ cs _::r,nx=>(nx::(cA r (yA cs (nx+1))).1,(cA r (yA cs (nx+1))).2)
 |.own _ _ true::r,nx=>(nx::(cA r (nx+1)).1,(cA r (nx+1)).2)
 |.own _ _ false::r,nx=>((cA r (nx+1)).1,nx::(cA r (nx+1)).2)
 |.fn _ bs::r,nx=>((aNs bs nx).1++(cA r (aNs bs nx).2).1,(cA r (aNs bs nx).2).2)
def jA(gone:NL):HP->HP
 |[]=>[]
 |(i,o)::r=>cond (aM i gone) (jA gone r) ((i,o)::jA gone r)
def mU:HP->List Nat
 |[]=>[]
 |(i,_)::r=>i::mU r
def plc:List PI->Nat->HP->HP
 |[],_,hp=>hp
 |.own b ks _::r,nx,hp=>plc r (nx+1) ((nx,.row b ks [])::hp)
 |_::r,nx,hp=>plc r nx hp
def nxR:List PI->Nat->Nat
 |[],nx=>nx
 |.own _ _ _::r,nx=>nxR r (nx+1)
 |_::r,nx=>nxR r nx
def aOp(hv:SV->SP->Prop)(l:SL):(List SV->Prop)->Prop:=List.rec (motive:=fun _=>(List SV->Prop)->Prop) (fun K=>K []) (fun v _ ih K=>hv v fun v=>ih fun r=>K (v::r)) l
def havC(v:SV)(K:SP):Prop:=match v with
 |.int k _=>∀n,K (.int k n)
 |.bool _=>K (.bool true)/\K (.bool false)
 |.str _=>∀s,K (.str s)
 |.row b ks _=>∀l,K (.row b ks l)
 |v=>frc v K
def aHs(v:SV)(K:SP):Prop:=match v with
 |.int k _=>∀n,K (.int k n)
 |.bool _=>∀b,K (.bool b)
 |.str _=>∀s,K (.str s)
 |.row b ks _=>∀l,K (.row b ks l)
 |v=>frc v K
def yE(ro:NL)(h:HP):(HP->Prop)->Prop:=List.rec (motive:=fun _=>(HP->Prop)->Prop) (fun K=>K []) (fun p _ ih K=>cond (aM p.1 ro) (ih fun r=>K (p::r)) (match p with
 |(i,.box t cs)=>aOp aHs cs fun cs=>ih fun r=>K ((i,.box t cs)::r)
 |(i,.row b ks _)=>∀l,ih fun r=>K ((i,.row b ks l)::r)
 |(_,.oth _)=>False)) h
def mS:List PI->Nat->List Nat
 |[],_=>[]
 |.d _::r,nx=>mS r nx
 |.bx _ cs::r,nx=>mS r (yA cs (nx+1))
 |.bxr _ cs _::r,nx=>nx::mS r (yA cs (nx+1))
 |.own _ _ _::r,nx=>mS r (nx+1)
 |.fn _ bs::r,nx=>mS r (aNs bs nx).2
def rY(q:NL):NL->List Nat
 |[]=>[]
 |i::r=>cond (aM i q) (rY q r) (i::rY q r)
def aMr(rs:List PI):Nat->(List SV->Prop)->Prop:=List.rec (motive:=fun _=>Nat->(List SV->Prop)->Prop) (fun _ K=>K []) (fun p _ ih nx K=>match p with
 |.d p=>bAi p fun v=>ih nx fun vs=>K (v::vs)
 |.own _ _ _=>ih (nx+1) fun vs=>K (.ow nx::vs)
 |_=>False) rs
def yJ(i:Nat):TH->Bool
 |[]=>false
 |(a,_)::r=>cond (Nat.beq a i) true (yJ i r)
def rnT(i:Nat):TH->Nat
 |[]=>i
 |(a,b)::r=>cond (Nat.beq a i) b (rnT i r)
def mtP(th:TH):NL->List SV->Bool
 |[],[]=>true
 |i::r,.ptr j 0::s=>cond (yJ i th) (cond (Nat.beq (rnT i th) j) (mtP th r s) false) false
 |_,_=>false
abbrev MK:=HP->Nat->TH->HP->Prop
def aYt(ri:RI)(c:CK)(v:SV)(hp:HP)(nx:Nat)(th:TH)(hc:HP)(K:SV->MK):Prop:=match c,v with
 |.d k,v=>coK k v fun v=>K v hp nx th hc
 |.ow b ks,.nil=>K (.ow nx) ((nx,.row b ks [])::hp) (nx+1) th hc
 |.ow b ks,.ow j=>(match hget j hc with
  |some (.row b' ks' l)=>cond (Nat.beq b b') (cond (kdsEq ks ks') (wns ri j (mX j hc fun hc=>K (.ow nx) ((nx,.row b ks l)::hp) (nx+1) ((nx,j)::th) hc)) False) False
  |_=>False)
 |.fx g is,.fn g' l=>cond (Nat.beq g g') (cond (mtP th is l) (bEq is fun l=>K (.fn g l) hp nx th hc) False) False
 |_,_=>False
def aJz(ri:RI)(cs:List CK):SL->HP->Nat->TH->HP->(List SV->MK)->Prop:=List.rec (motive:=fun _=>List SV->HP->Nat->TH->HP->(List SV->MK)->Prop) (fun vs hp nx th hc K=>match vs with
 |[]=>K [] hp nx th hc
 |_::_=>False) (fun c _ ih vs hp nx th hc K=>match vs with
 |[]=>False
 |v::vs=>aYt ri c v hp nx th hc fun v hp nx th hc=>ih vs hp nx th hc fun vs hp nx th hc=>K (v::vs) hp nx th hc) cs
def bAm(ri:RI)(t:TY)(cs:List CK)(v:SV)(hp:HP)(nx:Nat)(th:TH)(hc:HP)(K:SV->MK):Prop:=match v with
 |.ptr j 0=>(match hget j hc with
  |some (.box t' cells)=>cond (Nat.beq t t') (wns ri j (mX j hc fun hc=>aJz ri cs cells hp (nx+1) ((nx,j)::th) hc fun cells hp nx' th hc=>K (.ptr nx 0) ((nx,.box t cells)::hp) nx' th hc)) False
  |_=>False)
 |_=>False
def aEl:List CK->Nat
 |[]=>0
 |_::r=>Nat.succ (aEl r)
def aTz(ri:RI)(t:TY)(cs:List CK)(n:Nat)(v:SV)(hp:HP)(nx:Nat)(th:TH)(hc:HP)(K:SV->MK):Prop:=match v with
 |.ptr j 0=>(match hget j hc with
  |some (.box t' cells)=>cond (Nat.beq t t') (wns ri j (mX j hc fun hc=>(match sM (aEl cs) cells,vN (aEl cs) cells with
   |some c1,some (.rng lo hi::r)=>Ag ((.rng lo hi::r)=iA n [.rng lo hi]) (aJz ri cs c1 hp (nx+1) ((nx,j)::th) hc fun cells hp nx' th hc=>iM (cells++iA n [.rng lo hi]) fun cells=>K (.ptr nx 0) ((nx,.box t cells)::hp) nx' th hc)
   |_,_=>False))) False
  |_=>False)
 |_=>False
def aTq(ri:RI)(bs:List (TypeId×List CK)):SL->HP->Nat->TH->HP->(List SV->MK)->Prop:=List.rec (motive:=fun _=>List SV->HP->Nat->TH->HP->(List SV->MK)->Prop) (fun vs hp nx th hc K=>match vs with
 |[]=>K [] hp nx th hc
 |_::_=>False) (fun p _ ih vs hp nx th hc K=>match vs with
 |[]=>False
 |v::vs=>(match p with
  |(t,cs)=>bAm ri t cs v hp nx th hc fun v hp nx th hc=>ih vs hp nx th hc fun vs hp nx th hc=>K (v::vs) hp nx th hc)) bs
def mtI(ri:RI)(p:PI)(v:SV)(hp:HP)(nx:Nat)(th:TH)(hc:HP)(K:SV->MK):Prop:=match p,v with
 |.d p,v=>coP p v fun v=>K v hp nx th hc
 |.bx t cs,v=>bAm ri t cs v hp nx th hc K
 |.bxr t cs n,v=>aTz ri t cs n v hp nx th hc K
 |.own b ks _,v=>aYt ri (.ow b ks) v hp nx th hc K
 |.fn g bs,.fn g' vs=>cond (Nat.beq g g') (aTq ri bs vs hp nx th hc fun vs hp nx th hc=>K (.fn g vs) hp nx th hc) False
 |_,_=>False
def bEv(ri:RI)(ps:List PI):SL->HP->Nat->TH->HP->(List SV->MK)->Prop:=List.rec (motive:=fun _=>List SV->HP->Nat->TH->HP->(List SV->MK)->Prop) (fun vs hp nx th hc K=>match vs with
 |[]=>K [] hp nx th hc
 |_::_=>False) (fun p _ ih vs hp nx th hc K=>match vs with
 |[]=>False
 |v::vs=>mtI ri p v hp nx th hc fun v hp nx th hc=>ih vs hp nx th hc fun vs hp nx th hc=>K (v::vs) hp nx th hc) ps
def bkI(fx:NL)(th:TH)(nx i:Nat):Nat:=cond (aM i fx) (cond (yJ i th) (rnT i th) (nx+i)) (nx+i)
mutual
def mpS(f:Nat->Nat):SV->SV
 |.ow i=>.ow (f i)
 |.ptr i o=>.ptr (f i) o
 |.op i j o m=>.op (f i) j o m
 |.agg l=>.agg (mpL f l)
 |.tup l=>.tup (mpL f l)
 |.fn g l=>.fn g (mpL f l)
 |.undef=>.undef
 |.int k n=>.int k n
 |.bool b=>.bool b
 |.str s=>.str s
 |.nil=>.nil
 |.pnil=>.pnil
 |.row b ks l=>.row b ks l
 |.el ks c o=>.el ks c o
 |.gp g o=>.gp g o
 |.rng lo hi=>.rng lo hi
 |.any=>.any
 |.yl i=>.yl i
 |.xp i o m=>.xp (f i) o m
def mpL(f:Nat->Nat):SL->List SV
 |[]=>[]
 |v::r=>mpS f v::mpL f r
end
def frcP(v:SV)(K:SP):Prop:=match v with
 |.ptr i o=>qW i fun i=>K (.ptr i o)
 |v=>frc v K
def aSl(l:SL):(List SV->Prop)->Prop:=List.rec (motive:=fun _=>(List SV->Prop)->Prop) (fun K=>K []) (fun x _ ih K=>frcP x fun x=>ih fun r=>K (x::r)) l
def frcI(v:SV)(K:SP):Prop:=match v with
 |.ow i=>qW i fun i=>K (.ow i)
 |.ptr i o=>qW i fun i=>K (.ptr i o)
 |.fn g l=>aSl l fun l=>K (.fn g l)
 |v=>frc v K
def aAa(l:SL):(List SV->Prop)->Prop:=List.rec (motive:=fun _=>(List SV->Prop)->Prop) (fun K=>K []) (fun x _ ih K=>frcI x fun x=>ih fun r=>K (x::r)) l
def ins(f:Nat->Nat)(h:HP)(hc:HP):(HP->Prop)->Prop:=List.rec (motive:=fun _=>(HP->Prop)->Prop) (fun K=>K hc) (fun p _ ih K=>match p with
 |(i,.box t cs)=>qW (f i) fun j=>aAa (mpL f cs) fun cs=>ih fun r=>K ((j,.box t cs)::r)
 |(i,.row b ks l)=>qW (f i) fun j=>ih fun r=>K ((j,.row b ks l)::r)
 |(_,.oth _)=>False) h
def rngI(k:IntKind)(n:Int):Prop:=match k with
 |.i8=> -128<=n/\n<=127
 |.i16=> -32768<=n/\n<=32767
 |.i32=> -2147483648<=n/\n<=2147483647
 |.i64=> -9223372036854775808<=n/\n<=9223372036854775807
 |.u8=>0<=n/\n<=255
 |.u16=>0<=n/\n<=65535
 |.u32=>0<=n/\n<=4294967295
 |.u64=>0<=n/\n<=18446744073709551615
def bZ:SL->Prop
 |[]=>True
 |.int k n::r=>rngI k n/\bZ r
 |_::r=>bZ r
def aIs(ri:RI)(i:Nat)(c:CtrI)(vs:SL)(hp:HP)(nx:Nat)(K:SV->HP->Nat->Prop):Prop:=
 wmn ri i (wgr ri (bEv ri c.ps vs [] 0 [] hp fun ss hl nl th hc=>HyX (bZ ss)->Ob (c.pre ss hl) (yE (mS c.ps 0) (plc c.rs nl (jA (cA c.ps 0).2 hl)) fun ho=>aMr c.rs nl fun rs=>HyP (c.post ss hl rs ho)->
  ins (bkI (cA c.ps 0).1 th nx) ho hc fun qc=>aAa (mpL (bkI (cA c.ps 0).1 th nx) rs) fun rs'=>qW (nx+nxR c.rs nl) fun nx'=>K (sX rs') qc nx')))
def aHy(ri:RI)(i:Nat)(dir:Bool)(g:Nat)(vs:SL)(K:SP):Prop:=match wS g C with
 |some c=>wmn ri i (match c.ext with
  |0=>cond (yZ c.rs) (yH c.ps vs fun vs=>HyX (bZ vs)->Ob (c.pre vs) (aEc c.rs fun rs=>HyP (c.post vs rs)->K (sX rs))) (wgr ri (yH c.ps vs fun vs=>HyX (bZ vs)->Ob (c.pre vs) (aEc c.rs fun rs=>HyP (c.post vs rs)->K (sX rs))))
  |k+1=>cond dir (bDg (k+1) vs K) False)
 |none=>False
def wK:NL->List Nat->Bool
 |[],_=>true
 |i::r,q=>cond (aM i q) (wK r q) false
mutual
def okS(fx:NL):SV->Bool
 |.ow i=>aM i fx
 |.ptr i _=>aM i fx
 |.op i _ _ _=>aM i fx
 |.agg l=>okL fx l
 |.tup l=>okL fx l
 |.fn _ l=>okL fx l
 |.xp i _ _=>aM i fx
 |_=>true
def okL(fx:NL):SL->Bool
 |[]=>true
 |v::r=>cond (okS fx v) (okL fx r) false
end
def kpF(fx:NL)(f:FR):(FR->Prop)->Prop:=List.rec (motive:=fun _=>(FR->Prop)->Prop) (fun K=>K []) (fun p _ ih K=>match p with
 |(j,v)=>cond (okS fx v) (ih fun r=>K ((j,v)::r)) (ih fun r=>K ((j,.any)::r))) f
theorem aUu{fx:NL}{j:Nat}{v:SV}{r:FR}{K:FR->Prop}:kpF fx ((j,v)::r) K=cond (okS fx v) (kpF fx r fun r=>K ((j,v)::r)) (kpF fx r fun r=>K ((j,.any)::r)):=rfl
def kpH(st:NL)(b:Bool)(h:HP):(HP->Prop)->Prop:=List.rec (motive:=fun _=>(HP->Prop)->Prop) (fun K=>K []) (fun p _ ih K=>match p with
 |(j,o)=>cond (cond b (aM j st) (!aM j st)) (ih fun r=>K ((j,o)::r)) (ih K)) h
theorem aUg{st:NL}{b:Bool}{j:Nat}{o:SJ}{r:HP}{K:HP->Prop}:kpH st b ((j,o)::r) K=cond (cond b (aM j st) (!aM j st)) (kpH st b r fun r=>K ((j,o)::r)) (kpH st b r K):=rfl
def apH(h q:HP):(HP->Prop)->Prop:=List.rec (motive:=fun _=>(HP->Prop)->Prop) (fun K=>K q) (fun p _ ih K=>ih fun r=>K (p::r)) h
theorem aQj{p:Nat×SJ}{r q:HP}{K:HP->Prop}:apH (p::r) q K=apH r q fun r=>K (p::r):=rfl
def okX(fx:NL):SJx->Bool
 |.ho _ _ _ _ id=>aM id fx
 |.vr cs=>okL fx cs
 |.vals _ cs=>okL fx cs
 |_=>true
def okO(fx:NL):SJ->Bool
 |.box _ cs=>okL fx cs
 |.oth o=>okX fx o
 |_=>true
def okH(fx:NL):HP->Bool
 |[]=>true
 |(i,o)::r=>cond (aM i fx) (cond (okO fx o) (okH fx r) false) false
def aOg:NL->List Nat->Bool
 |[],_=>true
 |i::r,q=>cond (aM i q) false (aOg r q)
def uL(ri:RI)(i:Nat)(W:IW)(vs:SL)(fr:FR)(hp:HP)(nx:Nat)(K:SV->FR->HP->Nat->Prop):Prop:=
 cond ri.D (wmn ri i (cond ri.G (kpH ri.st true hp fun hb=>kpH ri.st false hp fun ha=>W (ri.fx++mU hb) vs ha nx fun fx s hp nx'=>cond (wK ri.fx fx) (cond (okH fx hb) (cond (aOg (mU hp) ri.st) (cond (Nat.ble nx nx') (kpF fx fr fun fr=>apH hp hb fun hp=>K s fr hp nx') (Bad 101)) (Bad 102)) (Bad 103)) (Bad 104)) (Bad 105)))
  (W ri.fx vs hp nx fun fx s hp nx=>cond (wK ri.fx fx) (kpF fx fr fun fr=>K s fr hp nx) (Bad 106))
def bDy(vk:KL)(ag:Bool)(c:CL)(K:SP):Prop:=match ag,vk with
 |true,vk=>aEy vk c 0 fun l=>K (.agg l)
 |false,[k]=>aGp (kSV k c 0) K
 |false,_=>False
def bEy(zs:SL)(ag:Bool)(K:SP):Prop:=match ag,zs with
 |true,zs=>iM zs fun l=>K (.agg l)
 |false,[z]=>frc z K
 |false,_=>False
def wP(m:Int->Option CL)(z:Int)(c:CL):Int->Option CL:=fun y=>if y=z then some c else m y
def aFg(t:TY)(K:IntKind->TyI->Prop):Prop:=match bF t T with
 |some ti=>(match ti.sm with
  |.map kt et=>(match bF kt T,bF et T with
   |some tk,some te=>(match tk.sm with
    |.int k=>K k te
    |_=>False)
   |_,_=>False)
  |_=>False)
 |none=>False
def aCi(ri:RI)(i:Nat)(t:TY)(x y:SV)(ok:Bool)(hp:HP)(K:SP):Prop:=match x,y with
 |.ow id,.int k z=>(match hget id hp with
  |some (.oth (.mp kk vk ag m))=>aFg T t fun k' te=>cond (kEq k kk) (cond (kEq k k') (cond (kdsEq vk te.ks) (cond (cond ag te.agg (not te.agg)) (wld ri i id ((∀c,m z=some c->bDy vk ag c fun v=>K (match ok with
   |true=>.tup [v,.bool true]
   |false=>v))/\(m z=none->bEy te.zs ag fun v=>K (match ok with
   |true=>.tup [v,.bool false]
   |false=>v)))) False) False) False) False
  |_=>False)
 |_,_=>False
def aTp(t:TY)(ri:RI)(i:Nat)(hp:HP)(nx:Nat)(K:SV->HP->Nat->Prop):Prop:=
 aFg T t fun k te=>wmn ri i (K (.ow nx) ((nx,.oth (.mp k te.ks te.agg fun _=>none))::hp) (nx+1))
def aUj(ri:RI)(t:TY)(x y v:SV)(hp:HP)(K:HP->Prop):Prop:=match x,y with
 |.ow id,.int k z=>(match hget id hp with
  |some (.oth (.mp kk vk ag m))=>aFg T t fun k' te=>cond (kEq k kk) (cond (kEq k k') (cond (kdsEq vk te.ks) (wns ri id (match dF v,v,ag with
   |some l,.agg _,true=>rK vk l fun ss=>∀m',m'=wP m z (ss.map cSV)->kP id (.oth (.mp kk vk ag m')) hp K
   |some _,.agg _,false=>False
   |some l,_,false=>rK vk l fun ss=>∀m',m'=wP m z (ss.map cSV)->kP id (.oth (.mp kk vk ag m')) hp K
   |_,_,_=>False)) False) False) False
  |_=>False)
 |_,_=>False
def eV(l:LX):BL:=l.map fun c=>UInt8.ofNat (cI c 0).toNat
def aVd(ri:RI)(ts td:TyI)(id:Nat)(hp:HP)(K:SP):Prop:=match ts.sm,td.sm with
 |.slice e,.str=>(match bF e T with
  |some te=>(match te.sm with
   |.int .u8=>(match hget id hp with
    |some (.row _ [.int .u8] l)=>cond ri.D False (∀w:BA,w.data.toList.length=l.length->w.data.toList.length<=140737488351232->HyX (w.data.toList=eV l)->K (.str w))
    |_=>False)
   |_=>False)
  |none=>False)
 |_,_=>False
def wpOp(ri:RI)(i:Nat)(op:Op)(fr:FR)(hp:HP)(nx:Nat)(K:SV->FR->HP->Nat->Prop):Prop:=match op with
 |.move x=>wop fr x fun v=>K v fr hp nx
 |.assign x=>wop fr x fun v=>K v fr hp nx
 |.pick c a b=>wop fr c fun c=>(match c with
  |.bool true=>wop fr a fun v=>K v fr hp nx
  |.bool false=>wop fr b fun v=>K v fr hp nx
  |_=>False)
 |.nilCheck x=>wop fr x fun v=>(match v with
  |.ptr a b=>K (.ptr a b) fr hp nx
  |.el a b c=>K (.el a b c) fr hp nx
  |.op a b c d=>K (.op a b c d) fr hp nx
  |.fn a b=>K (.fn a b) fr hp nx
  |_=>False)
 |.unOp u t x=>wop fr x fun v=>(match u,v with
  |.not,.bool true=>K (.bool false) fr hp nx
  |.not,.bool false=>K (.bool true) fr hp nx
  |.neg,.int k n=>lhK k fun lo hi=>lo<=n->n<=hi->Wr lo hi (-n) fun z=>K (.int k z) fr hp nx
  |.xor,.int k n=>lhK k fun lo hi=>Nx lo hi n fun z=>K (.int k z) fr hp nx
  |_,_=>False)
 |.binOp b t x y _=>wop fr x fun x=>wop fr y fun y=>bEs E T ri.nb b t x y fun v=>K v fr hp nx
 |.extract x j=>wop fr x fun v=>(match v with
  |.tup l=>(match atS l j with
   |some v=>K v fr hp nx
   |none=>False)
  |_=>False)
 |.convert s d x=>wop fr x fun v=>(match v,bF s T,bF d T with
  |.int ks n,some _,some td=>(match td.sm with
   |.int k=>HyX (rngI ks n)->lhK k fun lo hi=>Wr lo hi n fun z=>K (.int k z) fr hp nx
   |_=>False)
  |.ow id,some ts,some td=>aVd T ri ts td id hp fun v=>K v fr hp nx
  |_,_,_=>False)
 |.box t x=>wop fr x fun v=>(match dF v with
  |some l=>wmn ri i (K (.ptr nx 0) fr ((nx,.box t l)::hp) (nx+1))
  |none=>False)
 |.alloc t=>(match bF t T with
  |some ti=>(match ti.sm with
   |.bld=>(match ti.zs with
    |[.pnil,.nil]=>wmn ri i (∀u:BL,u.length=0->u=[]->K (.ptr nx 0) fr ((nx,.oth (.bl t u))::hp) (nx+1))
    |_=>False)
   |_=>wmn ri i (iM ti.zs fun zs=>K (.ptr nx 0) fr ((nx,.box t zs)::hp) (nx+1)))
  |none=>False)
 |.build t ps=>aUa fr ps.toList fun vs=>aHx T t vs fun v=>K v fr hp nx
 |.buildSlice t len ps=>aUa fr ps.toList fun vs=>aCg T ri i t len vs fr hp nx K
 |.makeSlice t x y=>wop fr x fun x=>wop fr y fun y=>aUc T ri i t x y hp nx fun v hp nx=>K v fr hp nx
 |.fieldAddr t x f=>wop fr x fun x=>aGu T t x f fun v=>K v fr hp nx
 |.indexAddr t x y=>(match x with
  |.global g=>wop fr y fun y'=>aPx T t g y' fun v=>K v fr hp nx
  |x=>wop fr x fun x'=>wop fr y fun y'=>aCd T t x' y' hp (bCe y) fun v=>K v fr hp nx)
 |.index t x y=>wop fr x fun x'=>wop fr y fun y'=>aIi T t x' y' (bCe y) fun v=>K v fr hp nx
 |.load t x=>wop fr x fun x=>aSf T ri i t x hp fun v=>K v fr hp nx
 |.slice t x lo hi mx=>(match mx with
  |none=>wop fr x fun x=>wSlc T ri t x lo hi fr hp fun v fr hp=>K v fr hp nx
  |some _=>False)
 |.makeFunc f a b=>(match f,a.toList with
  |.func g,[]=>aXx fr b.toList fun vs=>K (.fn g vs) fr hp nx
  |_,_=>False)
 |.call c=>(match c.callee with
  |.builtin bi=>(match bi,c.args.toList,c.argTypes.toList with
   |.len,[x],[t]=>wop fr x fun x=>bDe T t x hp fun v=>K v fr hp nx
   |.min,[x,y],_=>wop fr x fun x=>wop fr y fun y=>(match x,y with
    |.int k n,.int k' m=>cond (kEq k k') (∀z,z=min n m->K (.int k z) fr hp nx) False
    |_,_=>False)
   |.max,[x,y],_=>wop fr x fun x=>wop fr y fun y=>(match x,y with
    |.int k n,.int k' m=>cond (kEq k k') (∀z,z=max n m->K (.int k z) fr hp nx) False
    |_,_=>False)
   |.append,[x,y],[s,t]=>wop fr x fun x=>wop fr y fun y=>aBw T ri i s t x y hp nx fun v hp nx=>K v fr hp nx
   |_,_,_=>False)
  |.value f=>wop fr f fun f'=>(match f' with
   |.fn g caps=>aXx fr c.args.toList fun vs=>(match wS g C with
    |some ct=>(match ct.io with
     |none=>(match caps with
      |[]=>aEx 9 ri vs fr hp fun vs fr hp=>aHy C ri i (aXr f) g vs fun v=>K v fr hp nx
      |_::_=>False)
     |some (.ctr ci)=>aIs ri i ci (vs++caps) hp nx fun v hp nx=>K v fr hp nx
     |some (.inl W)=>uL ri i W (vs++caps) fr hp nx K
     |some (.yld _)=>False)
    |none=>False)
   |.yl N=>aXx fr c.args.toList fun vs=>(match wS 1000000 C with
    |some ct=>(match ct.io with
     |some (.yld W)=>cond ri.D False (uL ri i (W N) vs fr hp nx K)
     |_=>False)
    |none=>False)
   |_=>False)
  |.invoke _ _=>False)
 |.lookup t x y ok=>wop fr x fun x=>wop fr y fun y=>aCi T ri i t x y ok hp fun v=>K v fr hp nx
 |.makeMap t none=>aTp T t ri i hp nx fun v hp nx=>K v fr hp nx
 |_=>False
def aLw(ri:RI)(i:Nat)(op:Op)(fr:FR)(hp:HP)(nx:Nat)(K:FR->HP->Nat->Prop):Prop:=match op with
 |.store t p v=>wop fr p fun p=>wop fr v fun v=>wmn ri i (match p,v with
  |.op id j o m,.ow id2=>bEj T ri t id j o m id2 hp fun hp=>K fr hp nx
  |p,v=>aJs T ri t p v hp fun hp=>K fr hp nx)
 |.nilCheck x=>wop fr x fun v=>(match v with
  |.ptr a b=>K fr hp nx
  |.el a b c=>K fr hp nx
  |.op a b c d=>K fr hp nx
  |_=>False)
 |.mapUpdate t m k v=>wop fr m fun m=>wop fr k fun k=>wop fr v fun v=>wmn ri i (aUj T ri t m k v hp fun hp=>K fr hp nx)
 |_=>False
def wgd(ops:OA)(fr:FR)(g:OB)(x y:Prop):Prop:=match g with
 |none=>x
 |some (j,w)=>(match ops[j]? with
  |some o=>(match o.dst with
   |some d=>(match bT d fr with
    |some (.bool b)=>cond (cond b w (not w)) x y
    |some .undef=>y
    |_=>False)
   |none=>False)
  |none=>False)
def wpO1(n:Nat)(ri:RI)(o:Oper)(ih:Nat->FR->HP->Nat->(FR->HP->Nat->Prop)->Prop)(i:Nat)(fr:FR)(hp:HP)(nx:Nat)(K:FR->HP->Nat->Prop):Prop:=match o.dst with
 |some d=>cond (Nat.ble (d+1) n) (wgd ri.ops fr o.guard (wpOp E T C ri i o.op fr hp nx fun v fr hp nx=>ih (i+1) ((d,v)::fr) hp nx K) (ih (i+1) ((d,.undef)::fr) hp nx K)) False
 |none=>wgd ri.ops fr o.guard (aLw T ri i o.op fr hp nx fun fr hp nx=>ih (i+1) fr hp nx K) (ih (i+1) fr hp nx K)
def pT(n:Nat)(ri:RI)(i:Nat)(ops:OL2):FR->HP->Nat->(FR->HP->Nat->Prop)->Prop:=
 List.rec (motive:=fun _=>Nat->FR->HP->Nat->(FR->HP->Nat->Prop)->Prop) (fun _ fr hp nx K=>K fr hp nx) (fun o _ ih=>wpO1 E T C n ri o ih) ops i
theorem aXy{n:Nat}{ri:RI}{i:Nat}{o:Oper}{r:OL2}{fr:FR}{hp:HP}{nx:Nat}{K:FR->HP->Nat->Prop}:pT E T C n ri i (o::r) fr hp nx K=(match o.dst with
 |some d=>cond (Nat.ble (d+1) n) (wgd ri.ops fr o.guard (wpOp E T C ri i o.op fr hp nx fun v fr hp nx=>pT E T C n ri (i+1) r ((d,v)::fr) hp nx K) (pT E T C n ri (i+1) r ((d,.undef)::fr) hp nx K)) False
 |none=>wgd ri.ops fr o.guard (aLw T ri i o.op fr hp nx fun fr hp nx=>pT E T C n ri (i+1) r fr hp nx K) (pT E T C n ri (i+1) r fr hp nx K)):=rfl
def bDu(o:Op):Bool:=match o with
 |.box _ _=>true
 |.alloc _=>true
 |.store _ _ _=>true
 |.buildSlice _ _ _=>true
 |.makeSlice _ _ _=>true
 |.makeMap _ _=>true
 |.mapUpdate _ _ _ _=>true
 |.call c=>(match c.callee with
  |.builtin .append=>true
  |.builtin _=>false
  |_=>true)
 |_=>false
def vG:Nat->List Oper->List Nat
 |_,[]=>[]
 |i,o::r=>cond (bDu o.op) (i::vG (i+1) r) (vG (i+1) r)
def bBm(bs:NL):NL->List Nat->List Nat
 |_,[]=>[]
 |pre,j::r=>cond (pre.all fun i=>(bs.getD j 0).testBit i) (bBm bs (j::pre) r) (j::bBm bs (j::pre) r)
def srt:NL->Bool
 |[]=>true
 |[_]=>true
 |a::b::r=>Nat.blt a b&&srt (b::r)
def zO(ops:OA):Bool:=bY ops (bef ops)&&(jU (bef ops) (bBm (bef ops) [] (vG 0 ops.toList)) (vG 0 ops.toList)&&(aPl ops (bef ops) (vG 0 ops.toList) (bBm (bef ops) [] (vG 0 ops.toList))&&srt (vG 0 ops.toList)))
inductive Mu where
 |cst (n:Int)
 |sl (k:Nat)
 |ln (k:Nat)
 |bx (k j:Nat)
 |bn (k j:Nat)
 |sub (a b:Mu)
 |add (a b:Mu)
 |mp (k j:Nat)
def aKy(v:SV)(hp:HP):Option Int:=match v with
 |.nil=>some 0
 |.row _ _ l=>some ((l.length:Nat):Int)
 |.str s=>some ((s.data.toList.length:Nat):Int)
 |.ow i=>(match hget i hp with
  |some (.row _ _ l)=>some ((l.length:Nat):Int)
  |some (.oth (.wk _ _ l))=>some ((l.length:Nat):Int)
  |some (.oth (.ho _ _ l _ _))=>some ((l.length:Nat):Int)
  |some (.oth (.vr cs))=>some ((iJ cs:Nat):Int)
  |_=>none)
 |_=>none
def bBu(k:Nat):HP->Option SV
 |[]=>none
 |(_,.oth (.vals _ cs))::_=>atS cs k
 |_::r=>bBu k r
def celN(j:Nat)(v:Option SV)(hp:HP):Option SV:=match v with
 |some (.ptr i _)=>(match hget i hp with
  |some (.box _ cs)=>atS cs j
  |_=>none)
 |_=>none
def nF(k:Nat)(fr:FR)(hp:HP):Option SV:=cond (Nat.blt k 3000000) (bT k fr) (cond (Nat.blt k 4000000) (bBu (k - 3000000) hp) (cond (Nat.blt k 5000000) (celN 0 (bT (k - 4000000) fr) hp) (celN ((k - 5000000)%100) (bT ((k - 5000000) / 100) fr) hp)))
def aWr(k j:Nat)(fr:FR)(hp:HP):Option SV:=match nF k fr hp with
 |some (.ptr i _)=>(match hget i hp with
  |some (.box _ cs)=>atS cs j
  |_=>none)
 |some (.agg cs)=>atS cs j
 |_=>none
def muM(m:Int->Option CL)(z:Int):Int:=match m z with
 |some c=>cI c 0+1
 |none=>0
def Mu.ev(m:Mu)(fr:FR)(hp:HP):Option Int:=match m with
 |.cst n=>some n
 |.sl k=>(match bT k fr with
  |some (.int _ n)=>some n
  |_=>none)
 |.ln k=>(match bT k fr with
  |some v=>aKy v hp
  |none=>none)
 |.bx k j=>(match aWr k j fr hp with
  |some (.int _ n)=>some n
  |_=>none)
 |.bn k j=>(match aWr k j fr hp with
  |some v=>aKy v hp
  |none=>none)
 |.sub p q=>(match p.ev fr hp,q.ev fr hp with
  |some x,some y=>some (x - y)
  |_,_=>none)
 |.add p q=>(match p.ev fr hp,q.ev fr hp with
  |some x,some y=>some (x+y)
  |_,_=>none)
 |.mp k j=>(match bT k fr,bT j fr with
  |some (.ow i),some (.int _ z)=>(match hget i hp with
   |some (.oth (.mp _ _ _ m))=>some (muM m z)
   |_=>none)
  |_,_=>none)
def evK(m:Mu)(fr:FR)(hp:HP)(K:Int->Prop):Prop:=match m.ev fr hp with
 |some x=>K x
 |none=>False
structure Ann where
 lv:List Nat
 vr:List (Nat×Option (Nat×List Kd))
 ob:List Nat
 fz:List (Nat×Nat×List Kd)
 wd:List (Nat×Nat×Nat×Mu×Mu)
 wk:List (Nat×Nat×List Kd)
 cb:List (Nat×Nat×Nat×List Kd)
 J:FR->HP->FR->HP->Prop
 mu:Mu
 un:Nat
inductive Hk where
 |st (k:Nat)
 |fz (k b:Nat) (ks:KL)
 |as (p:FR->HP->Prop)
 |fl (k:Nat)
structure DRs where
 dr:List (Nat×(List Nat×Bool))
 hk:List (Nat×List Hk)
 /-- drawn regions whose last operation,a store behind all others,is walked by itself -/
 z:List Nat
 /-- regions where what is compared is not looked at -/
 nb:List Nat
def bCn(k:Nat):List (Nat×List Hk)->List Hk
 |[]=>[]
 |(j,v)::r=>cond (Nat.beq j k) v (bCn k r)
def bCg(k:Nat):List (Nat×Ann)->Option Ann
 |[]=>none
 |(j,v)::r=>cond (Nat.beq j k) (some v) (bCg k r)
def rid:Code->Nat
 |.region i _ _=>i
 |.seq a _=>rid a
 |.block _ a=>rid a
 |.loop a=>rid a
 |_=>0
def aPe(mo:NL):HP->List Nat
 |[]=>[]
 |(i,_)::r=>cond (aM i mo) (aPe mo r) (i::aPe mo r)
end
end Go.AM
namespace Go.AM
open Go.RowKit
variable [σ:Sg]
section
variable {P:PG}(E:Env P)
def dP(t:Nat):Sm->TypeDesc->Prop
 |.int k,u=>u=.int k
 |.bool,u=>u=.bool
 |.str,u=>u=.string
 |.slice e,u=>u=.slice e
 |.struct fs,u=>∃F,u=.struct F/\wR E t=some (fs.map fun x=>(x.1,x.2.2))/\∀f o ft s,atF fs f=some (o,ft,s)->∃fd ii,F[f]?=some fd/\fd.offset=o/\fd.type=ft/\E.inf ft=some ii/\Nat.beq ii.size 0=false
 |.array n e,u=>u=.array n e
 |.ptr e,u=>u=.pointer e
 |.map k e,u=>u=.map k e
 |.bld,u=>∃F,u=.struct F
 |.oth,_=>True
def zAg(a:Bool)(z:Value):Bool:=match a,z with
 |true,.agg _=>true
 |true,_=>false
 |false,.agg _=>false
 |false,.tuple _=>false
 |false,_=>true
structure TyOk (t:Nat) (i:TyI):Prop where
 inf:∃z,E.inf t=some ⟨i.size,i.bytes,some z⟩/\∀ρ A H,Reps ρ A H i.zs (ext z).cells.toList
 und:∃u,E.und t=some u/\dG u=i.agg/\dP E t i.sm u
 zag:∀ii z,E.inf t=some ii->ii.zero=some z->zAg i.agg z=true
def dM(T:TTb):Prop:=∀t i,bF t T=some i->TyOk E t i
end
def FxR(fx:NL)(ρe ρ:RM):Prop:=∀i,aM i fx=true->∀v,ρe i=some v->ρ i=some v
theorem FxR.le{fx:NL}{ρe ρ ρ':RM}(h:FxR fx ρe ρ)(k:RMle ρ ρ'):FxR fx ρe ρ':=fun i hi v hv=>k _ _ (h i hi v hv)
theorem FxR.trans{fx:NL}{a b c:RM}(h:FxR fx a b)(k:FxR fx b c):FxR fx a c:=fun i hi v hv=>k i hi _ (h i hi v hv)
theorem RMle.fx{fx:NL}{a b:RM}(h:RMle a b):FxR fx a b:=fun i _ v hv=>h i v hv
theorem aLo{k:IntKind}{n:Int}(h:(Lit.int k n).wf=true):rngI k n:=by
 have:=bU h;cases k<;>simpa [rngI,IntKind.min,IntKind.max,IntKind.bits,IntKind.signed] using this
theorem vX{ρ:RM}{A:NQ}{H:AH}:∀{ss:SL} {vs:VL},Reps ρ A H ss vs->bZ ss
 |[],_,_=>trivial
 |s::r,[],h=>by simp only[Reps] at h
 |s::r,v::vs,h=>by
  simp only[Reps] at h;cases s with
  |int k n=>
   have h1:=h.1;simp only[Rep] at h1;exact⟨aLo h1.2,vX h.2⟩
  |_=>exact(vX (ss:=r) h.2:)
abbrev PSs:=List (Nat×OL)
def flt:PSs->OL
 |[]=>[]
 |(_,L)::r=>L++flt r
def gE(st:NL):PSs->OL
 |[]=>[]
 |(i,L)::r=>bif aM i st then L++gE st r else gE st r
theorem lT(st:NL):∀PS:PSs,(gE st PS).Sublist (flt PS)
 |[]=>List.Sublist.refl _
 |(i,L)::r=>by
  simp only[gE,flt];cases aM i st with
  |true=>exact(List.Sublist.refl L).append (lT st r)
  |false=>exact(lT st r).trans (List.sublist_append_right _ _)
variable {P:PG}{E:Env P}
def OwH(A:NQ)(H:AH)(b:Nat)(ks:KL)(l:LX)(j:Int)(y x:Value)(Lr:OL):Prop:=
 0<=j/\j<((l.length:Nat):Int)/\l.length<=140737488351232/\l.length*b<=140737488351232/\ks.length=1/\y.oneCell'=true/\∃M cs ex,x=.slice (some ⟨2*M+1,0,none⟩) l.length l.length/\Lr=[(M,.cells (cs.take (j.toNat*ks.length+0)++([y]++cs.drop (j.toNat*ks.length+0+[y].length))) ks.length ex)]/\Typd A H ks l cs
def MpOk(A:NQ)(H:AH)(kk:IntKind)(vk:KL)(ag:Bool)(m:Int->Option CL)(es:List (Value×Value×Nat)):Prop:=
 (∀e∈es,∃z,e.1=.int kk z)/\∀z,match m z with
  |some c=>∃(i:Nat) (v:Value) (b:Nat),es[i]?=some (.int kk z,v,b)/\(∀j e,j<i->es[j]?=some e->e.1≠.int kk z)/\(match ag with
   |true=>∃vs,v=.agg ⟨vs⟩/\CellsA A H vk vs c
   |false=>CellsA A H vk [v] c)
  |none=>∀e∈es,e.1≠.int kk z
def RepS(ρ:RM)(A:NQ)(H:AH)(i:Nat):SJx->OL->Prop
 |.wk b ks l,L=>∃x,ρ i=some x/\OwW A H b ks l x L
 |.ho b ks l j id,L=>∃x y,ρ i=some x/\ρ id=some y/\OwH A H b ks l j y x L
 |.vals us cs,L=>∃x,ρ i=some x/\L=[]/\Reps ρ A H cs us
 |.bl t u,L=>∃N M,ρ i=some (.pointer (some ⟨2*N+1,0,none⟩))/\L=bld t N M u
 |.vr cs,L=>∃M vs ex,ρ i=some (.slice (some ⟨2*M+1,0,none⟩) vs.length vs.length)/\L=[(M,.cells vs 1 ex)]/\Reps ρ A H cs vs
 |.mp kk vk ag m,L=>∃N es cl,ρ i=some (.map (some (2*N+1)))/\L=[(N,.map es cl)]/\MpOk A H kk vk ag m es
def RepO(E:Env P)(ρ:RM)(A:NQ)(H:AH)(i:Nat):SJ->OL->Prop
 |.box t cs,L=>∃N vs,ρ i=some (.pointer (some ⟨2*N+1,0,none⟩))/\L=[(N,.cells vs (fD E t) true)]/\Reps ρ A H cs vs
 |.row b ks l,L=>∃x,ρ i=some x/\OwS A H b ks l x L
 |.oth o,L=>RepS ρ A H i o L
def RepH(E:Env P)(ρ:RM)(A:NQ)(H:AH):HP->PSs->Prop
 |[],PS=>PS=[]
 |(i,o)::r,PS=>∃L PS',PS=(i,L)::PS'/\RepO E ρ A H i o L/\RepH E ρ A H r PS'
def RepF(ρ:RM)(A:NQ)(H:AH):FR->List (Nat×Value)->Prop
 |[],l=>l=[]
 |(k,s)::r,l=>∃v l',l=(k,v)::l'/\Rep ρ A H s v/\RepF ρ A H r l'
section
variable {ρ ρ':RM}{A A':NQ}{H H':AH}
theorem OwH.gr{b:Nat}{ks:KL}{l:LX}{j:Int}{y x:Value}{L:OL}(h:OwH A H b ks l j y x L)(g:Gr A H A' H'):OwH A' H' b ks l j y x L:=by
 obtain⟨h1,h2,h3,h4,h5,h5',M,cs,ex,h6,h7,h8⟩:=h;exact⟨h1,h2,h3,h4,h5,h5',M,cs,ex,h6,h7,h8.gr g⟩
theorem MpOk.gr{kk:IntKind}{vk:KL}{ag:Bool}{m:Int->Option CL}{es:List (Value×Value×Nat)}(h:MpOk A H kk vk ag m es)(g:Gr A H A' H'):MpOk A' H' kk vk ag m es:=by
 refine⟨h.1,fun z=>?_⟩;have:=h.2 z;cases e:m z with
 |none=>rw[e] at this;exact this
 |some c=>
  rw[e] at this;obtain⟨i,v,b,h1,h2,h3⟩:=this;refine⟨i,v,b,h1,h2,?_⟩;cases ag with
  |true=>obtain⟨vs,h4,h5⟩:=h3;exact⟨vs,h4,CellsA.gr g _ _ _ h5⟩
  |false=>exact CellsA.gr g _ _ _ h3
theorem RepS.mono(hr:RMle ρ ρ')(g:Gr A H A' H'){i:Nat}{o:SJx}{L:OL}(h:RepS ρ A H i o L):RepS ρ' A' H' i o L:=by
 cases o with
 |wk b ks l=>obtain⟨x,h1,h2⟩:=h;exact⟨x,hr _ _ h1,h2.gr g⟩
 |ho b ks l j id=>obtain⟨x,y,h1,h2,h3⟩:=h;exact⟨x,y,hr _ _ h1,hr _ _ h2,h3.gr g⟩
 |mp kk vk ag m=>obtain⟨N,es,cl,h1,h2,h3⟩:=h;exact⟨N,es,cl,hr _ _ h1,h2,h3.gr g⟩
 |vals us cs=>obtain⟨x,h1,h2,h3⟩:=h;exact⟨x,hr _ _ h1,h2,Reps.mono hr g h3⟩
 |bl t u=>obtain⟨N,M,h1,h2⟩:=h;exact⟨N,M,hr _ _ h1,h2⟩
 |vr cs=>obtain⟨M,vs,ex,h1,h2,h3⟩:=h;exact⟨M,vs,ex,hr _ _ h1,h2,Reps.mono hr g h3⟩
theorem RepO.mono(hr:RMle ρ ρ')(g:Gr A H A' H'){i:Nat}{o:SJ}{L:OL}(h:RepO E ρ A H i o L):RepO E ρ' A' H' i o L:=by
 cases o with
 |box t cs=>obtain⟨N,vs,h1,h2,h3⟩:=h;exact⟨N,vs,hr _ _ h1,h2,Reps.mono hr g h3⟩
 |row b ks l=>obtain⟨x,h1,h2⟩:=h;exact⟨x,hr _ _ h1,h2.gr g⟩
 |oth o=>exact RepS.mono hr g h
theorem RepH.mono(hr:RMle ρ ρ')(g:Gr A H A' H'):∀{hp:HP} {PS:PSs},RepH E ρ A H hp PS->RepH E ρ' A' H' hp PS
 |[],PS,h=>h
 |(i,o)::r,PS,⟨L,PS',h1,h2,h3⟩=>⟨L,PS',h1,h2.mono hr g,RepH.mono hr g h3⟩
theorem RepF.mono(hr:RMle ρ ρ')(g:Gr A H A' H'):∀{fr:FR} {l:LV},RepF ρ A H fr l->RepF ρ' A' H' fr l
 |[],l,h=>h
 |(k,s)::r,l,⟨v,l',h1,h2,h3⟩=>⟨v,l',h1,Rep.mono hr g h2,RepF.mono hr g h3⟩
theorem RepF.get:∀{fr:FR} {l:LV},RepF ρ A H fr l->∀{k:Nat} {s:SV},bT k fr=some s->∃v,look k l=some v/\Rep ρ A H s v
 |[],l,h,k,s,e=>by simp[bT] at e
 |(j,s')::r,l,⟨v,l',h1,h2,h3⟩,k,s,e=>by
  subst h1;simp only[bT] at e;simp only[look];cases hb:Nat.beq j k with
  |true=>rw[hb,QT] at e;cases e;exact⟨v,rfl,h2⟩
  |false=>rw[hb,QF] at e;rw[QF];exact RepF.get h3 e
theorem RepH.get:∀{hp:HP} {PS:PSs},RepH E ρ A H hp PS->∀{k:Nat} {o:SJ},hget k hp=some o->∃L X Y,PS=X++(k,L)::Y/\RepO E ρ A H k o L/\(∀p∈X,p.1≠k)/\
 (∀o' K,kP k o' hp K->∃qc,K qc/\∀{ρ' A' H' L'},RMle ρ ρ'->Gr A H A' H'->RepO E ρ' A' H' k o' L'->RepH E ρ' A' H' qc (X++(k,L')::Y))/\
 (∀K,mX k hp K->∃qc,K qc/\RepH E ρ A H qc (X++Y))
 |[],PS,h,k,o,e=>by simp[hget] at e
 |(j,o1)::r,PS,⟨L,PS',h1,h2,h3⟩,k,o,e=>by
  subst h1;simp only[hget] at e;cases hb:Nat.beq j k with
  |true=>
   rw[hb,QT] at e;cases e;have hj:=QN hb;subst hj;refine⟨L,[],PS',rfl,h2,(fun p hp=>by cases hp),fun o' K hk=>?_,fun K hk=>?_⟩
   ·simp only[oX,hb,QT] at hk;exact⟨_,hk,fun hr g h=>⟨_,_,rfl,h,h3.mono hr g⟩⟩
   ·simp only[aNy,hb,QT] at hk;exact⟨_,hk,h3⟩
  |false=>
   rw[hb,QF] at e;obtain⟨L2,X,Y,q1,q2,q3,q4,q5⟩:=RepH.get h3 e;subst q1;refine⟨L2,(j,L)::X,Y,rfl,q2,?_,fun o' K hk=>?_,fun K hk=>?_⟩
   ·intro p hp;rcases List.mem_cons.1 hp with rfl|hp
    ·intro e2;simp only at e2;subst e2;rw[show Nat.beq j j=true from Nat.beq_refl j] at hb;cases hb
    ·exact q3 p hp
   ·simp only[oX,hb,QF] at hk;obtain⟨qc,k1,k2⟩:=q4 o' _ hk;exact⟨_,k1,fun hr g h=>⟨_,_,rfl,h2.mono hr g,k2 hr g h⟩⟩
   ·simp only[aNy,hb,QF] at hk;obtain⟨qc,k1,k2⟩:=q5 _ hk;exact⟨_,k1,⟨_,_,rfl,h2,k2⟩⟩
theorem bH:∀(X Y:PSs),flt (X++Y)=flt X++flt Y
 |[],Y=>rfl
 |(i,L)::X,Y=>by simp only[List.cons_append,flt,bH X Y,QA]
theorem iI(st:NL):∀(X Y:PSs),gE st (X++Y)=gE st X++gE st Y
 |[],Y=>rfl
 |(i,L)::X,Y=>by
  simp only[List.cons_append,gE,iI st X Y];cases aM i st<;>simp
end
theorem Takes.split{La:OL}(hk:∃M ob,La=[(M,ob)])(X Y:OL):Takes La (X++(La++Y)) (X++Y):=by
 obtain⟨M,ob,rfl⟩:=hk
 induction X with
 |nil=>exact .cons .zero .nil
 |cons x X ih=>exact ih.skip x
theorem Takes.ow{A:NQ}{H:AH}{b:Nat}{ks:KL}{l:LX}{x:Value}{La:OL}(h:OwS A H b ks l x La)(X Y:OL):Takes La (X++(La++Y)) (X++Y):=by
 obtain⟨_,_,⟨_,_,rfl⟩|⟨M,cs,ex,_,rfl,_⟩⟩:=h
 ·exact .nil
 ·exact Takes.split ⟨_,_,rfl⟩ X Y
theorem Upd.split{N:Nat}{o o':AObj}(X Y:OL):Upd N o o' (X++(N,o)::Y) (X++(N,o')::Y):=by
 induction X with
 |nil=>exact .zero
 |cons x X ih=>exact .succ ih
structure Den (E:Env P) (ρ:RM) (nx:Nat) (fr:FR) (hp:HP) (PS:PSs) (A:NQ) (H:AH) (l:LV):Prop where
 no:∀i,nx<=i->ρ i=none
 one:∀i v,ρ i=some v->v.oneCell'=true
 fr:RepF ρ A H fr l
 hp:RepH E ρ A H hp PS
def aMz(w:World)(tb:TBs):Prop:=tb.ok w/\∀g m k F,aPo g tb=some (m,k,F)->GT w g m k/\∀f,F=some f->∀j,j<m->w.cell? ⟨g,j,none⟩=some (.int k (f j))
def TbG [γ:Gam](w:World)(tb:TBs):Prop:=aMz w tb/\(γ.y=true->w.heap.size=γ.n0)
structure RiOk [γ:Gam] (G:RG) (ri:RI) (PS:PSs) (L0:OL) (nx:Nat) (A:NQ) (H0:AH):Prop where
 d:ri.D=G.D
 ops:ri.ops=G.ops
 ms:ri.ms=G.ms
 lw:G.D=true->gE ri.st PS++L0=G.Lw
 lt:G.D=true->∀i,aM i ri.st=true->i<nx
 gr:G.D=true->ri.G=false->A=G.Aw/\H0=G.Hw
 tb:TbG G.S.w0.toWorld ri.tb
section
variable [γ:Gam]{G:RG}{ri:RI}{PS:PSs}{L0:OL}{nx:Nat}{A:NQ}{H0:AH}{i:Nat}{K:Prop}
theorem RiOk.mn(h:RiOk G ri PS L0 nx A H0)(k:wmn ri i K):(G.D=true->i∈G.ms)/\K:=by
 unfold wmn at k;have mem:∀{l:NL},aM i l=true->i∈l:=by
  intro l
  induction l with
  |nil=>intro h;cases h
  |cons j r ih=>
   intro h;simp only[aM] at h;cases hb:Nat.beq j i with
   |true=>rw[QN hb];exact List.mem_cons_self ..
   |false=>rw[hb,QF] at h;exact List.mem_cons_of_mem _ (ih h)
 rw[h.d] at k;cases hD:G.D with
 |false=>rw[hD,QF] at k;exact⟨(fun h=>by cases h),k⟩
 |true=>
  rw[hD,QT] at k;cases hm:aM i ri.ms with
  |true=>rw[hm,QT] at k;exact⟨fun _=>h.ms▸mem hm,k⟩
  |false=>rw[hm,QF] at k;exact k.elim
theorem RiOk.ns{id:Nat}(h:RiOk G ri PS L0 nx A H0)(k:wns ri id K):(G.D=true->aM id ri.st=false)/\K:=by
 unfold wns at k;rw[h.d] at k;cases hD:G.D with
 |false=>rw[hD,QF] at k;exact⟨(fun h=>by cases h),k⟩
 |true=>
  rw[hD,QT] at k;cases hm:aM id ri.st with
  |true=>rw[hm,QT] at k;exact k.elim
  |false=>rw[hm,QF] at k;exact⟨fun _=>rfl,k⟩
theorem RiOk.sub(h:RiOk G ri PS L0 nx A H0):G.D=true->G.Lw.Sublist (flt PS++L0):=fun hD=>by
 rw[<-h.lw hD];exact(lT _ _).append (List.Sublist.refl _)
theorem RiOk.push(h:RiOk G ri PS L0 nx A H0)(L:OL):RiOk G ri ((nx,L)::PS) L0 (nx+1) A H0:=
 ⟨h.d,h.ops,h.ms,fun hD=>by
  rw[<-h.lw hD];simp only[gE];cases hm:aM nx ri.st with
  |false=>rfl
  |true=>exact absurd (h.lt hD _ hm) (Nat.lt_irrefl _),fun hD i hi=>Nat.lt_succ_of_lt (h.lt hD i hi),h.gr,h.tb⟩
theorem RiOk.put{X Y:PSs}{k:Nat}{L L':OL}(h:RiOk G ri (X++(k,L)::Y) L0 nx A H0)(hk:G.D=true->aM k ri.st=false):RiOk G ri (X++(k,L')::Y) L0 nx A H0:=
 ⟨h.d,h.ops,h.ms,fun hD=>by
  have:=h.lw hD;simp only[iI,gE,hk hD,QF] at this ⊢;exact this,h.lt,h.gr,h.tb⟩
theorem RiOk.del{X Y:PSs}{k:Nat}{L:OL}(h:RiOk G ri (X++(k,L)::Y) L0 nx A H0)(hk:G.D=true->aM k ri.st=false):RiOk G ri (X++Y) L0 nx A H0:=
 ⟨h.d,h.ops,h.ms,fun hD=>by
  have:=h.lw hD;simp only[iI,gE,hk hD,QF] at this ⊢;exact this,h.lt,h.gr,h.tb⟩
theorem RiOk.grow{A':NQ}{H':AH}(h:RiOk G ri PS L0 nx A H0)(hg:G.D=true->ri.G=true):RiOk G ri PS L0 nx A' H':=
 ⟨h.d,h.ops,h.ms,h.lw,h.lt,(fun hD e=>by rw[hg hD] at e;cases e),h.tb⟩
end
section
variable {ρ:RM}{A:NQ}{H:AH}{fr:FR}{l:LV}
theorem aGm{n m:Nat}(h:atN aIv n=some m):m=n:=by
 have e:aIv=List.range' 0 200:=by kernel_rfl
 rw[e] at h;have:=tV h;omega
theorem aNz{v:Value}{K:SP}(h:aJc v K):∃s u,opv l (.const v)=some u/\Rep ρ A H s u/\K s:=by
 unfold aJc at h;split at h
 ·rename_i a n;cases e:wfB a n with
  |true=>rw[e,QT] at h;exact⟨_,_,rfl,by simp only[Rep];exact⟨trivial,aSx e⟩,h⟩
  |false=>rw[e] at h;exact h.elim
 ·exact⟨_,_,rfl,by simp only[Rep],h⟩
 ·rename_i s;have h1:=h.t;split at h1
  ·rename_i n hn;exact⟨_,_,rfl,by simp only[Rep];exact⟨trivial,QL h.h⟩,h1 s rfl (by have:=aGm hn;rw[this,Array.length_toList];rfl)⟩
  ·exact⟨_,_,rfl,by simp only[Rep];exact⟨trivial,QL h.h⟩,h1⟩
 ·exact⟨_,_,rfl,by simp only[Rep],h⟩
 ·exact⟨_,_,rfl,by simp only[Rep],h⟩
 ·exact⟨_,_,rfl,by simp only[Rep],h⟩
 ·exact⟨_,_,rfl,by simp only[Rep],h⟩
 ·exact h.elim
theorem aT(hF:RepF ρ A H fr l){o:Operand}{K:SP}(h:wop fr o K):∃s u,opv l o=some u/\Rep ρ A H s u/\K s:=by
 unfold wop at h;split at h
 ·rename_i d;split at h
  ·rename_i v hv;obtain⟨u,h1,h2⟩:=hF.get hv;exact⟨v,u,h1,h2,h⟩
  ·exact h.elim
 ·exact aNz h
 ·exact⟨_,_,rfl,by simp only[Rep];exact⟨[],rfl,by simp only[Reps]⟩,h⟩
 ·exact h.elim
theorem wB(hF:RepF ρ A H fr l):∀{os:List Operand} {K:SL->Prop},aXx fr os K->∃ss us,Opvs l os us/\Reps ρ A H ss us/\K ss
 |[],K,h=>⟨[],[],.nil,by simp only[Reps],h⟩
 |o::r,K,h=>by
  obtain⟨s,u,h1,h2,h3⟩:=aT hF h;obtain⟨ss,us,k1,k2,k3⟩:=wB hF h3;exact⟨s::ss,u::us,.cons h1 k1,by simp only[Reps];exact⟨h2,k2⟩,k3⟩
theorem wH(hF:RepF ρ A H fr l):∀{os:List (Nat×Operand)} {K:List (Nat×SV)->Prop},aUa fr os K->∃ss us,Opps l os us/\RepF ρ A H ss us/\K ss
 |[],K,h=>⟨[],[],.nil,rfl,h⟩
 |(j,o)::r,K,h=>by
  obtain⟨s,u,h1,h2,h3⟩:=aT hF h;obtain⟨ss,us,k1,k2,k3⟩:=wH hF h3;exact⟨(j,s)::ss,(j,u)::us,.cons h1 k1,⟨_,_,rfl,h2,k2⟩,k3⟩
theorem aVr(hF:RepF ρ A H fr l){ops:OA}{g:OB}{x y:Prop}(h:wgd ops fr g x y):(gok ops l g=true/\x)\/(gsk ops l g=true/\y):=by
 unfold wgd at h;split at h
 ·exact .inl ⟨rfl,h⟩
 ·rename_i j w;split at h
  ·rename_i o ho;split at h
   ·rename_i d hd;split at h
    ·rename_i b hb;obtain⟨u,h1,h2⟩:=hF.get hb;simp only[Rep] at h2;subst h2;unfold gok gsk;simp only[ho,hd,h1];cases b<;>cases w<;>simp_all
    ·rename_i hb;obtain⟨u,h1,h2⟩:=hF.get hb;simp only[Rep] at h2;subst h2;refine .inr ⟨?_,h⟩;unfold gsk;simp only[ho,hd,h1,undef]
    ·exact h.elim
   ·exact h.elim
  ·exact h.elim
theorem Rep.one(hρ:∀i v,ρ i=some v->v.oneCell'=true){s:SV}{v:Value}(h:Rep ρ A H s v){ss:SL}(hc:dF s=some ss):Reps ρ A H ss v.cells.toList/\(match s with|.agg _=>True|_=>v.oneCell'=true):=by
 cases s with
 |agg l=>simp only[dF,Option.some.injEq] at hc;subst hc;simp only[Rep] at h;obtain⟨vs,rfl,h⟩:=h;exact⟨h,trivial⟩
 |undef=>cases hc
 |tup _=>cases hc
 |gp _ _=>cases hc
 |rng _ _=>cases hc
 |any=>cases hc
 |yl _=>cases hc
 |xp _ _ _=>cases hc
 |int k n=>
  simp only[dF,Option.some.injEq] at hc;subst hc;have h':=h;simp only[Rep] at h';obtain⟨rfl,_⟩:=h';refine⟨?_,rfl⟩;simp only[Value.cells,Reps];exact⟨h,trivial⟩
 |bool b=>
  simp only[dF,Option.some.injEq] at hc;subst hc;have h':=h;simp only[Rep] at h';subst h';refine⟨?_,rfl⟩;simp only[Value.cells,Reps];exact⟨h,trivial⟩
 |str b=>
  simp only[dF,Option.some.injEq] at hc;subst hc;have h':=h;simp only[Rep] at h';obtain⟨rfl,_⟩:=h';refine⟨?_,rfl⟩;simp only[Value.cells,Reps];exact⟨h,trivial⟩
 |nil=>
  simp only[dF,Option.some.injEq] at hc;subst hc;have h':=h;simp only[Rep] at h';subst h';refine⟨?_,rfl⟩;simp only[Value.cells,Reps];exact⟨h,trivial⟩
 |pnil=>
  simp only[dF,Option.some.injEq] at hc;subst hc;have h':=h;simp only[Rep] at h';subst h';refine⟨?_,rfl⟩;simp only[Value.cells,Reps];exact⟨h,trivial⟩
 |row b ks l=>
  simp only[dF,Option.some.injEq] at hc;subst hc;have h':=h;simp only[Rep] at h';obtain⟨l',a,cap,_,rfl,_⟩:=h'.rowD;refine⟨?_,rfl⟩;simp only[Value.cells,Reps];exact⟨h,trivial⟩
 |el ks c o=>
  simp only[dF,Option.some.injEq] at hc;subst hc;have h':=h;simp only[Rep] at h';obtain⟨p,xs,rfl,_⟩:=h';refine⟨?_,rfl⟩;simp only[Value.cells,Reps];exact⟨h,trivial⟩
 |ptr i o=>
  simp only[dF,Option.some.injEq] at hc;subst hc;have h':=h;simp only[Rep] at h';obtain⟨N,_,rfl⟩:=h';refine⟨?_,rfl⟩;simp only[Value.cells,Reps];exact⟨h,trivial⟩
 |ow i=>
  simp only[dF,Option.some.injEq] at hc;subst hc;have h':=h;simp only[Rep] at h';have h1:=hρ _ _ h';refine⟨?_,h1⟩;rw[oM h1];simp only[Reps];exact⟨h,trivial⟩
 |op i j o m=>
  simp only[dF,Option.some.injEq] at hc;subst hc;have h':=h;simp only[Rep] at h';obtain⟨M,n,c,_,rfl⟩:=h';refine⟨?_,rfl⟩;simp only[Value.cells,Reps];exact⟨h,trivial⟩
 |fn g cs=>
  simp only[dF,Option.some.injEq] at hc;subst hc;have h':=h;simp only[Rep] at h';obtain⟨vs,rfl,_⟩:=h';refine⟨?_,rfl⟩;simp only[Value.cells,Reps];exact⟨h,trivial⟩
end
end Go.AM
