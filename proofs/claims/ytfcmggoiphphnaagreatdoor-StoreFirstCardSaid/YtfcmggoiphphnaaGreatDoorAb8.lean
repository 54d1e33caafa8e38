/-
  An abstract machine that runs a program of the given form, and its soundness, part 8.
-/
import Derived.Test.YtfcmggoiphphnaaGreatDoorAb7
set_option linter.unusedVariables false
set_option linter.unusedSimpArgs false
set_option linter.unusedSectionVars false
noncomputable section
namespace Go.AM
open Go.RowKit
structure Ob (p k:Prop):Prop where
 h:p
 t:k
structure HyP (p:Prop):Prop where
 h:p
structure HyX (p:Prop):Prop where
 h:p
structure Bad (n:Nat):Prop where
 h:False
theorem Bad.elim{n:Nat}{p:Prop}(b:Bad n):p:=b.h.elim
structure Ag (p k:Prop):Prop where
 h:p
 t:k
structure Pr (p:Prop):Prop where
 h:p
structure Kb (b:Bool) (k:Prop):Prop where
 h:b=true
 t:k
structure Sp (p x y:Prop):Prop where
 t:p->x
 f:¬p->y
theorem Sp.yes{p x y:Prop}(h:p)(k:x):Sp p x y:=⟨fun _=>k,fun n=>absurd h n⟩
theorem Sp.no{p x y:Prop}(h:¬p)(k:y):Sp p x y:=⟨fun a=>absurd a h,fun _=>k⟩
structure Sf (p x y:Prop):Prop where
 h:(p/\x)\/y
theorem Sf.eq{p x y:Prop}(h:p)(k:x):Sf p x y:=⟨.inl ⟨h,k⟩⟩
theorem Sf.no{p x y:Prop}(k:y):Sf p x y:=⟨.inr k⟩
structure Ix (j:Int) (p q:Prop):Prop where
 h:p\/q
theorem Ix.gen{j:Int}{p q:Prop}(h:p):Ix j p q:=⟨.inl h⟩
theorem Ix.lit{j:Int}{p q:Prop}(_:0<=j)(h:q):Ix j p q:=⟨.inr h⟩
structure Wr (lo hi e:Int) (K:Int->Prop):Prop where
 h:∀z,lo<=z->z<=hi->(lo<=e->e<=hi->z=e)->(lo=0->z=e%(hi+1))->K z
theorem Wr.ex{lo hi e:Int}{K:Int->Prop}(h1:lo<=e)(h2:e<=hi)(h:K e):Wr lo hi e K:=⟨fun z _ _ hz _=>by rw[hz h1 h2];exact h⟩
theorem Wr.cl{lo hi e z:Int}{K:Int->Prop}(h:e=z)(h1:lo<=z)(h2:z<=hi)(k:K z):Wr lo hi e K:=by grind [Wr.ex]
theorem sF{a b:Prop}(_:a)(k:b):a->b:=fun _=>k
theorem Wr.in'{lo hi e:Int}{K:Int->Prop}(h:∀z,lo<=z->z<=hi->K z):Wr lo hi e K:=⟨fun z a b _ _=>h z a b⟩
theorem Wr.md{lo hi e:Int}{K:Int->Prop}(h0:lo=0)(h:∀z,lo<=z->z<=hi->z=e%(hi+1)->K z):Wr lo hi e K:=⟨fun z a b _ d=>h z a b (d h0)⟩
structure Qu (lo hi n m:Int) (K:Int->Prop):Prop where
 h:∀z,lo<=z->z<=hi->(0<=n->0<m->z=n / m/\0<=z/\z<=n)->K z
theorem Qu.ex{lo hi n m:Int}{K:Int->Prop}(h1:0<=n)(h2:0<m)(h:∀z,z=n / m->0<=z->z<=n->K z):Qu lo hi n m K:=⟨fun z _ _ hz=>h z (hz h1 h2).1 (hz h1 h2).2.1 (hz h1 h2).2.2⟩
theorem Qu.in'{lo hi n m:Int}{K:Int->Prop}(h:∀z,lo<=z->z<=hi->K z):Qu lo hi n m K:=⟨fun z a b _=>h z a b⟩
structure Rm (lo hi n m:Int) (K:Int->Prop):Prop where
 h:∀z,lo<=z->z<=hi->(0<=n->0<=z/\(0<m->z=n%m))->(0<m->z<m/\ -m<z)->K z
theorem Rm.ex{lo hi n m:Int}{K:Int->Prop}(h1:0<=n)(h2:0<m)(h:∀z,z=n%m->0<=z->z<m->K z):Rm lo hi n m K:=⟨fun z _ _ hz hy=>h z ((hz h1).2 h2) (hz h1).1 (hy h2).1⟩
theorem Rm.in'{lo hi n m:Int}{K:Int->Prop}(h:∀z,lo<=z->z<=hi->K z):Rm lo hi n m K:=⟨fun z a b _ _=>h z a b⟩
structure An (lo hi n m:Int) (K:Int->Prop):Prop where
 h:∀z,lo<=z->z<=hi->(0<=m->m<=hi->0<=z/\z<=m)->(0<=n->n<=1->(m= -1->z=n)/\(m= -2->z=0))->(0<=n->0<=m->z=((n.toNat &&& m.toNat:Nat):Int))->K z
theorem An.ex{lo hi n m:Int}{K:Int->Prop}(h1:0<=m)(h2:m<=hi)(h:∀z,0<=z->z<=m->K z):An lo hi n m K:=⟨fun z _ _ hz _ _=>h z (hz h1 h2).1 (hz h1 h2).2⟩
theorem An.m1{lo hi n m:Int}{K:Int->Prop}(h1:m= -1)(h2:0<=n/\n<=1)(h:K n):An lo hi n m K:=⟨fun z _ _ _ hz _=>(hz h2.1 h2.2).1 h1▸h⟩
theorem An.m2{lo hi n m:Int}{K:Int->Prop}(h1:m= -2)(h2:0<=n/\n<=1)(h:K 0):An lo hi n m K:=⟨fun z _ _ _ hz _=>(hz h2.1 h2.2).2 h1▸h⟩
theorem An.bt{lo hi n m:Int}{K:Int->Prop}(h1:0<=n)(h2:0<=m)(h:∀z,lo<=z->z<=hi->z=((n.toNat &&& m.toNat:Nat):Int)->K z):An lo hi n m K:=⟨fun z a b _ _ c=>h z a b (c h1 h2)⟩
structure Oo (lo hi n m:Int) (K:Int->Prop):Prop where
 h:∀z,lo<=z->z<=hi->(0<=n->n<=127->0<=m->m<=127->0<=z/\z<=127)->(0<=n->0<=m->z=((n.toNat ||| m.toNat:Nat):Int))->K z
theorem Oo.ex{lo hi n m:Int}{K:Int->Prop}(h1:(0<=n/\n<=127)/\0<=m/\m<=127)(h:∀z,0<=z->z<=127->K z):Oo lo hi n m K:=⟨fun z _ _ hz _=>h z (hz h1.1.1 h1.1.2 h1.2.1 h1.2.2).1 (hz h1.1.1 h1.1.2 h1.2.1 h1.2.2).2⟩
theorem Oo.in'{lo hi n m:Int}{K:Int->Prop}(h:∀z,lo<=z->z<=hi->K z):Oo lo hi n m K:=⟨fun z a b _ _=>h z a b⟩
theorem Oo.bt{lo hi n m:Int}{K:Int->Prop}(h1:0<=n)(h2:0<=m)(h:∀z,lo<=z->z<=hi->z=((n.toNat ||| m.toNat:Nat):Int)->K z):Oo lo hi n m K:=⟨fun z a b _ c=>h z a b (c h1 h2)⟩
structure Nx (lo hi n:Int) (K:Int->Prop):Prop where
 h:∀z,lo<=z->z<=hi->(0<=n->n<=1->lo<0->z= -1 - n)->(lo<0->z= -1 - n)->(lo=0->z=hi - n)->K z
theorem Nx.ex{lo hi n:Int}{K:Int->Prop}(h1:0<=n/\n<=1/\lo<0)(h:K (-1 - n)):Nx lo hi n K:=⟨fun z _ _ hz _ _=>hz h1.1 h1.2.1 h1.2.2▸h⟩
theorem Nx.sg{lo hi n:Int}{K:Int->Prop}(h0:lo<0)(h:∀z,lo<=z->z<=hi->z= -1 - n->K z):Nx lo hi n K:=⟨fun z a b _ c _=>h z a b (c h0)⟩
theorem Nx.us{lo hi n:Int}{K:Int->Prop}(h0:lo=0)(h:∀z,lo<=z->z<=hi->z=hi - n->K z):Nx lo hi n K:=⟨fun z a b _ _ c=>h z a b (c h0)⟩
def frc(v:SV)(K:SP):Prop:=match v with
 |.undef=>K .undef
 |.int a b=>K (.int a b)
 |.bool b=>K (.bool b)
 |.str b=>K (.str b)
 |.nil=>K .nil
 |.pnil=>K .pnil
 |.row a b c=>K (.row a b c)
 |.el a b c=>K (.el a b c)
 |.ptr a b=>K (.ptr a b)
 |.ow a=>K (.ow a)
 |.op a b c d=>K (.op a b c d)
 |.fn a b=>K (.fn a b)
 |.gp a b=>K (.gp a b)
 |.rng a b=>K (.rng a b)
 |.xp a b c=>K (.xp a b c)
 |.ep a b c d e=>K (.ep a b c d e)
 |.any=>K .any
 |.yl a=>K (.yl a)
 |.agg a=>K (.agg a)
 |.tup a=>K (.tup a)
theorem jS{v:SV}{K:SP}(h:frc v K):K v:=by cases v<;>exact h
def gQ(l:SL):(List SV->Prop)->Prop:=List.rec (motive:=fun _=>(List SV->Prop)->Prop) (fun K=>K []) (fun x _ ih K=>frc x fun x=>ih fun r=>K (x::r)) l
theorem cJ:∀{l:SL} {K:SL->Prop},gQ l K->K l
 |[],K,h=>h
 |x::r,K,h=>cJ (l:=r) (K:=fun r=>K (x::r)) (jS (v:=x) (K:=fun x=>gQ r fun r=>K (x::r)) h)
def aKa(v:SV)(K:SP):Prop:=match v with
 |.bool b=>Sp (b=true) (K (.bool true)) (K (.bool false))
 |.undef=>K .undef
 |.int a b=>K (.int a b)
 |.str b=>K (.str b)
 |.nil=>K .nil
 |.pnil=>K .pnil
 |.row a b c=>K (.row a b c)
 |.el a b c=>K (.el a b c)
 |.ptr a b=>K (.ptr a b)
 |.ow a=>K (.ow a)
 |.op a b c d=>K (.op a b c d)
 |.fn a b=>K (.fn a b)
 |.gp a b=>K (.gp a b)
 |.rng a b=>K (.rng a b)
 |.xp a b c=>K (.xp a b c)
 |.ep a b c d e=>K (.ep a b c d e)
 |.any=>K .any
 |.yl a=>K (.yl a)
 |.agg a=>K (.agg a)
 |.tup a=>K (.tup a)
theorem rP{v:SV}{K:SP}(h:aKa v K):K v:=by
 cases v with
 |bool b=>
  cases b with
  |true=>exact h.t rfl
  |false=>exact h.f (by simp)
 |_=>exact h
def aJ(k:Nat):NL->Bool
 |[]=>false
 |j::r=>cond (Nat.beq j k) true (aJ k r)
def bP(k:Nat):FR->Option SV
 |[]=>none
 |(j,v)::r=>cond (Nat.beq j k) (some v) (bP k r)
def hget(k:Nat):HP->Option SJ
 |[]=>none
 |(j,v)::r=>cond (Nat.beq j k) (some v) (hget k r)
def jW(k:Nat)(o:SJ)(h:HP):(HP->Prop)->Prop:=List.rec (motive:=fun _=>(HP->Prop)->Prop) (fun _=>False) (fun p r ih K=>match p with
 |(j,v)=>cond (Nat.beq j k) (K ((j,o)::r)) (ih fun r=>K ((j,v)::r))) h
theorem nN{k j:Nat}{o v:SJ}{r:HP}{K:HP->Prop}:jW k o ((j,v)::r) K=cond (Nat.beq j k) (K ((j,o)::r)) (jW k o r fun r=>K ((j,v)::r)):=rfl
def lR(k:Nat)(h:HP):(HP->Prop)->Prop:=List.rec (motive:=fun _=>(HP->Prop)->Prop) (fun _=>False) (fun p r ih K=>match p with
 |(j,v)=>cond (Nat.beq j k) (K r) (ih fun r=>K ((j,v)::r))) h
theorem zC{k j:Nat}{v:SJ}{r:HP}{K:HP->Prop}:lR k ((j,v)::r) K=cond (Nat.beq j k) (K r) (lR k r fun r=>K ((j,v)::r)):=rfl
def aJh:NL:=[0,1,2,3,4,5,6,7,8,9,10,11,12,13,14,15,16,17,18,19,20,21,22,23,24,25,26,27,28,29,30,31,32,33,34,35,36,37,38,39,40,41,42,43,44,45,46,47,48,49,50,51,52,53,54,55,56,57,58,59,60,61,62,63,64,65,66,67,68,69,70,71,72,73,74,75,76,77,78,79,80,81,82,83,84,85,86,87,88,89,90,91,92,93,94,95,96,97,98,99,100,101,102,103,104,105,106,107,108,109,110,111,112,113,114,115,116,117,118,119,120,121,122,123,124,125,126,127,128,129,130,131,132,133,134,135,136,137,138,139,140,141,142,143,144,145,146,147,148,149,150,151,152,153,154,155,156,157,158,159,160,161,162,163,164,165,166,167,168,169,170,171,172,173,174,175,176,177,178,179,180,181,182,183,184,185,186,187,188,189,190,191,192,193,194,195,196,197,198,199]
def atN:NL->Nat->Option Nat
 |[],_=>none
 |x::_,0=>some x
 |_::r,n+1=>atN r n
def oE(n:Nat)(K:NQ):Prop:=match atN aJh n with
 |some m=>K m
 |none=>False
theorem sV:∀{len s n m:Nat},atN (List.range' s len) n=some m->m=s+n
 |0,s,n,m,h=>by simp[atN] at h
 |len+1,s,0,m,h=>by grind [List.range'_succ,atN]
 |len+1,s,n+1,m,h=>by
  rw[List.range'_succ] at h;simp only[atN] at h;have:=sV h;omega
theorem bBs:aJh=List.range' 0 200:=by kernel_rfl
theorem fD{n:Nat}{K:NQ}(h:oE n K):K n:=by
 unfold oE at h;split at h
 ·rename_i m hm;rw[bBs] at hm;have:=sV hm
  simp_all
 ·exact h.elim
def rG(l:NL):(List Nat->Prop)->Prop:=List.rec (motive:=fun _=>(List Nat->Prop)->Prop) (fun K=>K []) (fun i _ ih K=>oE i fun i=>ih fun r=>K (i::r)) l
theorem gV:∀{l:NL} {K:NL->Prop},rG l K->K l
 |[],K,h=>h
 |i::r,K,h=>gV (l:=r) (K:=fun r=>K (i::r)) (fD (n:=i) (K:=fun i=>rG r fun r=>K (i::r)) h)
def zP(ks:KL)(c:CL):Nat->(List SV->Prop)->Prop:=List.rec (motive:=fun _=>Nat->(List SV->Prop)->Prop) (fun _ K=>K []) (fun k _ ih j K=>oE j fun j=>frc (kSV k c j) fun v=>ih (j+1) fun r=>K (v::r)) ks
theorem mL:∀{ks:KL} {c:CL} {j:Nat} {K:SL->Prop},zP ks c j K->K (aN ks c j)
 |[],c,j,K,h=>h
 |k::ks,c,j,K,h=>mL (ks:=ks) (c:=c) (j:=j+1) (K:=fun r=>K (kSV k c j::r)) (jS (fD (n:=j) (K:=fun j=>frc (kSV k c j) fun v=>zP ks c (j+1) fun r=>K (v::r)) h))
def lhK(k:IntKind)(K:Int->Int->Prop):Prop:=match k with
 |.i8=>K (-128) 127
 |.i16=>K (-32768) 32767
 |.i32=>K (-2147483648) 2147483647
 |.i64=>K (-9223372036854775808) 9223372036854775807
 |.u8=>K 0 255
 |.u16=>K 0 65535
 |.u32=>K 0 4294967295
 |.u64=>K 0 18446744073709551615
def kNo:IntKind->Nat
 |.i8=>0
 |.i16=>1
 |.i32=>2
 |.i64=>3
 |.u8=>4
 |.u16=>5
 |.u32=>6
 |.u64=>7
def kEq(a b:IntKind):Bool:=Nat.beq (kNo a) (kNo b)
mutual
def mR:Kd->Kd->Bool
 |.int a,.int b=>kEq a b
 |.bool,.bool=>true
 |.str,.str=>true
 |.row b ks,.row b' ks'=>cond (Nat.beq b b') (kdsEq ks ks') false
 |_,_=>false
def kdsEq:KL->List Kd->Bool
 |[],[]=>true
 |a::r,b::s=>cond (mR a b) (kdsEq r s) false
 |_,_=>false
end
def wfB(k:IntKind)(n:Int):Bool:=match n with
 |.ofNat m=>Nat.ble m (match k with
  |.i8=>127
  |.i16=>32767
  |.i32=>2147483647
  |.i64=>9223372036854775807
  |.u8=>255
  |.u16=>65535
  |.u32=>4294967295
  |.u64=>18446744073709551615)
 |.negSucc m=>(match k with
  |.i8=>Nat.ble m 127
  |.i16=>Nat.ble m 32767
  |.i32=>Nat.ble m 2147483647
  |.i64=>Nat.ble m 9223372036854775807
  |_=>false)
theorem gZ{k:IntKind}{K:Int->Int->Prop}(h:lhK k K):K k.min k.max:=by cases k<;>exact h
theorem fR{a b:IntKind}(h:kEq a b=true):a=b:=by
 have:=QN h;cases a<;>cases b<;>first|rfl|(simp[kNo] at this)
mutual
theorem bAg:∀{a b:Kd},mR a b=true->a=b
 |.int a,.int b,h=>by
  grind [mR,fR]
 |.bool,.bool,_=>rfl
 |.str,.str,_=>rfl
 |.row b ks,.row b' ks',h=>by
  simp only[mR] at h;cases e:Nat.beq b b' with
  |true=>
   rw[e,QT] at h;have h1:=QN e;have h2:=kdsEq_ok h;subst h1;subst h2;rfl
  |false=>rw[e] at h;cases h
 |.int _,.bool,h=>by simp[mR] at h
 |.int _,.str,h=>by simp[mR] at h
 |.int _,.row _ _,h=>by simp[mR] at h
 |.bool,.int _,h=>by simp[mR] at h
 |.bool,.str,h=>by simp[mR] at h
 |.bool,.row _ _,h=>by simp[mR] at h
 |.str,.int _,h=>by simp[mR] at h
 |.str,.bool,h=>by simp[mR] at h
 |.str,.row _ _,h=>by simp[mR] at h
 |.row _ _,.int _,h=>by simp[mR] at h
 |.row _ _,.bool,h=>by simp[mR] at h
 |.row _ _,.str,h=>by simp[mR] at h
theorem kdsEq_ok:∀{a b:KL},kdsEq a b=true->a=b
 |[],[],_=>rfl
 |a::r,b::s,h=>by
  simp only[kdsEq] at h;cases e:mR a b with
  |true=>
   rw[e,QT] at h;have h1:=bAg e;have h2:=kdsEq_ok h;subst h1;subst h2;rfl
  |false=>rw[e] at h;cases h
 |[],_::_,h=>by simp[kdsEq] at h
 |_::_,[],h=>by simp[kdsEq] at h
end
theorem kP{k:IntKind}{n:Int}(h1:k.min<=n)(h2:n<=k.max):(Lit.int k n).wf=true:=by simp[Lit.wf,h1,h2]
theorem cD{k:IntKind}{n:Int}(h:(Lit.int k n).wf=true):k.min<=n/\n<=k.max:=by simpa [Lit.wf] using h
theorem aXn{k:IntKind}{n:Int}(h:wfB k n=true):(Lit.int k n).wf=true:=by
 unfold wfB at h;refine kP ?_ ?_<;>(cases n<;>cases k<;>simp[IntKind.min,IntKind.max,IntKind.bits,IntKind.signed] at h ⊢ <;>omega)
inductive Sm where
 |int (k:IntKind)
 |bool
 |str
 |slice (e:Nat)
 |struct (fs:List (Nat×Nat×Nat))
 |array (n e:Nat)
 |ptr (e:Nat)
 |map (k e:Nat)
 /-- strings.Builder -/
 |bld
 |oth
structure TyI where
 sm:Sm
 size:Nat
 bytes:Nat
 agg:Bool
 ks:List Kd
 zs:List SV
abbrev TTb:=List (Nat×TyI)
def bA(k:Nat):TTb->Option TyI
 |[]=>none
 |(j,v)::r=>cond (Nat.beq j k) (some v) (bA k r)
inductive PK where
 |sc (k:Kd)
 |ag (ks:KL)
 /-- a pointer to data -/
 |pt (b:Nat) (ks:KL)
inductive CK where
 |d (k:Kd)
 |ow (b:Nat) (ks:KL)
 /-- a closure over variables that are lent with it -/
 |fx (g:Nat) (is:NL)
inductive PI where
 |d (p:PK)
 |bx (t:TY) (cs:List CK)
 /-- a variable,with more cells:numbers in a range -/
 |bxr (t:TY) (cs:List CK) (n:Nat)
 |own (b:Nat) (ks:KL) (back:Bool)
 |fn (g:Nat) (cs:List (TypeId×List CK))
structure CtrI where
 ps:List PI
 rs:List PI
 pre:SL->HP->Prop
 post:SL->HP->List SV->HP->Prop
abbrev IW:=List Nat->List SV->HP->Nat->(List Nat->SV->HP->Nat->Prop)->Prop
inductive CIO where
 |ctr (c:CtrI)
 |inl (w:IW)
 |yld (w:Nat->IW)
structure Ctr where
 ps:List PK
 rs:List PK
 pre:SL->Prop
 post:SL->List SV->Prop
 ext:Nat
 io:Option CIO
abbrev CTb:=List (Nat×Ctr)
def oF(k:Nat):CTb->Option Ctr
 |[]=>none
 |(j,v)::r=>cond (Nat.beq j k) (some v) (oF k r)
def coK(k:Kd)(v:SV)(K:SP):Prop:=match k,v with
 |.int k,.int k' n=>cond (kEq k k') (K (.int k n)) False
 |.bool,.bool b=>K (.bool b)
 |.str,.str s=>K (.str s)
 |.row b ks,.nil=>K (.row b ks [])
 |.row b ks,.row b' ks' l=>cond (Nat.beq b b') (cond (kdsEq ks ks') (K (.row b ks l)) False) False
 |_,_=>False
def oC(ks:KL):SL->(List SV->Prop)->Prop:=List.rec (motive:=fun _=>List SV->(List SV->Prop)->Prop) (fun vs K=>match vs with
 |[]=>K []
 |_::_=>False) (fun k _ ih vs K=>match vs with
 |[]=>False
 |v::vs=>coK k v fun v=>ih vs fun vs=>K (v::vs)) ks
theorem vD{K:SL->Prop}:oC [] [] K=K []:=rfl
theorem aBb{v:SV}{vs:SL}{K:SL->Prop}:oC [] (v::vs) K=False:=rfl
theorem aBz{k:Kd}{ks:KL}{K:SL->Prop}:oC (k::ks) [] K=False:=rfl
theorem sE{k:Kd}{ks:KL}{v:SV}{vs:SL}{K:SL->Prop}:oC (k::ks) (v::vs) K=coK k v fun v=>oC ks vs fun vs=>K (v::vs):=rfl
def coP(p:PK)(v:SV)(K:SP):Prop:=match p,v with
 |.sc k,v=>coK k v K
 |.ag ks,.agg l=>oC ks l fun l=>K (.agg l)
 |.pt b ks,.ep b' ks' c o l=>cond (Nat.beq b b') (cond (kdsEq ks ks') (cond (Nat.beq o 0) (K (.ep b ks c 0 l)) False) False) False
 |_,_=>False
def xC(ps:List PK):SL->(List SV->Prop)->Prop:=List.rec (motive:=fun _=>List SV->(List SV->Prop)->Prop) (fun vs K=>match vs with
 |[]=>K []
 |_::_=>False) (fun p _ ih vs K=>match vs with
 |[]=>False
 |v::vs=>coP p v fun v=>ih vs fun vs=>K (v::vs)) ps
theorem aMl{v:SV}{vs:SL}{K:SL->Prop}:xC [] (v::vs) K=False:=rfl
theorem aLn{k:PK}{ks:List PK}{K:SL->Prop}:xC (k::ks) [] K=False:=rfl
theorem aPb{k:PK}{ks:List PK}{v:SV}{vs:SL}{K:SL->Prop}:xC (k::ks) (v::vs) K=coP k v fun v=>xC ks vs fun vs=>K (v::vs):=rfl
def allK(k:Kd)(K:SP):Prop:=match k with
 |.int k=>∀n,K (.int k n)
 |.bool=>K (.bool true)/\K (.bool false)
 |.str=>∀s,K (.str s)
 |.row b ks=>∀l,K (.row b ks l)
def aZf(p:PK)(K:SP):Prop:=match p with
 |.sc k=>allK k K
 |.ag ks=>∀c,zP ks c 0 fun l=>K (.agg l)
 |.pt b ks=>∀c,zP ks c 0 fun l=>K (.ep b ks c 0 l)
def aAr(ps:List PK):(List SV->Prop)->Prop:=List.rec (motive:=fun _=>(List SV->Prop)->Prop) (fun K=>K []) (fun p _ ih K=>aZf p fun v=>ih fun vs=>K (v::vs)) ps
def oB(l:SL):SV:=match l with
 |[v]=>v
 |[]=>.tup []
 |a::b::r=>.tup (a::b::r)
abbrev TBl:=List (Nat×Nat×IntKind×Option (Nat->Int))
structure TBs where
 l:TBl
 ok:World->Prop
 /-- slices without elements are nil,or lie somewhere -/
 ne:Bool
structure RI where
 D:Bool
 G:Bool
 ops:Array Oper
 ms:List Nat
 st:List Nat
 tb:TBs
 fx:List Nat
 nb:Bool
 bw:Bool
def aHc(k:Nat):TBl->Option (Nat×IntKind×Option (Nat->Int))
 |[]=>none
 |(j,v)::r=>cond (Nat.beq j k) (some v) (aHc k r)
def aVd(k:Nat)(tb:TBs):Option (Nat×IntKind×Option (Nat->Int)):=aHc k tb.l
def wmn(ri:RI)(i:Nat)(K:Prop):Prop:=cond ri.D (cond (aJ i ri.ms) K False) K
def wns(ri:RI)(id:Nat)(K:Prop):Prop:=cond ri.D (cond (aJ id ri.st) False K) K
def wdl(ri:RI)(i:Nat)(K:Prop):Prop:=cond ri.D (cond ri.G (Kb (fF (bef ri.ops) ri.ms i) K) K) K
def wgr(ri:RI)(K:Prop):Prop:=cond ri.D (cond ri.G K False) K
def wld(ri:RI)(i id:Nat)(K:Prop):Prop:=cond ri.D (cond (aJ id ri.st) K (Kb (fF (bef ri.ops) ri.ms i) K)) K
def aHv(v:Value)(K:SP):Prop:=match v with
 |.int a n=>cond (wfB a n) (K (.int a n)) False
 |.bool b=>K (.bool b)
 |.string s=>Kb (Nat.ble s.size maxLen) (match atN aJh s.size with
  |some n=>∀u:BA,u=s->u.data.toList.length=n->K (.str u)
  |none=>K (.str s))
 |.slice none 0 0=>K .nil
 |.pointer none=>K .pnil
 |.nilFunc=>K .any
 |.map none=>K .any
 |_=>False
def wop(fr:FR)(o:Operand)(K:SP):Prop:=match o with
 |.tmp d=>(match bP d fr with
  |some v=>K v
  |none=>False)
 |.const v=>aHv v K
 |.func g=>K (.fn g [])
 |.global _=>False
def aZr(fr:FR)(os:List Operand):(List SV->Prop)->Prop:=List.rec (motive:=fun _=>(List SV->Prop)->Prop) (fun K=>K []) (fun o _ ih K=>wop fr o fun v=>ih fun vs=>K (v::vs)) os
def aWw(b:BinOp)(k:IntKind)(n m:Int)(K:SP):Prop:=match b with
 |.lss=>Sp (n<m) (K (.bool true)) (K (.bool false))
 |.leq=>Sp (n<=m) (K (.bool true)) (K (.bool false))
 |.gtr=>Sp (m<n) (K (.bool true)) (K (.bool false))
 |.geq=>Sp (m<=n) (K (.bool true)) (K (.bool false))
 |.eql=>Sp (n=m) (K (.bool true)) (K (.bool false))
 |.neq=>Sp (n=m) (K (.bool false)) (K (.bool true))
 |.add=>lhK k fun lo hi=>lo<=n->n<=hi->lo<=m->m<=hi->Wr lo hi (n+m) fun z=>K (.int k z)
 |.sub=>lhK k fun lo hi=>lo<=n->n<=hi->lo<=m->m<=hi->Wr lo hi (n - m) fun z=>K (.int k z)
 |.mul=>lhK k fun lo hi=>lo<=n->n<=hi->lo<=m->m<=hi->Wr lo hi (n*m) fun z=>K (.int k z)
 |.quo=>lhK k fun lo hi=>lo<=n->n<=hi->lo<=m->m<=hi->Ob (m≠0) (Qu lo hi n m fun z=>K (.int k z))
 |.rem=>lhK k fun lo hi=>lo<=n->n<=hi->lo<=m->m<=hi->Ob (m≠0) (Rm lo hi n m fun z=>K (.int k z))
 |.and=>lhK k fun lo hi=>lo<=n->n<=hi->lo<=m->m<=hi->An lo hi n m fun z=>K (.int k z)
 |.or=>lhK k fun lo hi=>Oo lo hi n m fun z=>K (.int k z)
 |.xor=>lhK k fun lo hi=>∀z,lo<=z->z<=hi->K (.int k z)
 |.andNot=>False
 |.shl=>False
 |.shr=>False
def lP:SL->Option VL
 |[]=>some []
 |.int k n::r=>(match lP r with
  |some l=>some (.int k n::l)
  |none=>none)
 |.bool b::r=>(match lP r with
  |some l=>some (.bool b::l)
  |none=>none)
 |.str s::r=>(match lP r with
  |some l=>some (.string s::l)
  |none=>none)
 |_::_=>none
section
variable [σ:Sg]{P:PG}(E:Env P)(T:TTb)(C:CTb)
def zF:List (Nat×Nat×Nat)->Nat->Bool
 |[],_=>true
 |(o,ft,_)::r,k=>cond (Nat.beq o k) (match bA ft T with
  |some ti=>(match ti.sm with
   |.int _=>zF r (k+1)
   |.str=>zF r (k+1)
   |_=>false)
  |none=>false) false
def aKo(t:TY)(n:Nat):Bool:=match E.und t with
 |some (.struct F)=>Nat.beq F.toList.length n&&F.toList.all fun fd=>!(fd.name== "_")
 |_=>false
def wI:List (Nat×Nat×Nat)->Nat
 |[]=>0
 |_::r=>Nat.succ (wI r)
def oA:SL->List SV->Prop
 |.int _ a::r,.int _ b::q=>a=b/\oA r q
 |.str a::r,.str b::q=>a=b/\oA r q
 |[],[]=>True
 |_,_=>False
structure EqX (xs ys:SL):Prop where
 h:oA xs ys
def lS:SL->Nat
 |[]=>0
 |.int _ _::r=>Nat.succ (lS r)
 |.str _::r=>Nat.succ (lS r)
 |_::_=>0
def fC:SL->List (Nat×Nat×Nat)->Bool
 |[],[]=>true
 |.int _ _::r,_::q=>fC r q
 |.str _::r,_::q=>fC r q
 |_,_=>false
def vQ(b:BinOp)(t:TY)(xs ys:SL)(K:SP):Prop:=match bA t T with
 |some ti=>(match ti.sm with
  |.struct fs=>cond (zF T fs 0) (cond (fC xs fs) (cond (fC ys fs) (match b with
   |.eql=>Kb (aKo E t (wI fs)) ((HyX (EqX xs ys)->K (.bool true))/\(HyX (¬EqX xs ys)->K (.bool false)))
   |.neq=>Kb (aKo E t (wI fs)) ((HyX (¬EqX xs ys)->K (.bool true))/\(HyX (EqX xs ys)->K (.bool false)))
   |_=>K (.bool true)/\K (.bool false)) (K (.bool true)/\K (.bool false))) (K (.bool true)/\K (.bool false))) (K (.bool true)/\K (.bool false))
  |_=>K (.bool true)/\K (.bool false))
 |none=>K (.bool true)/\K (.bool false)
def aWu(b:BinOp)(t:TY)(xs ys:SL)(K:SP):Prop:=match b with
 |.eql=>Sf (xs=ys) (K (.bool true)) (vQ E T b t xs ys K)
 |.neq=>Sf (xs=ys) (K (.bool false)) (vQ E T b t xs ys K)
 |_=>vQ E T b t xs ys K
def bDf(b:BinOp)(n m:Int)(K:SP):Prop:=match b with
 |.lss=>K (.bool (decide (n<m)))
 |.leq=>K (.bool (decide (n<=m)))
 |.gtr=>K (.bool (decide (m<n)))
 |.geq=>K (.bool (decide (m<=n)))
 |.eql=>K (.bool (decide (n=m)))
 |.neq=>K (.bool (decide (n≠m)))
 |_=>False
def bCm(b:BinOp):Bool:=match b with
 |.lss=>true
 |.leq=>true
 |.gtr=>true
 |.geq=>true
 |.eql=>true
 |.neq=>true
 |_=>false
def aWv(b:BinOp)(t:TY)(l:LX)(K:SP):Prop:=match bA t T with
 |some ti=>(match ti.sm,b with
  |.slice _,.eql=>(l.length=0->HyX (l=[])->K (.bool true))/\K (.bool false)
  |.slice _,.neq=>(l.length=0->HyX (l=[])->K (.bool false))/\K (.bool true)
  |_,_=>False)
 |none=>False
def bEj(ne nb:Bool)(b:BinOp)(t:TY)(x y:SV)(K:SP):Prop:=match x,y with
 |.row _ _ l,.nil=>cond ne (aWv T b t l K) False
 |.nil,.nil=>aWv T b t [] K
 |.int k n,.int k' m=>(match b with
  |.shl=>lhK k fun lo hi=>Ob (0<=m) (∀z,lo<=z->z<=hi->HyX (lo=0->z=(n*2^m.toNat)%(hi+1))->K (.int k z))
  |.shr=>lhK k fun lo hi=>lo<=n->n<=hi->Ob (0<=m) (∀z,lo<=z->z<=hi->(0<=n->0<=z/\z<=n)->(0<n->0<m->z<n)->HyX (0<=n->z=n / 2^m.toNat)->K (.int k z))
  |b=>cond (kEq k k') (cond nb (cond (bCm b) (bDf b n m K) (aWw b k n m K)) (aWw b k n m K)) False)
 |.bool p,.bool q=>(match bA t T with
  |some ti=>(match ti.sm with
   |.bool=>(match b with
    |.eql=>aKa (.bool (p==q)) K
    |.neq=>aKa (.bool (!(p==q))) K
    |_=>False)
   |_=>False)
  |none=>False)
 |.str s,.str u=>(match b with
  |.eql=>Sp (s.data.toList.length=u.data.toList.length) ((HyX (s=u)->K (.bool true))/\(HyX (s≠u)->K (.bool false))) (K (.bool false))
  |.neq=>Sp (s.data.toList.length=u.data.toList.length) ((HyX (s≠u)->K (.bool true))/\(HyX (s=u)->K (.bool false))) (K (.bool true))
  |.lss=>K (.bool true)/\K (.bool false)
  |.leq=>K (.bool true)/\K (.bool false)
  |.gtr=>K (.bool true)/\K (.bool false)
  |.geq=>K (.bool true)/\K (.bool false)
  |.add=>Ob (s.data.toList.length+u.data.toList.length<=9223372036854775807) (∀w:BA,w.data.toList.length=s.data.toList.length+u.data.toList.length->HyX (w.data.toList=s.data.toList++u.data.toList)->K (.str w))
  |_=>False)
 |.agg xs,.agg ys=>(match lP xs,lP ys with
  |some vs,some ws=>Kb (aHh E b t (.agg ⟨vs⟩) (.agg ⟨ws⟩)) (aWu E T b t xs ys K)
  |_,_=>False)
 |.ptr _ _,.pnil=>(match bA t T with
  |some ti=>(match ti.sm,b with
   |.ptr _,.eql=>K (.bool false)
   |.ptr _,.neq=>K (.bool true)
   |_,_=>False)
  |none=>False)
 |.ep _ _ _ _ _,.pnil=>(match bA t T with
  |some ti=>(match ti.sm,b with
   |.ptr _,.eql=>K (.bool false)
   |.ptr _,.neq=>K (.bool true)
   |_,_=>False)
  |none=>False)
 |.pnil,.pnil=>(match bA t T with
  |some ti=>(match ti.sm,b with
   |.ptr _,.eql=>K (.bool true)
   |.ptr _,.neq=>K (.bool false)
   |_,_=>False)
  |none=>False)
 |_,_=>False
end
end Go.AM
namespace Go.AM
open Go.RowKit
def sBt(s:BA)(j:Int):Int:=((((s.data.toList[j.toNat]?).getD 0).toNat:Nat):Int)
def cSV:SV->CT
 |.int k n=>.v (.int k n)
 |.bool b=>.v (.bool b)
 |.str s=>.v (.string s)
 |.row _ _ l=>.row l
 |_=>.row []
def atS:SL->Nat->Option SV
 |[],_=>none
 |x::_,0=>some x
 |_::r,n+1=>atS r n
def atK:KL->Nat->Option Kd
 |[],_=>none
 |x::_,0=>some x
 |_::r,n+1=>atK r n
def atF:List (Nat×Nat×Nat)->Nat->Option (Nat×Nat×Nat)
 |[],_=>none
 |x::_,0=>some x
 |_::r,n+1=>atF r n
def plF(fs:List (Nat×Nat×Nat))(i:Nat):Option (Nat×Nat):=match atF fs i with
 |some (o,_,s)=>some (o,s)
 |none=>none
def qT:Nat->List SV->Option SL
 |0,_=>some []
 |n+1,x::r=>(match qT n r with
  |some l=>some (x::l)
  |none=>none)
 |_+1,[]=>none
def uG:Nat->List SV->Option SL
 |0,l=>some l
 |n+1,_::r=>uG n r
 |_+1,[]=>none
def aIt:Nat->List Kd->Option KL
 |0,l=>some l
 |n+1,_::r=>aIt n r
 |_+1,[]=>none
def aIi:Nat->List Kd->Option KL
 |0,_=>some []
 |n+1,x::r=>(match aIi n r with
  |some l=>some (x::l)
  |none=>none)
 |_+1,[]=>none
def qB:SL->Nat->List SV->Option SL
 |r,0,[]=>some r
 |_::r,0,y::ys=>(match qB r 0 ys with
  |some l=>some (y::l)
  |none=>none)
 |x::r,n+1,ys=>(match qB r n ys with
  |some l=>some (x::l)
  |none=>none)
 |[],_,_=>none
def cX(v:SV):Option SL:=match v with
 |.agg l=>some l
 |.tup _=>none
 |.undef=>none
 |.gp _ _=>none
 |.rng _ _=>none
 |.any=>none
 |.yl _=>none
 |.xp _ _ _=>none
 |.ep _ _ _ _ _=>none
 |v=>some [v]
def scS:SL->Bool
 |[]=>true
 |.agg _::_=>false
 |.tup _::_=>false
 |.undef::_=>false
 |.gp _ _::_=>false
 |.rng _ _::_=>false
 |.any::_=>false
 |.yl _::_=>false
 |.xp _ _ _::_=>false
 |.ep _ _ _ _ _::_=>false
 |_::r=>scS r
def fV:SL->Nat
 |[]=>0
 |_::r=>Nat.succ (fV r)
mutual
def sbS(i b:Nat)(ks:KL)(l:LX):SV->SV
 |.ow j=>cond (Nat.beq j i) (.row b ks l) (.ow j)
 |.agg vs=>.agg (sbL i b ks l vs)
 |.tup vs=>.tup (sbL i b ks l vs)
 |.fn g vs=>.fn g (sbL i b ks l vs)
 |.undef=>.undef
 |.int k n=>.int k n
 |.bool b=>.bool b
 |.str s=>.str s
 |.nil=>.nil
 |.pnil=>.pnil
 |.row b ks l=>.row b ks l
 |.el ks c o=>.el ks c o
 |.ptr i o=>.ptr i o
 |.op i j o m=>.op i j o m
 |.gp g o=>.gp g o
 |.rng lo hi=>.rng lo hi
 |.any=>.any
 |.yl i=>.yl i
 |.xp i o m=>.xp i o m
 |.ep b ks c o l=>.ep b ks c o l
def sbL(i b:Nat)(ks:KL)(l:LX):SL->List SV
 |[]=>[]
 |v::r=>sbS i b ks l v::sbL i b ks l r
end
def sbF(i b:Nat)(ks:KL)(l:LX)(f:FR):(FR->Prop)->Prop:=List.rec (motive:=fun _=>(FR->Prop)->Prop) (fun K=>K []) (fun p _ ih K=>match p with
 |(j,v)=>frc (sbS i b ks l v) fun v=>ih fun r=>K ((j,v)::r)) f
theorem aUk{i b j:Nat}{ks:KL}{l:LX}{v:SV}{r:FR}{K:FR->Prop}:sbF i b ks l ((j,v)::r) K=frc (sbS i b ks l v) fun v=>sbF i b ks l r fun r=>K ((j,v)::r):=rfl
def sbH(i b:Nat)(ks:KL)(l:LX)(f:HP):(HP->Prop)->Prop:=List.rec (motive:=fun _=>(HP->Prop)->Prop) (fun K=>K []) (fun p _ ih K=>match p with
 |(j,.box t cs)=>gQ (sbL i b ks l cs) fun cs=>ih fun r=>K ((j,.box t cs)::r)
 |(j,.row b' ks' l')=>ih fun r=>K ((j,.row b' ks' l')::r)
 |(j,.oth (.vals us cs))=>gQ (sbL i b ks l cs) fun cs=>ih fun r=>K ((j,.oth (.vals us cs))::r)
 |(j,.oth o)=>ih fun r=>K ((j,.oth o)::r)) f
theorem aSd{i b j:Nat}{ks:KL}{l:LX}{us:VL}{cs:SL}{r:HP}{K:HP->Prop}:sbH i b ks l ((j,.oth (.vals us cs))::r) K=gQ (sbL i b ks l cs) fun cs=>sbH i b ks l r fun r=>K ((j,.oth (.vals us cs))::r):=rfl
theorem aZt{i b j:Nat}{ks:KL}{l:LX}{o:SJx}{r:HP}{K:HP->Prop}(ho:∀us cs,o≠.vals us cs):sbH i b ks l ((j,.oth o)::r) K=sbH i b ks l r fun r=>K ((j,.oth o)::r):=by
 cases o with
 |vals us cs=>simp_all
 |_=>rfl
theorem aYm{i b j t:Nat}{ks:KL}{l:LX}{cs:SL}{r:HP}{K:HP->Prop}:sbH i b ks l ((j,.box t cs)::r) K=gQ (sbL i b ks l cs) fun cs=>sbH i b ks l r fun r=>K ((j,.box t cs)::r):=rfl
theorem aZo{i b j b':Nat}{ks ks':KL}{l l':LX}{r:HP}{K:HP->Prop}:sbH i b ks l ((j,.row b' ks' l')::r) K=sbH i b ks l r fun r=>K ((j,.row b' ks' l')::r):=rfl
def aRb(ri:RI)(i:Nat)(fr:FR)(hp:HP)(K:Nat->List Kd->List CL->FR->HP->Prop):Prop:=match hget i hp with
 |some (.row b ks l)=>wgr ri (wns ri i (lR i hp fun hp=>sbF i b ks l fr fun fr=>sbH i b ks l hp fun hp=>K b ks l fr hp))
 |_=>False
def owL:SL->Option Nat
 |[]=>none
 |.ow i::_=>some i
 |_::r=>owL r
def aEa(n:Nat)(ri:RI):SL->FR->HP->(List SV->FR->HP->Prop)->Prop:=Nat.rec (motive:=fun _=>List SV->FR->HP->(List SV->FR->HP->Prop)->Prop) (fun vs fr hp K=>K vs fr hp) (fun _ ih vs fr hp K=>match owL vs with
 |none=>K vs fr hp
 |some i=>aRb ri i fr hp fun b ks l fr hp=>gQ (sbL i b ks l vs) fun vs=>ih vs fr hp K) n
theorem aIr{n:Nat}{ri:RI}{vs:SL}{fr:FR}{hp:HP}{K:SL->FR->HP->Prop}:aEa (n+1) ri vs fr hp K=(match owL vs with
 |none=>K vs fr hp
 |some i=>aRb ri i fr hp fun b ks l fr hp=>gQ (sbL i b ks l vs) fun vs=>aEa n ri vs fr hp K):=rfl
def aDz(place:Nat->Option (Nat×Nat)):SL->List (Nat×SV)->Option SL
 |cells,[]=>some cells
 |cells,(i,v)::rest=>(match place i with
  |none=>none
  |some (off,size)=>(match cX v with
   |none=>none
   |some l=>cond (Nat.beq (fV l) size) (match qB cells off l with
    |none=>none
    |some cells=>aDz place cells rest) none))
def gD:Nat->List SV->List SV
 |0,_=>[]
 |n+1,l=>l++gD n l
def aKc:KL->Nat
 |[]=>0
 |_::r=>Nat.succ (aKc r)
def aRa(n:Nat)(ks:KL):SL->(List SL->Prop)->Prop:=Nat.rec (motive:=fun _=>List SV->(List SL->Prop)->Prop) (fun cells K=>match cells with
 |[]=>K []
 |_::_=>False) (fun _ ih cells K=>match qT (aKc ks) cells with
 |some l=>oC ks l fun l=>ih (cells.drop (aKc ks)) fun r=>K (l::r)
 |none=>False) n
theorem aZw{ks:KL}{c:SV}{cs:SL}{K:List SL->Prop}:aRa 0 ks (c::cs) K=False:=rfl
theorem aOf{n:Nat}{ks:KL}{cells:SL}{K:List SL->Prop}:aRa (n+1) ks cells K=(match qT (aKc ks) cells with
 |some l=>oC ks l fun l=>aRa n ks (cells.drop (aKc ks)) fun r=>K (l::r)
 |none=>False):=rfl
section
variable [σ:Sg]{P:PG}(E:Env P)(T:TTb)(C:CTb)
def kV(nb:Bool)(t:TY)(cs:SL)(o:Nat)(K:SP):Prop:=match bA t T with
 |some ti=>(match ti.agg with
  |true=>(match uG o cs with
   |some cs=>(match qT ti.size cs with
    |some l=>gQ l fun l=>K (.agg l)
    |none=>False)
   |none=>False)
  |false=>(match atS cs o with
   |some v=>cond nb (frc v K) (aKa v K)
   |none=>False))
 |none=>False
def wEl(t:TY)(ks:KL)(c:CL)(o:Nat)(K:SP):Prop:=match bA t T with
 |some ti=>(match ti.agg with
  |true=>(match aIt o ks with
   |some ks=>(match aIi ti.size ks with
    |some ks=>zP ks c o fun l=>K (.agg l)
    |none=>False)
   |none=>False)
  |false=>(match atK ks o with
   |some k=>oE o fun o=>aKa (kSV k c o) K
   |none=>False))
 |none=>False
def yO(j:Int)(n:Nat)(K:NQ):Prop:=match j with
 |.ofNat a=>cond (Nat.blt a n) (K a) False
 |.negSucc _=>False
def aQw(ri:RI)(i:Nat)(t:TY)(x:SV)(hp:HP)(K:SP):Prop:=match x with
 |.gp g m=>(match aVd g ri.tb,bA t T with
  |some (m',k,F),some ti=>(match ti.sm with
   |.int k'=>cond (kEq k k') (Ob (m<m') (lhK k fun lo hi=>∀z,lo<=z->z<=hi->(match F with
    |some f=>z=f m->K (.int k z)
    |none=>K (.int k z)))) False
   |_=>False)
  |_,_=>False)
 |.ptr id o=>(match hget id hp with
  |some (.box _ cs)=>wld ri i id (kV T ri.nb t cs o K)
  |_=>False)
 |.xp id o m=>(match hget id hp,bA t T with
  |some (.box _ cs),some ti=>(match ti.sm with
   |.int k'=>(match uG o cs with
    |some (.rng lo hi::r)=>cond (kEq .i64 k') (Ag (qT m (.rng lo hi::r)=some (gD m [.rng lo hi])) (wld ri i id (∀z:Int,lo<=z->z<=hi-> -9223372036854775808<=z->z<=9223372036854775807->K (.int .i64 z)))) False
    |_=>False)
   |_=>False)
  |_,_=>False)
 |.el ks c o=>wdl ri i (wEl T t ks c o K)
 |.ep b ks c o l=>cond (Nat.ble b o) (wdl ri i (kV T ri.nb t l (o - b) K)) False
 |.op id j o m=>(match hget id hp with
  |some (.row b ks l)=>cond (Nat.beq m ks.length) (wld ri i id (Ob (0<=j/\j<((l.length:Nat):Int)) (∀c,elC l j=c->wEl T t ks c o K))) False
  |some (.oth (.ho b ks l j' id2))=>(match bA t T with
   |some ti=>cond ti.agg False (cond (Nat.beq m 1) (cond (Nat.beq o 0) (wld ri i id (Ob (j=j') (K (.ow id2)))) False) False)
   |none=>False)
  |some (.oth (.vr cs))=>(match bA t T with
   |some ti=>cond ti.agg False (cond (Nat.beq m 1) (cond (Nat.beq o 0) (wld ri i id (yO j (fV cs) fun a=>(match atS cs a with
    |some v=>K v
    |none=>False))) False) False)
   |none=>False)
  |_=>False)
 |_=>False
def bDn(ri:RI)(t:TY)(id:Nat)(j:Int)(o m id2:Nat)(hp:HP)(K:HP->Prop):Prop:=match hget id hp,bA t T with
 |some (.row b ks l),some ti=>cond (Nat.beq ti.size 1) (cond (Nat.beq o 0) (cond (Nat.beq m ks.length) (cond (Nat.beq ks.length 1) (wns ri id (Ob (0<=j/\j<((l.length:Nat):Int)) (jW id (.oth (.ho b ks l j id2)) hp K))) False) False) False) False
 |_,_=>False
def aHr(ri:RI)(t:TY)(p v:SV)(hp:HP)(K:HP->Prop):Prop:=match cX v,bA t T with
 |some l,some ti=>cond (scS l) (cond (Nat.beq (fV l) ti.size) (match p with
  |.ptr id o=>(match hget id hp with
   |some (.box bt cs)=>wns ri id (match qB cs o l with
    |some cs=>gQ cs fun cs=>jW id (.box bt cs) hp K
    |none=>False)
   |_=>False)
  |.op id j o m=>(match hget id hp with
   |some (.row b ks r)=>cond (Nat.beq m ks.length) (wns ri id (Ob (0<=j/\j<((r.length:Nat):Int)) (match aIt o ks with
    |some ks'=>(match aIi (fV l) ks' with
    |some kk=>oC kk l fun ss=>∀r',r'.length=r.length->r'=r.set j.toNat ((elC r j).take o++(ss.map cSV++(elC r j).drop (o+fV l)))->jW id (.row b ks r') hp K
    |none=>False)
    |none=>False))) False
   |_=>False)
  |.xp id o m=>(match hget id hp,l with
   |some (.box _ cs),[.int .i64 z]=>wns ri id (match uG o cs with
    |some (.rng lo hi::r)=>Ag (qT m (.rng lo hi::r)=some (gD m [.rng lo hi])) (Ob (lo<=z/\z<=hi) (K hp))
    |_=>False)
   |_,_=>False)
  |_=>False) False) False
 |_,_=>False
def aGz(t:TY)(x:SV)(f:Nat)(K:SP):Prop:=match bA t T with
 |some ti=>(match ti.sm with
  |.struct fs=>(match atF fs f with
   |some (o',_,_)=>(match x with
    |.ptr i o=>K (.ptr i (o+o'))
    |.el ks c o=>K (.el ks c (o+o'))
    |.ep b ks c o l=>K (.ep b ks c (o+o') l)
    |.op i j o m=>K (.op i j (o+o') m)
    |_=>False)
   |none=>False)
  |_=>False)
 |none=>False
def aKn(n:Nat):Nat->Int->NQ->Prop:=Nat.rec (motive:=fun _=>Nat->Int->NQ->Prop) (fun _ _ _=>True) (fun _ ih a j K=>(j=((a:Nat):Int)->K a)/\ih (a+1) j K) n
def aWr(t:TY)(g:Nat)(y:SV)(K:SP):Prop:=match y with
 |.int kk j=>lhK kk fun lo hi=>lo<=j->j<=hi->(match bA t T with
  |some ti=>(match ti.sm with
   |.array m e=>(match bA e T with
    |some te=>cond (Nat.beq te.size 1) (Ob (0<=j/\j<((m:Nat):Int)) (K (.gp g j.toNat))) False
    |none=>False)
   |_=>False)
  |none=>False)
 |_=>False
def aCu(t:TY)(x y:SV)(hp:HP)(lit:Bool)(K:SP):Prop:=match y with
 |.int kk j=>lhK kk fun lo hi=>lo<=j->j<=hi->(match bA t T with
  |some ti=>(match x with
   |.row b ks l=>(match ti.sm with
    |.slice e=>(match bA e T with
     |some te=>cond (Nat.beq te.size ks.length) (l.length<=140737488351232->Ob (0<=j/\j<((l.length:Nat):Int)) (∀c,elC l j=c->K (.el ks c 0))) False
     |none=>False)
    |_=>False)
   |.ow id=>(match hget id hp with
    |some (.row b ks l)=>(match ti.sm with
     |.slice e=>(match bA e T with
      |some te=>cond (Nat.beq te.size ks.length) (l.length<=140737488351232->Ob (0<=j/\j<((l.length:Nat):Int)) (K (.op id j 0 te.size))) False
      |none=>False)
     |_=>False)
    |some (.oth (.ho b ks l j' id2))=>(match ti.sm with
     |.slice e=>(match bA e T with
      |some te=>cond (Nat.beq te.size 1) (Ob (0<=j/\j<((l.length:Nat):Int)) (K (.op id j 0 1))) False
      |none=>False)
     |_=>False)
    |some (.oth (.vr cs))=>(match ti.sm with
     |.slice e=>(match bA e T with
      |some te=>cond (Nat.beq te.size 1) (yO j (fV cs) fun a=>K (.op id (.ofNat a) 0 1)) False
      |none=>False)
     |_=>False)
    |_=>False)
   |.ptr id o=>(match ti.sm with
    |.array n e=>(match bA e T with
     |some te=>(match lit with
      |true=>yO j n fun a=>K (.ptr id (o+a*te.size))
      |false=>Ix j (cond (Nat.blt 16 n) (cond (Nat.beq te.size 1) (Ob (0<=j/\j<((n:Nat):Int)) (K (.xp id o n))) False) (Ob (0<=j/\j<((n:Nat):Int)) (aKn n 0 j fun a=>K (.ptr id (o+a*te.size))))) (yO j n fun a=>K (.ptr id (o+a*te.size))))
     |none=>False)
    |_=>False)
   |.op id jj o mm=>(match ti.sm with
    |.array n e=>(match bA e T with
     |some te=>(match lit with
      |true=>yO j n fun a=>K (.op id jj (o+a*te.size) mm)
      |false=>Ob (0<=j/\j<((n:Nat):Int)) (aKn n 0 j fun a=>K (.op id jj (o+a*te.size) mm)))
     |none=>False)
    |_=>False)
   |.el ks c o=>(match ti.sm with
    |.array n e=>(match bA e T with
     |some te=>(match lit with
      |true=>yO j n fun a=>K (.el ks c (o+a*te.size))
      |false=>Ob (0<=j/\j<((n:Nat):Int)) (aKn n 0 j fun a=>K (.el ks c (o+a*te.size))))
     |none=>False)
    |_=>False)
   |_=>False)
  |none=>False)
 |_=>False
def aAq:SL->Bool
 |[]=>true
 |.int .i64 _::r=>aAq r
 |_::_=>false
def bDd(n:Nat):(List SV->Prop)->Prop:=Nat.rec (motive:=fun _=>(List SV->Prop)->Prop) (fun K=>K []) (fun _ ih K=>∀z:Int,-9223372036854775808<=z->z<=9223372036854775807->ih fun l=>K (.int .i64 z::l)) n
def aIo(t:TY)(x y:SV)(lit:Bool)(K:SP):Prop:=match y with
 |.int kk j=>lhK kk fun lo hi=>lo<=j->j<=hi->(match bA t T with
  |some ti=>(match x with
   |.str s=>(match ti.sm with
    |.str=>s.data.toList.length<=9223372036854775807->Ob (0<=j/\j<((s.data.toList.length:Nat):Int)) (∀z,0<=z->z<=255->z=sBt s j->K (.int .u8 z))
    |_=>False)
   |.agg cs=>(match ti.sm with
    |.array n e=>(match bA e T with
     |some te=>Ix j (cond (aAq cs) (cond (Nat.ble (n*te.size) (fV cs)) (Ob (0<=j/\j<((n:Nat):Int)) (match te.agg with
      |true=>bDd te.size fun l=>K (.agg l)
      |false=>cond (Nat.beq te.size 1) (∀z:Int,-9223372036854775808<=z->z<=9223372036854775807->K (.int .i64 z)) False)) False) False) (yO j n fun a=>kV T false e cs (a*te.size) K)
     |none=>False)
    |_=>False)
   |_=>False)
  |none=>False)
 |_=>False
def bAb(v:SV)(hp:HP)(b:Nat)(ks:KL)(K:LX->Prop):Prop:=match v with
 |.nil=>K []
 |.row b' ks' l=>cond (Nat.beq b b') (cond (kdsEq ks ks') (K l) False) False
 |.ow j=>(match hget j hp with
  |some (.row b' ks' l)=>cond (Nat.beq b b') (cond (kdsEq ks ks') (K l) False) False
  |_=>False)
 |_=>False
def aDj(ri:RI)(i:Nat)(sT xT:TY)(x y:SV)(hp:HP)(nx:Nat)(K:SV->HP->Nat->Prop):Prop:=match bA sT T,bA xT T with
 |some ti,some tx=>(match ti.sm,tx.sm with
  |.slice e,.slice _=>(match bA e T with
   |some te=>cond (Nat.beq te.size 0) False (cond (Nat.beq te.size te.ks.length) (wmn ri i (match x with
    |.nil=>bAb y hp te.bytes te.ks fun l2=>l2.length<=140737488351232->l2.length*te.bytes<=140737488351232->Ob (l2.length*te.bytes<=140737488351232) (∀l',l'.length=l2.length->l'=l2->K (.ow nx) ((nx,.row te.bytes te.ks l')::hp) (nx+1))
    |.ow id=>(match hget id hp with
     |some (.row b ks l1)=>cond (Nat.beq b te.bytes) (cond (kdsEq ks te.ks) (wns ri id (lR id hp fun qc=>bAb y qc b ks fun l2=>l1.length<=140737488351232->l2.length<=140737488351232->l2.length*b<=140737488351232->Ob ((l1.length+l2.length)*b<=140737488351232/\l1.length+l2.length<=140737488351232)
      (∀l',l'.length=l1.length+l2.length->l'=l1++l2->K (.ow nx) ((nx,.row b ks l')::qc) (nx+1)))) False) False
     |_=>False)
    |_=>False)) False)
   |none=>False)
  |_,_=>False)
 |_,_=>False
def aWh(ri:RI)(i:Nat)(t:TY)(x y:SV)(hp:HP)(nx:Nat)(K:SV->HP->Nat->Prop):Prop:=match x,y with
 |.int k n,.int k' m=>(match bA t T with
  |some ti=>(match ti.sm with
   |.slice e=>(match bA e T with
    |some te=>cond (Nat.beq te.size 0) False (wmn ri i (Ob (n=m/\0<=n/\n<=140737488351232/\n*((te.bytes:Nat):Int)<=140737488351232) (oC te.ks te.zs fun ss=>∀l',((l'.length:Nat):Int)=n->l'=List.replicate n.toNat (ss.map cSV)->K (.ow nx) ((nx,.row te.bytes te.ks l')::hp) (nx+1))))
    |none=>False)
   |_=>False)
  |none=>False)
 |_,_=>False
def ptL:SL->Bool
 |[]=>true
 |.ptr _ _::r=>ptL r
 |_::_=>false
def aKj(ri:RI)(i:Nat)(te:TyI)(len:Nat)(vs:List (Nat×SV))(fr:FR)(hp:HP)(nx:Nat)(K:SV->FR->HP->Nat->Prop):Prop:=
 cond (Nat.beq te.size 1) (match aDz (fun j=>some (j*te.size,te.size)) (gD len te.zs) vs with
  |some cells=>cond (ptL cells) (cond (Nat.beq (fV cells) len) (wmn ri i (gQ cells fun cells=>K (.ow nx) fr ((nx,.oth (.vr cells))::hp) (nx+1))) False) False
  |none=>False) False
def aDn(ri:RI)(i:Nat)(t:TY)(len:Nat)(vs:List (Nat×SV))(fr:FR)(hp:HP)(nx:Nat)(K:SV->FR->HP->Nat->Prop):Prop:=match bA t T with
 |some ti=>(match ti.sm with
  |.slice e=>(match bA e T with
   |some te=>cond (Nat.beq te.size 0) False (cond (Nat.ble (len*te.size) 16777216) (cond (Nat.ble (len*te.bytes) 140737488351232) (cond (Nat.beq te.size te.ks.length) (wmn ri i (match aDz (fun j=>some (j*te.size,te.size)) (gD len te.zs) vs with
    |some cells=>aEa 9 ri cells fr hp fun cells fr hp=>cond (Nat.ble len 140737488351232) (aRa len te.ks cells fun rr=>∀l',l'.length=len->l'=(rr.map fun x=>x.map cSV)->K (.ow nx) fr ((nx,.row te.bytes te.ks l')::hp) (nx+1)) False
    |none=>False)) (aKj ri i te len vs fr hp nx K)) False) False)
   |none=>False)
  |_=>False)
 |none=>False
def aJj(t:TY)(vs:List (Nat×SV))(K:SP):Prop:=match bA t T with
 |some ti=>(match ti.sm with
  |.struct fs=>(match aDz (plF fs) ti.zs vs with
   |some l=>gQ l fun l=>K (.agg l)
   |none=>False)
  |.array n e=>(match bA e T with
   |some te=>(match aDz (fun j=>some (j*te.size,te.size)) ti.zs vs with
    |some l=>gQ l fun l=>K (.agg l)
    |none=>False)
   |none=>False)
  |_=>False)
 |none=>False
def aSi(fr:FR)(os:List (Nat×Operand)):(List (Nat×SV)->Prop)->Prop:=List.rec (motive:=fun _=>(List (Nat×SV)->Prop)->Prop) (fun K=>K []) (fun p _ ih K=>match p with
 |(j,o)=>wop fr o fun v=>ih fun vs=>K ((j,v)::vs)) os
def bCn(o:Operand):Bool:=match o with
 |.const _=>true
 |_=>false
def bDy(t:TY)(x:SV)(hp:HP)(K:SP):Prop:=match bA t T with
 |some ti=>(match ti.sm with
  |.slice _=>(match x with
   |.nil=>K (.int .i64 0)
   |.row b ks l=>((l.length:Nat):Int)<=140737488351232->l.length*b<=140737488351232->K (.int .i64 ((l.length:Nat):Int))
   |.ow id=>(match hget id hp with
    |some (.row b ks l)=>((l.length:Nat):Int)<=140737488351232->K (.int .i64 ((l.length:Nat):Int))
    |some (.oth (.vr cs))=>oE (fV cs) fun n=>K (.int .i64 (.ofNat n))
    |_=>False)
   |_=>False)
  |.str=>(match x with
   |.str s=>((s.data.toList.length:Nat):Int)<=9223372036854775807->K (.int .i64 ((s.data.toList.length:Nat):Int))
   |_=>False)
  |_=>False)
 |none=>False
def aNb(o:Option Operand)(fr:FR)(K:Option SV->Prop):Prop:=match o with
 |none=>K none
 |some x=>wop fr x fun v=>K (some v)
def wng(ri:RI)(K:Prop):Prop:=cond ri.D (cond ri.G False K) K
def aBd(ri:RI)(t:TY)(x:SV)(lo hi:Option SV)(K:SP):Prop:=match bA t T with
 |some ti=>(match ti.sm with
  |.slice e=>(match bA e T with
   |some te=>cond (Nat.beq te.size 0) False (match x,lo,hi with
    |.row b ks l,none,some (.int _ h)=>wng ri (cond (Nat.beq ks.length te.size) (l.length<=140737488351232->Ob (0<=h/\h<=((l.length:Nat):Int)) (∀l',((l'.length:Nat):Int)=h->l'=l.take h.toNat->K (.row b ks l'))) False)
    |.row b ks l,some (.int _ a),none=>wng ri (cond (Nat.beq ks.length te.size) (l.length<=140737488351232->Ob (0<=a/\a<=((l.length:Nat):Int)) (∀l',((l'.length:Nat):Int)=((l.length:Nat):Int) - a->l'=l.drop a.toNat->K (.row b ks l'))) False)
    |_,_,_=>False)
   |none=>False)
  |.str=>(match x,lo,hi with
   |.str s,none,some (.int _ h)=>s.data.toList.length<=9223372036854775807->Ob (0<=h/\h<=((s.data.toList.length:Nat):Int)) (∀w:BA,((w.data.toList.length:Nat):Int)=h->HyX (w.data.toList=s.data.toList.take h.toNat)->K (.str w))
   |.str s,some (.int _ a),none=>s.data.toList.length<=9223372036854775807->Ob (0<=a/\a<=((s.data.toList.length:Nat):Int)) (∀w:BA,((w.data.toList.length:Nat):Int)=((s.data.toList.length:Nat):Int) - a->HyX (w.data.toList=s.data.toList.drop a.toNat)->K (.str w))
   |.str s,some (.int _ a),some (.int _ h)=>s.data.toList.length<=9223372036854775807->Ob (0<=a/\a<=h/\h<=((s.data.toList.length:Nat):Int)) (∀w:BA,((w.data.toList.length:Nat):Int)=h - a->HyX (w.data.toList=(s.data.toList.take h.toNat).drop a.toNat)->K (.str w))
   |_,_,_=>False)
  |_=>False)
 |none=>False
def wSlc(ri:RI)(t:TY)(x:SV)(lo hi:Option Operand)(fr:FR)(hp:HP)(K:SV->FR->HP->Prop):Prop:=match x with
 |.ow id=>aRb ri id fr hp fun b ks l fr hp=>aNb lo fr fun lo=>aNb hi fr fun hi=>aBd T ri t (.row b ks l) lo hi fun v=>K v fr hp
 |x=>aNb lo fr fun lo=>aNb hi fr fun hi=>aBd T ri t x lo hi fun v=>K v fr hp
def tG:KL->Bool
 |[]=>true
 |.row _ _::_=>false
 |_::r=>tG r
def pW:List PK->Bool
 |[]=>true
 |.pt _ _::_=>false
 |.sc k::r=>cond (tG [k]) (pW r) false
 |.ag ks::r=>cond (tG ks) (pW r) false
def bBo(k:Nat)(vs:SL)(K:SP):Prop:=match k,vs with
 |1,[.int .u64 a,.int .u64 b,.int .u64 e]=>0<=a->a<=18446744073709551615->0<=b->b<=18446744073709551615->Ob (0<=e/\e<=1) (∀z1 z2:Int,0<=z1->z1<=18446744073709551615->0<=z2->z2<=1->K (.tup [.int .u64 z1,.int .u64 z2]))
 |2,[.str s,.int .u8 b]=>s.data.toList.length<=9223372036854775807->∀z:Int,-1<=z->z<((s.data.toList.length:Nat):Int)->K (.int .i64 z)
 |3,[.str s,.int .u8 b]=>s.data.toList.length<=9223372036854775807->∀z:Int,0<=z->z<=((s.data.toList.length:Nat):Int)->K (.int .i64 z)
 |_,_=>False
def aJi(o:Operand):Bool:=match o with
 |.func _=>true
 |_=>false
abbrev TH:=List (Nat×Nat)
def bCs(k:Kd)(K:SP):Prop:=match k with
 |.int k=>∀n,K (.int k n)
 |.bool=>∀b,K (.bool b)
 |.str=>∀s,K (.str s)
 |.row b ks=>∀l,K (.row b ks l)
def bEf(is:NL):(List SV->Prop)->Prop:=List.rec (motive:=fun _=>(List SV->Prop)->Prop) (fun K=>K []) (fun i _ ih K=>ih fun r=>K (.ptr i 0::r)) is
def bCo(c:CK)(hp:HP)(nx:Nat)(K:SV->HP->Nat->Prop):Prop:=match c with
 |.d k=>bCs k fun v=>K v hp nx
 |.ow b ks=>∀l,K (.ow nx) ((nx,.row b ks l)::hp) (nx+1)
 |.fx g is=>bEf is fun l=>K (.fn g l) hp nx
def aCk(cs:List CK):HP->Nat->(List SV->HP->Nat->Prop)->Prop:=List.rec (motive:=fun _=>HP->Nat->(List SV->HP->Nat->Prop)->Prop) (fun hp nx K=>K [] hp nx) (fun c _ ih hp nx K=>bCo c hp nx fun v hp nx=>ih hp nx fun vs hp nx=>K (v::vs) hp nx) cs
def aWy(t:TY)(cs:List CK)(hp:HP)(nx:Nat)(K:SV->HP->Nat->Prop):Prop:=aCk cs hp (nx+1) fun cells hp nx'=>K (.ptr nx 0) ((nx,.box t cells)::hp) nx'
def aIk(bs:List (TypeId×List CK)):HP->Nat->(List SV->HP->Nat->Prop)->Prop:=List.rec (motive:=fun _=>HP->Nat->(List SV->HP->Nat->Prop)->Prop) (fun hp nx K=>K [] hp nx) (fun p _ ih hp nx K=>match p with
 |(t,cs)=>aWy t cs hp nx fun v hp nx=>ih hp nx fun vs hp nx=>K (v::vs) hp nx) bs
def aQx(t:TY)(cs:List CK)(n:Nat)(hp:HP)(nx:Nat)(K:SV->HP->Nat->Prop):Prop:=∀lo hi:Int,aCk cs hp (nx+1) fun cells hp nx'=>gQ (cells++gD n [.rng lo hi]) fun cells=>K (.ptr nx 0) ((nx,.box t cells)::hp) nx'
def genI(p:PI)(hp:HP)(nx:Nat)(K:SV->HP->Nat->Prop):Prop:=match p with
 |.d p=>aZf p fun v=>K v hp nx
 |.bx t cs=>aWy t cs hp nx K
 |.bxr t cs n=>aQx t cs n hp nx K
 |.own b ks _=>∀l,K (.ow nx) ((nx,.row b ks l)::hp) (nx+1)
 |.fn g bs=>aIk bs hp nx fun vs hp nx=>K (.fn g vs) hp nx
def aLo(ps:List PI):HP->Nat->(List SV->HP->Nat->Prop)->Prop:=List.rec (motive:=fun _=>HP->Nat->(List SV->HP->Nat->Prop)->Prop) (fun hp nx K=>K [] hp nx) (fun p _ ih hp nx K=>genI p hp nx fun v hp nx=>ih hp nx fun vs hp nx=>K (v::vs) hp nx) ps
def xK:List CK->Nat->Nat
 |[],nx=>nx
 |.d _::r,nx=>xK r nx
 |.ow _ _::r,nx=>xK r (nx+1)
 |.fx _ _::r,nx=>xK r nx
def aOi:List (TypeId×List CK)->Nat->List Nat×Nat
 |[],nx=>([],nx)
 |(_,cs)::r,nx=>(nx::(aOi r (xK cs (nx+1))).1,(aOi r (xK cs (nx+1))).2)
def cA:List PI->Nat->List Nat×List Nat
 |[],_=>([],[])
 |.d _::r,nx=>cA r nx
 |.bx _ cs::r,nx=>(nx::(cA r (xK cs (nx+1))).1,(cA r (xK cs (nx+1))).2)
 |.bxr _ cs _::r,nx=>(nx::(cA r (xK cs (nx+1))).1,(cA r (xK cs (nx+1))).2)
 |.own _ _ true::r,nx=>(nx::(cA r (nx+1)).1,(cA r (nx+1)).2)
 |.own _ _ false::r,nx=>((cA r (nx+1)).1,nx::(cA r (nx+1)).2)
 |.fn _ bs::r,nx=>((aOi bs nx).1++(cA r (aOi bs nx).2).1,(cA r (aOi bs nx).2).2)
def iI(gone:NL):HP->HP
 |[]=>[]
 |(i,o)::r=>cond (aJ i gone) (iI gone r) ((i,o)::iI gone r)
def lQ:HP->List Nat
 |[]=>[]
 |(i,_)::r=>i::lQ r
def plc:List PI->Nat->HP->HP
 |[],_,hp=>hp
 |.own b ks _::r,nx,hp=>plc r (nx+1) ((nx,.row b ks [])::hp)
 |_::r,nx,hp=>plc r nx hp
def nxR:List PI->Nat->Nat
 |[],nx=>nx
 |.own _ _ _::r,nx=>nxR r (nx+1)
 |_::r,nx=>nxR r nx
def aNd(hv:SV->SP->Prop)(l:SL):(List SV->Prop)->Prop:=List.rec (motive:=fun _=>(List SV->Prop)->Prop) (fun K=>K []) (fun v _ ih K=>hv v fun v=>ih fun r=>K (v::r)) l
def havC(v:SV)(K:SP):Prop:=match v with
 |.int k _=>∀n,K (.int k n)
 |.bool _=>K (.bool true)/\K (.bool false)
 |.str _=>∀s,K (.str s)
 |.row b ks _=>∀l,K (.row b ks l)
 |v=>frc v K
def aHs(v:SV)(K:SP):Prop:=match v with
 |.int k _=>∀n,K (.int k n)
 |.bool _=>∀b,K (.bool b)
 |.str _=>∀s,K (.str s)
 |.row b ks _=>∀l,K (.row b ks l)
 |v=>frc v K
def wZ(ro:NL)(h:HP):(HP->Prop)->Prop:=List.rec (motive:=fun _=>(HP->Prop)->Prop) (fun K=>K []) (fun p _ ih K=>cond (aJ p.1 ro) (ih fun r=>K (p::r)) (match p with
 |(i,.box t cs)=>aNd aHs cs fun cs=>ih fun r=>K ((i,.box t cs)::r)
 |(i,.row b ks _)=>∀l,ih fun r=>K ((i,.row b ks l)::r)
 |(_,.oth _)=>False)) h
def lT:List PI->Nat->List Nat
 |[],_=>[]
 |.d _::r,nx=>lT r nx
 |.bx _ cs::r,nx=>lT r (xK cs (nx+1))
 |.bxr _ cs _::r,nx=>nx::lT r (xK cs (nx+1))
 |.own _ _ _::r,nx=>lT r (nx+1)
 |.fn _ bs::r,nx=>lT r (aOi bs nx).2
def rU(q:NL):NL->List Nat
 |[]=>[]
 |i::r=>cond (aJ i q) (rU q r) (i::rU q r)
def aOr(rs:List PI):Nat->(List SV->Prop)->Prop:=List.rec (motive:=fun _=>Nat->(List SV->Prop)->Prop) (fun _ K=>K []) (fun p _ ih nx K=>match p with
 |.d p=>aZf p fun v=>ih nx fun vs=>K (v::vs)
 |.own _ _ _=>ih (nx+1) fun vs=>K (.ow nx::vs)
 |_=>False) rs
def xG(i:Nat):TH->Bool
 |[]=>false
 |(a,_)::r=>cond (Nat.beq a i) true (xG i r)
def rnT(i:Nat):TH->Nat
 |[]=>i
 |(a,b)::r=>cond (Nat.beq a i) b (rnT i r)
def mtP(th:TH):NL->List SV->Bool
 |[],[]=>true
 |i::r,.ptr j 0::s=>cond (xG i th) (cond (Nat.beq (rnT i th) j) (mtP th r s) false) false
 |_,_=>false
abbrev MK:=HP->Nat->TH->HP->Prop
def bAm(ri:RI)(c:CK)(v:SV)(hp:HP)(nx:Nat)(th:TH)(hc:HP)(K:SV->MK):Prop:=match c,v with
 |.d k,v=>coK k v fun v=>K v hp nx th hc
 |.ow b ks,.nil=>K (.ow nx) ((nx,.row b ks [])::hp) (nx+1) th hc
 |.ow b ks,.ow j=>(match hget j hc with
  |some (.row b' ks' l)=>cond (Nat.beq b b') (cond (kdsEq ks ks') (wns ri j (lR j hc fun hc=>K (.ow nx) ((nx,.row b ks l)::hp) (nx+1) ((nx,j)::th) hc)) False) False
  |_=>False)
 |.fx g is,.fn g' l=>cond (Nat.beq g g') (cond (mtP th is l) (bEf is fun l=>K (.fn g l) hp nx th hc) False) False
 |_,_=>False
def aMp(ri:RI)(cs:List CK):SL->HP->Nat->TH->HP->(List SV->MK)->Prop:=List.rec (motive:=fun _=>List SV->HP->Nat->TH->HP->(List SV->MK)->Prop) (fun vs hp nx th hc K=>match vs with
 |[]=>K [] hp nx th hc
 |_::_=>False) (fun c _ ih vs hp nx th hc K=>match vs with
 |[]=>False
 |v::vs=>bAm ri c v hp nx th hc fun v hp nx th hc=>ih vs hp nx th hc fun vs hp nx th hc=>K (v::vs) hp nx th hc) cs
def bAr(ri:RI)(t:TY)(cs:List CK)(v:SV)(hp:HP)(nx:Nat)(th:TH)(hc:HP)(K:SV->MK):Prop:=match v with
 |.ptr j 0=>(match hget j hc with
  |some (.box t' cells)=>cond (Nat.beq t t') (wns ri j (lR j hc fun hc=>aMp ri cs cells hp (nx+1) ((nx,j)::th) hc fun cells hp nx' th hc=>K (.ptr nx 0) ((nx,.box t cells)::hp) nx' th hc)) False
  |_=>False)
 |_=>False
def aGg:List CK->Nat
 |[]=>0
 |_::r=>Nat.succ (aGg r)
def aQt(ri:RI)(t:TY)(cs:List CK)(n:Nat)(v:SV)(hp:HP)(nx:Nat)(th:TH)(hc:HP)(K:SV->MK):Prop:=match v with
 |.ptr j 0=>(match hget j hc with
  |some (.box t' cells)=>cond (Nat.beq t t') (wns ri j (lR j hc fun hc=>(match qT (aGg cs) cells,uG (aGg cs) cells with
   |some c1,some (.rng lo hi::r)=>Ag ((.rng lo hi::r)=gD n [.rng lo hi]) (aMp ri cs c1 hp (nx+1) ((nx,j)::th) hc fun cells hp nx' th hc=>gQ (cells++gD n [.rng lo hi]) fun cells=>K (.ptr nx 0) ((nx,.box t cells)::hp) nx' th hc)
   |_,_=>False))) False
  |_=>False)
 |_=>False
def aSr(ri:RI)(bs:List (TypeId×List CK)):SL->HP->Nat->TH->HP->(List SV->MK)->Prop:=List.rec (motive:=fun _=>List SV->HP->Nat->TH->HP->(List SV->MK)->Prop) (fun vs hp nx th hc K=>match vs with
 |[]=>K [] hp nx th hc
 |_::_=>False) (fun p _ ih vs hp nx th hc K=>match vs with
 |[]=>False
 |v::vs=>(match p with
  |(t,cs)=>bAr ri t cs v hp nx th hc fun v hp nx th hc=>ih vs hp nx th hc fun vs hp nx th hc=>K (v::vs) hp nx th hc)) bs
def mtI(ri:RI)(p:PI)(v:SV)(hp:HP)(nx:Nat)(th:TH)(hc:HP)(K:SV->MK):Prop:=match p,v with
 |.d p,v=>coP p v fun v=>K v hp nx th hc
 |.bx t cs,v=>bAr ri t cs v hp nx th hc K
 |.bxr t cs n,v=>aQt ri t cs n v hp nx th hc K
 |.own b ks _,v=>bAm ri (.ow b ks) v hp nx th hc K
 |.fn g bs,.fn g' vs=>cond (Nat.beq g g') (aSr ri bs vs hp nx th hc fun vs hp nx th hc=>K (.fn g vs) hp nx th hc) False
 |_,_=>False
def bFc(ri:RI)(ps:List PI):SL->HP->Nat->TH->HP->(List SV->MK)->Prop:=List.rec (motive:=fun _=>List SV->HP->Nat->TH->HP->(List SV->MK)->Prop) (fun vs hp nx th hc K=>match vs with
 |[]=>K [] hp nx th hc
 |_::_=>False) (fun p _ ih vs hp nx th hc K=>match vs with
 |[]=>False
 |v::vs=>mtI ri p v hp nx th hc fun v hp nx th hc=>ih vs hp nx th hc fun vs hp nx th hc=>K (v::vs) hp nx th hc) ps
def bkI(fx:NL)(th:TH)(nx i:Nat):Nat:=cond (aJ i fx) (cond (xG i th) (rnT i th) (nx+i)) (nx+i)
mutual
def mpS(f:Nat->Nat):SV->SV
 |.ow i=>.ow (f i)
 |.ptr i o=>.ptr (f i) o
 |.op i j o m=>.op (f i) j o m
 |.agg l=>.agg (mpL f l)
 |.tup l=>.tup (mpL f l)
 |.fn g l=>.fn g (mpL f l)
 |.undef=>.undef
 |.int k n=>.int k n
 |.bool b=>.bool b
 |.str s=>.str s
 |.nil=>.nil
 |.pnil=>.pnil
 |.row b ks l=>.row b ks l
 |.el ks c o=>.el ks c o
 |.gp g o=>.gp g o
 |.rng lo hi=>.rng lo hi
 |.any=>.any
 |.yl i=>.yl i
 |.xp i o m=>.xp (f i) o m
 |.ep b ks c o l=>.ep b ks c o l
def mpL(f:Nat->Nat):SL->List SV
 |[]=>[]
 |v::r=>mpS f v::mpL f r
end
def frcP(v:SV)(K:SP):Prop:=match v with
 |.ptr i o=>oE i fun i=>K (.ptr i o)
 |v=>frc v K
def aVg(l:SL):(List SV->Prop)->Prop:=List.rec (motive:=fun _=>(List SV->Prop)->Prop) (fun K=>K []) (fun x _ ih K=>frcP x fun x=>ih fun r=>K (x::r)) l
def frcI(v:SV)(K:SP):Prop:=match v with
 |.ow i=>oE i fun i=>K (.ow i)
 |.ptr i o=>oE i fun i=>K (.ptr i o)
 |.fn g l=>aVg l fun l=>K (.fn g l)
 |v=>frc v K
def aBa(l:SL):(List SV->Prop)->Prop:=List.rec (motive:=fun _=>(List SV->Prop)->Prop) (fun K=>K []) (fun x _ ih K=>frcI x fun x=>ih fun r=>K (x::r)) l
def ins(f:Nat->Nat)(h:HP)(hc:HP):(HP->Prop)->Prop:=List.rec (motive:=fun _=>(HP->Prop)->Prop) (fun K=>K hc) (fun p _ ih K=>match p with
 |(i,.box t cs)=>oE (f i) fun j=>aBa (mpL f cs) fun cs=>ih fun r=>K ((j,.box t cs)::r)
 |(i,.row b ks l)=>oE (f i) fun j=>ih fun r=>K ((j,.row b ks l)::r)
 |(_,.oth _)=>False) h
def rngI(k:IntKind)(n:Int):Prop:=match k with
 |.i8=> -128<=n/\n<=127
 |.i16=> -32768<=n/\n<=32767
 |.i32=> -2147483648<=n/\n<=2147483647
 |.i64=> -9223372036854775808<=n/\n<=9223372036854775807
 |.u8=>0<=n/\n<=255
 |.u16=>0<=n/\n<=65535
 |.u32=>0<=n/\n<=4294967295
 |.u64=>0<=n/\n<=18446744073709551615
def bK:SL->Prop
 |[]=>True
 |.int k n::r=>rngI k n/\bK r
 |_::r=>bK r
def aHa(ri:RI)(i:Nat)(c:CtrI)(vs:SL)(hp:HP)(nx:Nat)(K:SV->HP->Nat->Prop):Prop:=
 wmn ri i (wgr ri (bFc ri c.ps vs [] 0 [] hp fun ss hl nl th hc=>HyX (bK ss)->Ob (c.pre ss hl) (wZ (lT c.ps 0) (plc c.rs nl (iI (cA c.ps 0).2 hl)) fun ho=>aOr c.rs nl fun rs=>HyP (c.post ss hl rs ho)->
  ins (bkI (cA c.ps 0).1 th nx) ho hc fun qc=>aBa (mpL (bkI (cA c.ps 0).1 th nx) rs) fun rs'=>oE (nx+nxR c.rs nl) fun nx'=>K (oB rs') qc nx')))
def aHl(ri:RI)(i:Nat)(dir:Bool)(g:Nat)(vs:SL)(K:SP):Prop:=match oF g C with
 |some c=>wmn ri i (match c.ext with
  |0=>cond (pW c.rs) (xC c.ps vs fun vs=>HyX (bK vs)->Ob (c.pre vs) (aAr c.rs fun rs=>HyP (c.post vs rs)->K (oB rs))) (wgr ri (xC c.ps vs fun vs=>HyX (bK vs)->Ob (c.pre vs) (aAr c.rs fun rs=>HyP (c.post vs rs)->K (oB rs))))
  |k+1=>cond dir (bBo (k+1) vs K) False)
 |none=>False
def bwS(v:SV)(hp:HP)(K:SP):Prop:=match v with
 |.ow i=>(match hget i hp with
  |some (.row b ks l)=>K (.row b ks l)
  |_=>False)
 |v=>K v
def bwL(l:SL)(hp:HP):(List SV->Prop)->Prop:=List.rec (motive:=fun _=>(List SV->Prop)->Prop) (fun K=>K []) (fun v _ ih K=>bwS v hp fun v=>ih fun r=>K (v::r)) l
def coB(p:PK)(v:SV)(hp:HP)(K:SP):Prop:=match p,v with
 |.sc k,v=>bwS v hp fun v=>coK k v K
 |.ag ks,.agg l=>bwL l hp fun l=>oC ks l fun l=>K (.agg l)
 |.pt b ks,.ptr i o=>cond (Nat.beq o 0) (cond (Nat.beq ks.length 0) False (match hget i hp with
  |some (.box _ cs)=>bwL ((cs.drop b).take ks.length) hp fun cs=>oC ks cs fun l=>K (.ep b ks (l.map cSV) 0 l)
  |_=>False)) False
 |.pt b ks,.ep b' ks' c o l=>cond (Nat.beq b b') (cond (kdsEq ks ks') (cond (Nat.beq o 0) (K (.ep b ks c 0 l)) False) False) False
 |_,_=>False
def bFf(ps:List PK):SL->HP->(List SV->Prop)->Prop:=List.rec (motive:=fun _=>List SV->HP->(List SV->Prop)->Prop) (fun vs hp K=>match vs with
 |[]=>K []
 |_::_=>False) (fun p _ ih vs hp K=>match vs with
 |[]=>False
 |v::vs=>coB p v hp fun v=>ih vs hp fun vs=>K (v::vs)) ps
def aJn(ri:RI)(i:Nat)(dir:Bool)(g:Nat)(vs:SL)(hp:HP)(K:SP):Prop:=match oF g C with
 |some c=>wmn ri i (match c.ext with
  |0=>cond (pW c.rs) (bFf c.ps vs hp fun vs=>HyX (bK vs)->Ob (c.pre vs) (aAr c.rs fun rs=>HyP (c.post vs rs)->K (oB rs))) False
  |k+1=>cond dir (bBo (k+1) vs K) False)
 |none=>False
def wO:NL->List Nat->Bool
 |[],_=>true
 |i::r,q=>cond (aJ i q) (wO r q) false
mutual
def okS(fx:NL):SV->Bool
 |.ow i=>aJ i fx
 |.ptr i _=>aJ i fx
 |.op i _ _ _=>aJ i fx
 |.agg l=>okL fx l
 |.tup l=>okL fx l
 |.fn _ l=>okL fx l
 |.xp i _ _=>aJ i fx
 |_=>true
def okL(fx:NL):SL->Bool
 |[]=>true
 |v::r=>cond (okS fx v) (okL fx r) false
end
def kpF(fx:NL)(f:FR):(FR->Prop)->Prop:=List.rec (motive:=fun _=>(FR->Prop)->Prop) (fun K=>K []) (fun p _ ih K=>match p with
 |(j,v)=>cond (okS fx v) (ih fun r=>K ((j,v)::r)) (ih fun r=>K ((j,.any)::r))) f
theorem aUa{fx:NL}{j:Nat}{v:SV}{r:FR}{K:FR->Prop}:kpF fx ((j,v)::r) K=cond (okS fx v) (kpF fx r fun r=>K ((j,v)::r)) (kpF fx r fun r=>K ((j,.any)::r)):=rfl
def kpH(st:NL)(b:Bool)(h:HP):(HP->Prop)->Prop:=List.rec (motive:=fun _=>(HP->Prop)->Prop) (fun K=>K []) (fun p _ ih K=>match p with
 |(j,o)=>cond (cond b (aJ j st) (!aJ j st)) (ih fun r=>K ((j,o)::r)) (ih K)) h
theorem aRx{st:NL}{b:Bool}{j:Nat}{o:SJ}{r:HP}{K:HP->Prop}:kpH st b ((j,o)::r) K=cond (cond b (aJ j st) (!aJ j st)) (kpH st b r fun r=>K ((j,o)::r)) (kpH st b r K):=rfl
def apH(h q:HP):(HP->Prop)->Prop:=List.rec (motive:=fun _=>(HP->Prop)->Prop) (fun K=>K q) (fun p _ ih K=>ih fun r=>K (p::r)) h
theorem aVr{p:Nat×SJ}{r q:HP}{K:HP->Prop}:apH (p::r) q K=apH r q fun r=>K (p::r):=rfl
def okX(fx:NL):SJx->Bool
 |.ho _ _ _ _ id=>aJ id fx
 |.vr cs=>okL fx cs
 |.vals _ cs=>okL fx cs
 |_=>true
def okO(fx:NL):SJ->Bool
 |.box _ cs=>okL fx cs
 |.oth o=>okX fx o
 |_=>true
def okH(fx:NL):HP->Bool
 |[]=>true
 |(i,o)::r=>cond (aJ i fx) (cond (okO fx o) (okH fx r) false) false
def aOm:NL->List Nat->Bool
 |[],_=>true
 |i::r,q=>cond (aJ i q) false (aOm r q)
def sD(ri:RI)(i:Nat)(W:IW)(vs:SL)(fr:FR)(hp:HP)(nx:Nat)(K:SV->FR->HP->Nat->Prop):Prop:=
 cond ri.D (wmn ri i (cond ri.G (kpH ri.st true hp fun hb=>kpH ri.st false hp fun ha=>W (ri.fx++lQ hb) vs ha nx fun fx s hp nx'=>cond (wO ri.fx fx) (cond (okH fx hb) (cond (aOm (lQ hp) ri.st) (cond (Nat.ble nx nx') (kpF fx fr fun fr=>apH hp hb fun hp=>K s fr hp nx') (Bad 101)) (Bad 102)) (Bad 103)) (Bad 104)) (Bad 105)))
  (W ri.fx vs hp nx fun fx s hp nx=>cond (wO ri.fx fx) (kpF fx fr fun fr=>K s fr hp nx) (Bad 106))
def bFx(vk:KL)(ag:Bool)(c:CL)(K:SP):Prop:=match ag,vk with
 |true,vk=>zP vk c 0 fun l=>K (.agg l)
 |false,[k]=>aKa (kSV k c 0) K
 |false,_=>False
def bEq(zs:SL)(ag:Bool)(K:SP):Prop:=match ag,zs with
 |true,zs=>gQ zs fun l=>K (.agg l)
 |false,[z]=>frc z K
 |false,_=>False
def xI(m:Int->Option CL)(z:Int)(c:CL):Int->Option CL:=fun y=>if y=z then some c else m y
def aFr(t:TY)(K:IntKind->TyI->Prop):Prop:=match bA t T with
 |some ti=>(match ti.sm with
  |.map kt et=>(match bA kt T,bA et T with
   |some tk,some te=>(match tk.sm with
    |.int k=>K k te
    |_=>False)
   |_,_=>False)
  |_=>False)
 |none=>False
def aBn(ri:RI)(i:Nat)(t:TY)(x y:SV)(ok:Bool)(hp:HP)(K:SP):Prop:=match x,y with
 |.ow id,.int k z=>(match hget id hp with
  |some (.oth (.mp kk vk ag m))=>aFr T t fun k' te=>cond (kEq k kk) (cond (kEq k k') (cond (kdsEq vk te.ks) (cond (cond ag te.agg (not te.agg)) (wld ri i id ((∀c,m z=some c->bFx vk ag c fun v=>K (match ok with
   |true=>.tup [v,.bool true]
   |false=>v))/\(m z=none->bEq te.zs ag fun v=>K (match ok with
   |true=>.tup [v,.bool false]
   |false=>v)))) False) False) False) False
  |_=>False)
 |_,_=>False
def aVa(t:TY)(ri:RI)(i:Nat)(hp:HP)(nx:Nat)(K:SV->HP->Nat->Prop):Prop:=
 aFr T t fun k te=>wmn ri i (K (.ow nx) ((nx,.oth (.mp k te.ks te.agg fun _=>none))::hp) (nx+1))
def aQu(ri:RI)(t:TY)(x y v:SV)(hp:HP)(K:HP->Prop):Prop:=match x,y with
 |.ow id,.int k z=>(match hget id hp with
  |some (.oth (.mp kk vk ag m))=>aFr T t fun k' te=>cond (kEq k kk) (cond (kEq k k') (cond (kdsEq vk te.ks) (wns ri id (match cX v,v,ag with
   |some l,.agg _,true=>oC vk l fun ss=>∀m',m'=xI m z (ss.map cSV)->jW id (.oth (.mp kk vk ag m')) hp K
   |some _,.agg _,false=>False
   |some l,_,false=>oC vk l fun ss=>∀m',m'=xI m z (ss.map cSV)->jW id (.oth (.mp kk vk ag m')) hp K
   |_,_,_=>False)) False) False) False
  |_=>False)
 |_,_=>False
def dW(l:LX):BL:=l.map fun c=>UInt8.ofNat (cI c 0).toNat
def aXe(ri:RI)(ts td:TyI)(id:Nat)(hp:HP)(K:SP):Prop:=match ts.sm,td.sm with
 |.slice e,.str=>(match bA e T with
  |some te=>(match te.sm with
   |.int .u8=>(match hget id hp with
    |some (.row _ [.int .u8] l)=>cond ri.D False (∀w:BA,w.data.toList.length=l.length->w.data.toList.length<=140737488351232->HyX (w.data.toList=dW l)->K (.str w))
    |_=>False)
   |_=>False)
  |none=>False)
 |_,_=>False
def wpOp(ri:RI)(i:Nat)(op:Op)(fr:FR)(hp:HP)(nx:Nat)(K:SV->FR->HP->Nat->Prop):Prop:=match op with
 |.move x=>wop fr x fun v=>K v fr hp nx
 |.assign x=>wop fr x fun v=>K v fr hp nx
 |.pick c a b=>wop fr c fun c=>(match c with
  |.bool true=>wop fr a fun v=>K v fr hp nx
  |.bool false=>wop fr b fun v=>K v fr hp nx
  |_=>False)
 |.nilCheck x=>wop fr x fun v=>(match v with
  |.ptr a b=>K (.ptr a b) fr hp nx
  |.el a b c=>K (.el a b c) fr hp nx
  |.ep a b c d e=>K (.ep a b c d e) fr hp nx
  |.op a b c d=>K (.op a b c d) fr hp nx
  |.fn a b=>K (.fn a b) fr hp nx
  |_=>False)
 |.unOp u t x=>wop fr x fun v=>(match u,v with
  |.not,.bool true=>K (.bool false) fr hp nx
  |.not,.bool false=>K (.bool true) fr hp nx
  |.neg,.int k n=>lhK k fun lo hi=>lo<=n->n<=hi->Wr lo hi (-n) fun z=>K (.int k z) fr hp nx
  |.xor,.int k n=>lhK k fun lo hi=>Nx lo hi n fun z=>K (.int k z) fr hp nx
  |_,_=>False)
 |.binOp b t x y _=>wop fr x fun x=>wop fr y fun y=>(match x,y with
  |.ow id,.nil=>(match hget id hp with
   |some (.row _ _ l)=>aWv T b t l fun v=>K v fr hp nx
   |_=>False)
  |x,y=>bEj E T ri.tb.ne ri.nb b t x y fun v=>K v fr hp nx)
 |.extract x j=>wop fr x fun v=>(match v with
  |.tup l=>(match atS l j with
   |some v=>K v fr hp nx
   |none=>False)
  |_=>False)
 |.convert s d x=>wop fr x fun v=>(match v,bA s T,bA d T with
  |.int ks n,some _,some td=>(match td.sm with
   |.int k=>HyX (rngI ks n)->lhK k fun lo hi=>Wr lo hi n fun z=>K (.int k z) fr hp nx
   |_=>False)
  |.ow id,some ts,some td=>aXe T ri ts td id hp fun v=>K v fr hp nx
  |_,_,_=>False)
 |.box t x=>wop fr x fun v=>(match cX v with
  |some l=>wmn ri i (K (.ptr nx 0) fr ((nx,.box t l)::hp) (nx+1))
  |none=>False)
 |.alloc t=>(match bA t T with
  |some ti=>(match ti.sm with
   |.bld=>(match ti.zs with
    |[.pnil,.nil]=>wmn ri i (∀u:BL,u.length=0->u=[]->K (.ptr nx 0) fr ((nx,.oth (.bl t u))::hp) (nx+1))
    |_=>False)
   |_=>wmn ri i (gQ ti.zs fun zs=>K (.ptr nx 0) fr ((nx,.box t zs)::hp) (nx+1)))
  |none=>False)
 |.build t ps=>aSi fr ps.toList fun vs=>aJj T t vs fun v=>K v fr hp nx
 |.buildSlice t len ps=>aSi fr ps.toList fun vs=>aDn T ri i t len vs fr hp nx K
 |.makeSlice t x y=>wop fr x fun x=>wop fr y fun y=>aWh T ri i t x y hp nx fun v hp nx=>K v fr hp nx
 |.fieldAddr t x f=>wop fr x fun x=>aGz T t x f fun v=>K v fr hp nx
 |.indexAddr t x y=>(match x with
  |.global g=>wop fr y fun y'=>aWr T t g y' fun v=>K v fr hp nx
  |x=>wop fr x fun x'=>wop fr y fun y'=>aCu T t x' y' hp (bCn y) fun v=>K v fr hp nx)
 |.index t x y=>wop fr x fun x'=>wop fr y fun y'=>aIo T t x' y' (bCn y) fun v=>K v fr hp nx
 |.load t x=>wop fr x fun x=>aQw T ri i t x hp fun v=>K v fr hp nx
 |.slice t x lo hi mx=>(match mx with
  |none=>wop fr x fun x=>wSlc T ri t x lo hi fr hp fun v fr hp=>K v fr hp nx
  |some _=>False)
 |.makeFunc f a b=>(match f,a.toList with
  |.func g,[]=>aZr fr b.toList fun vs=>K (.fn g vs) fr hp nx
  |_,_=>False)
 |.call c=>(match c.callee with
  |.builtin bi=>(match bi,c.args.toList,c.argTypes.toList with
   |.len,[x],[t]=>wop fr x fun x=>bDy T t x hp fun v=>K v fr hp nx
   |.min,[x,y],_=>wop fr x fun x=>wop fr y fun y=>(match x,y with
    |.int k n,.int k' m=>cond (kEq k k') (∀z,z=min n m->K (.int k z) fr hp nx) False
    |_,_=>False)
   |.max,[x,y],_=>wop fr x fun x=>wop fr y fun y=>(match x,y with
    |.int k n,.int k' m=>cond (kEq k k') (∀z,z=max n m->K (.int k z) fr hp nx) False
    |_,_=>False)
   |.append,[x,y],[s,t]=>wop fr x fun x=>wop fr y fun y=>aDj T ri i s t x y hp nx fun v hp nx=>K v fr hp nx
   |_,_,_=>False)
  |.value f=>wop fr f fun f'=>(match f' with
   |.fn g caps=>aZr fr c.args.toList fun vs=>(match oF g C with
    |some ct=>(match ct.io with
     |none=>(match caps with
      |[]=>cond (cond ri.bw (pW ct.rs) false) (aJn C ri i (aJi f) g vs hp fun v=>K v fr hp nx) (aEa 9 ri vs fr hp fun vs fr hp=>aHl C ri i (aJi f) g vs fun v=>K v fr hp nx)
      |_::_=>False)
     |some (.ctr ci)=>aHa ri i ci (vs++caps) hp nx fun v hp nx=>K v fr hp nx
     |some (.inl W)=>sD ri i W (vs++caps) fr hp nx K
     |some (.yld _)=>False)
    |none=>False)
   |.yl N=>aZr fr c.args.toList fun vs=>(match oF 1000000 C with
    |some ct=>(match ct.io with
     |some (.yld W)=>cond ri.D False (sD ri i (W N) vs fr hp nx K)
     |_=>False)
    |none=>False)
   |_=>False)
  |.invoke _ _=>False)
 |.lookup t x y ok=>wop fr x fun x=>wop fr y fun y=>aBn T ri i t x y ok hp fun v=>K v fr hp nx
 |.makeMap t none=>aVa T t ri i hp nx fun v hp nx=>K v fr hp nx
 |_=>False
def aLd(ri:RI)(i:Nat)(op:Op)(fr:FR)(hp:HP)(nx:Nat)(K:FR->HP->Nat->Prop):Prop:=match op with
 |.store t p v=>wop fr p fun p=>wop fr v fun v=>wmn ri i (match p,v with
  |.op id j o m,.ow id2=>bDn T ri t id j o m id2 hp fun hp=>K fr hp nx
  |p,v=>aHr T ri t p v hp fun hp=>K fr hp nx)
 |.nilCheck x=>wop fr x fun v=>(match v with
  |.ptr a b=>K fr hp nx
  |.el a b c=>K fr hp nx
  |.ep a b c d e=>K fr hp nx
  |.op a b c d=>K fr hp nx
  |_=>False)
 |.mapUpdate t m k v=>wop fr m fun m=>wop fr k fun k=>wop fr v fun v=>wmn ri i (aQu T ri t m k v hp fun hp=>K fr hp nx)
 |_=>False
def wgd(ops:OA)(fr:FR)(g:OB)(x y:Prop):Prop:=match g with
 |none=>x
 |some (j,w)=>(match ops[j]? with
  |some o=>(match o.dst with
   |some d=>(match bP d fr with
    |some (.bool b)=>cond (cond b w (not w)) x y
    |some .undef=>y
    |_=>False)
   |none=>False)
  |none=>False)
def wpO1(n:Nat)(ri:RI)(o:Oper)(ih:Nat->FR->HP->Nat->(FR->HP->Nat->Prop)->Prop)(i:Nat)(fr:FR)(hp:HP)(nx:Nat)(K:FR->HP->Nat->Prop):Prop:=match o.dst with
 |some d=>cond (Nat.ble (d+1) n) (wgd ri.ops fr o.guard (wpOp E T C ri i o.op fr hp nx fun v fr hp nx=>ih (i+1) ((d,v)::fr) hp nx K) (ih (i+1) ((d,.undef)::fr) hp nx K)) False
 |none=>wgd ri.ops fr o.guard (aLd T ri i o.op fr hp nx fun fr hp nx=>ih (i+1) fr hp nx K) (ih (i+1) fr hp nx K)
def oP(n:Nat)(ri:RI)(i:Nat)(ops:OL2):FR->HP->Nat->(FR->HP->Nat->Prop)->Prop:=
 List.rec (motive:=fun _=>Nat->FR->HP->Nat->(FR->HP->Nat->Prop)->Prop) (fun _ fr hp nx K=>K fr hp nx) (fun o _ ih=>wpO1 E T C n ri o ih) ops i
theorem aHg{n:Nat}{ri:RI}{i:Nat}{o:Oper}{r:OL2}{fr:FR}{hp:HP}{nx:Nat}{K:FR->HP->Nat->Prop}:oP E T C n ri i (o::r) fr hp nx K=(match o.dst with
 |some d=>cond (Nat.ble (d+1) n) (wgd ri.ops fr o.guard (wpOp E T C ri i o.op fr hp nx fun v fr hp nx=>oP E T C n ri (i+1) r ((d,v)::fr) hp nx K) (oP E T C n ri (i+1) r ((d,.undef)::fr) hp nx K)) False
 |none=>wgd ri.ops fr o.guard (aLd T ri i o.op fr hp nx fun fr hp nx=>oP E T C n ri (i+1) r fr hp nx K) (oP E T C n ri (i+1) r fr hp nx K)):=rfl
def bEz(o:Op):Bool:=match o with
 |.box _ _=>true
 |.alloc _=>true
 |.store _ _ _=>true
 |.buildSlice _ _ _=>true
 |.makeSlice _ _ _=>true
 |.makeMap _ _=>true
 |.mapUpdate _ _ _ _=>true
 |.call c=>(match c.callee with
  |.builtin .append=>true
  |.builtin _=>false
  |_=>true)
 |_=>false
def uI:Nat->List Oper->List Nat
 |_,[]=>[]
 |i,o::r=>cond (bEz o.op) (i::uI (i+1) r) (uI (i+1) r)
def bAw(bs:NL):NL->List Nat->List Nat
 |_,[]=>[]
 |pre,j::r=>cond (pre.all fun i=>(bs.getD j 0).testBit i) (bAw bs (j::pre) r) (j::bAw bs (j::pre) r)
def srt:NL->Bool
 |[]=>true
 |[_]=>true
 |a::b::r=>Nat.blt a b&&srt (b::r)
def aGa(ops:OA):Bool:=cE ops (bef ops)&&(jC (bef ops) (bAw (bef ops) [] (uI 0 ops.toList)) (uI 0 ops.toList)&&(aVo ops (bef ops) (uI 0 ops.toList) (bAw (bef ops) [] (uI 0 ops.toList))&&srt (uI 0 ops.toList)))
inductive Mu where
 |cst (n:Int)
 |sl (k:Nat)
 |ln (k:Nat)
 |bx (k j:Nat)
 |bn (k j:Nat)
 |sub (a b:Mu)
 |add (a b:Mu)
 |mp (k j:Nat)
def aLi(v:SV)(hp:HP):Option Int:=match v with
 |.nil=>some 0
 |.row _ _ l=>some ((l.length:Nat):Int)
 |.str s=>some ((s.data.toList.length:Nat):Int)
 |.ow i=>(match hget i hp with
  |some (.row _ _ l)=>some ((l.length:Nat):Int)
  |some (.oth (.wk _ _ l))=>some ((l.length:Nat):Int)
  |some (.oth (.ho _ _ l _ _))=>some ((l.length:Nat):Int)
  |some (.oth (.vr cs))=>some ((fV cs:Nat):Int)
  |_=>none)
 |_=>none
def bCw(k:Nat):HP->Option SV
 |[]=>none
 |(_,.oth (.vals _ cs))::_=>atS cs k
 |_::r=>bCw k r
def celN(j:Nat)(v:Option SV)(hp:HP):Option SV:=match v with
 |some (.ptr i _)=>(match hget i hp with
  |some (.box _ cs)=>atS cs j
  |_=>none)
 |_=>none
def lW(k:Nat)(fr:FR)(hp:HP):Option SV:=cond (Nat.blt k 3000000) (bP k fr) (cond (Nat.blt k 4000000) (bCw (k - 3000000) hp) (cond (Nat.blt k 5000000) (celN 0 (bP (k - 4000000) fr) hp) (celN ((k - 5000000)%100) (bP ((k - 5000000) / 100) fr) hp)))
def aVm(k j:Nat)(fr:FR)(hp:HP):Option SV:=match lW k fr hp with
 |some (.ptr i _)=>(match hget i hp with
  |some (.box _ cs)=>atS cs j
  |_=>none)
 |some (.agg cs)=>atS cs j
 |_=>none
def muM(m:Int->Option CL)(z:Int):Int:=match m z with
 |some c=>cI c 0+1
 |none=>0
def Mu.ev(m:Mu)(fr:FR)(hp:HP):Option Int:=match m with
 |.cst n=>some n
 |.sl k=>(match bP k fr with
  |some (.int _ n)=>some n
  |_=>none)
 |.ln k=>(match bP k fr with
  |some v=>aLi v hp
  |none=>none)
 |.bx k j=>(match aVm k j fr hp with
  |some (.int _ n)=>some n
  |_=>none)
 |.bn k j=>(match aVm k j fr hp with
  |some v=>aLi v hp
  |none=>none)
 |.sub p q=>(match p.ev fr hp,q.ev fr hp with
  |some x,some y=>some (x - y)
  |_,_=>none)
 |.add p q=>(match p.ev fr hp,q.ev fr hp with
  |some x,some y=>some (x+y)
  |_,_=>none)
 |.mp k j=>(match bP k fr,bP j fr with
  |some (.ow i),some (.int _ z)=>(match hget i hp with
   |some (.oth (.mp _ _ _ m))=>some (muM m z)
   |_=>none)
  |_,_=>none)
def evK(m:Mu)(fr:FR)(hp:HP)(K:Int->Prop):Prop:=match m.ev fr hp with
 |some x=>K x
 |none=>False
structure Ann where
 lv:List Nat
 vr:List (Nat×Option (Nat×List Kd))
 ob:List Nat
 fz:List (Nat×Nat×List Kd)
 wd:List (Nat×Nat×Nat×Mu×Mu)
 wk:List (Nat×Nat×List Kd)
 cb:List (Nat×Nat×Nat×List Kd)
 J:FR->HP->FR->HP->Prop
 mu:Mu
 un:Nat
inductive Hk where
 |st (k:Nat)
 |fz (k b:Nat) (ks:KL)
 |as (p:FR->HP->Prop)
 |fl (k:Nat)
structure DRs where
 dr:List (Nat×(List Nat×Bool))
 hk:List (Nat×List Hk)
 /-- drawn regions whose last operation,a store behind all others,is walked by itself -/
 z:List Nat
 /-- regions where what is compared is not looked at -/
 nb:List Nat
 /-- regions where objects are lent to plain calls -/
 bw:List Nat
def bCy(k:Nat):List (Nat×List Hk)->List Hk
 |[]=>[]
 |(j,v)::r=>cond (Nat.beq j k) v (bCy k r)
def bCv(k:Nat):List (Nat×Ann)->Option Ann
 |[]=>none
 |(j,v)::r=>cond (Nat.beq j k) (some v) (bCv k r)
def rid:Code->Nat
 |.region i _ _=>i
 |.seq a _=>rid a
 |.block _ a=>rid a
 |.loop a=>rid a
 |_=>0
def aTy(mo:NL):HP->List Nat
 |[]=>[]
 |(i,_)::r=>cond (aJ i mo) (aTy mo r) (i::aTy mo r)
end
end Go.AM
namespace Go.AM
open Go.RowKit
variable [σ:Sg]
section
variable {P:PG}(E:Env P)
def cM(t:Nat):Sm->TypeDesc->Prop
 |.int k,u=>u=.int k
 |.bool,u=>u=.bool
 |.str,u=>u=.string
 |.slice e,u=>u=.slice e
 |.struct fs,u=>∃F,u=.struct F/\wJ E t=some (fs.map fun x=>(x.1,x.2.2))/\∀f o ft s,atF fs f=some (o,ft,s)->∃fd ii,F[f]?=some fd/\fd.offset=o/\fd.type=ft/\E.inf ft=some ii/\Nat.beq ii.size 0=false
 |.array n e,u=>u=.array n e
 |.ptr e,u=>u=.pointer e
 |.map k e,u=>u=.map k e
 |.bld,u=>∃F,u=.struct F
 |.oth,_=>True
def zAg(a:Bool)(z:Value):Bool:=match a,z with
 |true,.agg _=>true
 |true,_=>false
 |false,.agg _=>false
 |false,.tuple _=>false
 |false,_=>true
structure TyOk (t:Nat) (i:TyI):Prop where
 inf:∃z,E.inf t=some ⟨i.size,i.bytes,some z⟩/\∀ρ A H,Reps ρ A H i.zs (ext z).cells.toList
 und:∃u,E.und t=some u/\cW u=i.agg/\cM E t i.sm u
 zag:∀ii z,E.inf t=some ii->ii.zero=some z->zAg i.agg z=true
def dA(T:TTb):Prop:=∀t i,bA t T=some i->TyOk E t i
end
def FxR(fx:NL)(ρe ρ:RM):Prop:=∀i,aJ i fx=true->∀v,ρe i=some v->ρ i=some v
theorem FxR.le{fx:NL}{ρe ρ ρ':RM}(h:FxR fx ρe ρ)(k:RMle ρ ρ'):FxR fx ρe ρ':=fun i hi v hv=>k _ _ (h i hi v hv)
theorem FxR.trans{fx:NL}{a b c:RM}(h:FxR fx a b)(k:FxR fx b c):FxR fx a c:=fun i hi v hv=>k i hi _ (h i hi v hv)
theorem RMle.fx{fx:NL}{a b:RM}(h:RMle a b):FxR fx a b:=fun i _ v hv=>h i v hv
theorem aKs{k:IntKind}{n:Int}(h:(Lit.int k n).wf=true):rngI k n:=by
 have:=cD h;cases k<;>grind [rngI,IntKind.min,IntKind.max,IntKind.bits,IntKind.signed]
theorem pY{ρ:RM}{A:NQ}{H:AH}:∀{ss:SL} {vs:VL},Reps ρ A H ss vs->bK ss
 |[],_,_=>trivial
 |s::r,[],h=>by simp only[Reps] at h
 |s::r,v::vs,h=>by
  simp only[Reps] at h;cases s with
  |int k n=>
   have h1:=h.1;simp only[Rep] at h1;exact⟨aKs h1.2,pY h.2⟩
  |_=>exact(pY (ss:=r) h.2:)
abbrev PSs:=List (Nat×OL)
def flt:PSs->OL
 |[]=>[]
 |(_,L)::r=>L++flt r
def fA(st:NL):PSs->OL
 |[]=>[]
 |(i,L)::r=>bif aJ i st then L++fA st r else fA st r
theorem kJ(st:NL):∀PS:PSs,(fA st PS).Sublist (flt PS)
 |[]=>List.Sublist.refl _
 |(i,L)::r=>by
  simp only[fA,flt];cases aJ i st with
  |true=>exact(List.Sublist.refl L).append (kJ st r)
  |false=>exact(kJ st r).trans (List.sublist_append_right _ _)
variable {P:PG}{E:Env P}
def OwH(A:NQ)(H:AH)(b:Nat)(ks:KL)(l:LX)(j:Int)(y x:Value)(Lr:OL):Prop:=
 0<=j/\j<((l.length:Nat):Int)/\l.length<=140737488351232/\l.length*b<=140737488351232/\ks.length=1/\y.oneCell'=true/\∃M cs ex,x=.slice (some ⟨2*M+1,0,none⟩) l.length l.length/\Lr=[(M,.cells (cs.take (j.toNat*ks.length+0)++([y]++cs.drop (j.toNat*ks.length+0+[y].length))) ks.length ex)]/\Typd A H ks l cs
def MpOk(A:NQ)(H:AH)(kk:IntKind)(vk:KL)(ag:Bool)(m:Int->Option CL)(es:List (Value×Value×Nat)):Prop:=
 (∀e∈es,∃z,e.1=.int kk z)/\∀z,match m z with
  |some c=>∃(i:Nat) (v:Value) (b:Nat),es[i]?=some (.int kk z,v,b)/\(∀j e,j<i->es[j]?=some e->e.1≠.int kk z)/\(match ag with
   |true=>∃vs,v=.agg ⟨vs⟩/\CellsA A H vk vs c
   |false=>CellsA A H vk [v] c)
  |none=>∀e∈es,e.1≠.int kk z
def RepS(ρ:RM)(A:NQ)(H:AH)(i:Nat):SJx->OL->Prop
 |.wk b ks l,L=>∃x,ρ i=some x/\OwW A H b ks l x L
 |.ho b ks l j id,L=>∃x y,ρ i=some x/\ρ id=some y/\OwH A H b ks l j y x L
 |.vals us cs,L=>∃x,ρ i=some x/\L=[]/\Reps ρ A H cs us
 |.bl t u,L=>∃N M,ρ i=some (.pointer (some ⟨2*N+1,0,none⟩))/\L=bld t N M u
 |.vr cs,L=>∃M vs ex,ρ i=some (.slice (some ⟨2*M+1,0,none⟩) vs.length vs.length)/\L=[(M,.cells vs 1 ex)]/\Reps ρ A H cs vs
 |.mp kk vk ag m,L=>∃N es cl,ρ i=some (.map (some (2*N+1)))/\L=[(N,.map es cl)]/\MpOk A H kk vk ag m es
def RepO(E:Env P)(ρ:RM)(A:NQ)(H:AH)(i:Nat):SJ->OL->Prop
 |.box t cs,L=>∃N vs,ρ i=some (.pointer (some ⟨2*N+1,0,none⟩))/\L=[(N,.cells vs (dV E t) true)]/\Reps ρ A H cs vs
 |.row b ks l,L=>∃x,ρ i=some x/\OwS A H b ks l x L
 |.oth o,L=>RepS ρ A H i o L
def RepH(E:Env P)(ρ:RM)(A:NQ)(H:AH):HP->PSs->Prop
 |[],PS=>PS=[]
 |(i,o)::r,PS=>∃L PS',PS=(i,L)::PS'/\RepO E ρ A H i o L/\RepH E ρ A H r PS'
def RepF(ρ:RM)(A:NQ)(H:AH):FR->List (Nat×Value)->Prop
 |[],l=>l=[]
 |(k,s)::r,l=>∃v l',l=(k,v)::l'/\Rep ρ A H s v/\RepF ρ A H r l'
section
variable {ρ ρ':RM}{A A':NQ}{H H':AH}
theorem OwH.gr{b:Nat}{ks:KL}{l:LX}{j:Int}{y x:Value}{L:OL}(h:OwH A H b ks l j y x L)(g:Gr A H A' H'):OwH A' H' b ks l j y x L:=by
 obtain⟨h1,h2,h3,h4,h5,h5',M,cs,ex,h6,h7,h8⟩:=h;exact⟨h1,h2,h3,h4,h5,h5',M,cs,ex,h6,h7,h8.gr g⟩
theorem MpOk.gr{kk:IntKind}{vk:KL}{ag:Bool}{m:Int->Option CL}{es:List (Value×Value×Nat)}(h:MpOk A H kk vk ag m es)(g:Gr A H A' H'):MpOk A' H' kk vk ag m es:=by
 refine⟨h.1,fun z=>?_⟩;have:=h.2 z;cases e:m z with
 |none=>grind
 |some c=>
  grind [CellsA.gr]
theorem RepS.mono(hr:RMle ρ ρ')(g:Gr A H A' H'){i:Nat}{o:SJx}{L:OL}(h:RepS ρ A H i o L):RepS ρ' A' H' i o L:=by
 cases o with
 |wk b ks l=>obtain⟨x,h1,h2⟩:=h;exact⟨x,hr _ _ h1,h2.gr g⟩
 |ho b ks l j id=>obtain⟨x,y,h1,h2,h3⟩:=h;exact⟨x,y,hr _ _ h1,hr _ _ h2,h3.gr g⟩
 |mp kk vk ag m=>obtain⟨N,es,cl,h1,h2,h3⟩:=h;exact⟨N,es,cl,hr _ _ h1,h2,h3.gr g⟩
 |vals us cs=>obtain⟨x,h1,h2,h3⟩:=h;exact⟨x,hr _ _ h1,h2,Reps.mono hr g h3⟩
 |bl t u=>obtain⟨N,M,h1,h2⟩:=h;exact⟨N,M,hr _ _ h1,h2⟩
 |vr cs=>obtain⟨M,vs,ex,h1,h2,h3⟩:=h;exact⟨M,vs,ex,hr _ _ h1,h2,Reps.mono hr g h3⟩
theorem RepO.mono(hr:RMle ρ ρ')(g:Gr A H A' H'){i:Nat}{o:SJ}{L:OL}(h:RepO E ρ A H i o L):RepO E ρ' A' H' i o L:=by
 cases o with
 |box t cs=>obtain⟨N,vs,h1,h2,h3⟩:=h;exact⟨N,vs,hr _ _ h1,h2,Reps.mono hr g h3⟩
 |row b ks l=>obtain⟨x,h1,h2⟩:=h;exact⟨x,hr _ _ h1,h2.gr g⟩
 |oth o=>exact RepS.mono hr g h
theorem RepH.mono(hr:RMle ρ ρ')(g:Gr A H A' H'):∀{hp:HP} {PS:PSs},RepH E ρ A H hp PS->RepH E ρ' A' H' hp PS
 |[],PS,h=>h
 |(i,o)::r,PS,⟨L,PS',h1,h2,h3⟩=>⟨L,PS',h1,h2.mono hr g,RepH.mono hr g h3⟩
theorem RepF.mono(hr:RMle ρ ρ')(g:Gr A H A' H'):∀{fr:FR} {l:LV},RepF ρ A H fr l->RepF ρ' A' H' fr l
 |[],l,h=>h
 |(k,s)::r,l,⟨v,l',h1,h2,h3⟩=>⟨v,l',h1,Rep.mono hr g h2,RepF.mono hr g h3⟩
theorem RepF.get:∀{fr:FR} {l:LV},RepF ρ A H fr l->∀{k:Nat} {s:SV},bP k fr=some s->∃v,look k l=some v/\Rep ρ A H s v
 |[],l,h,k,s,e=>by simp[bP] at e
 |(j,s')::r,l,⟨v,l',h1,h2,h3⟩,k,s,e=>by
  subst h1;simp only[bP] at e;simp only[look];cases hb:Nat.beq j k with
  |true=>simp_all
  |false=>rw[hb,QF] at e;rw[QF];exact RepF.get h3 e
theorem RepH.get:∀{hp:HP} {PS:PSs},RepH E ρ A H hp PS->∀{k:Nat} {o:SJ},hget k hp=some o->∃L X Y,PS=X++(k,L)::Y/\RepO E ρ A H k o L/\(∀p∈X,p.1≠k)/\
 (∀o' K,jW k o' hp K->∃qc,K qc/\∀{ρ' A' H' L'},RMle ρ ρ'->Gr A H A' H'->RepO E ρ' A' H' k o' L'->RepH E ρ' A' H' qc (X++(k,L')::Y))/\
 (∀K,lR k hp K->∃qc,K qc/\RepH E ρ A H qc (X++Y))
 |[],PS,h,k,o,e=>by simp[hget] at e
 |(j,o1)::r,PS,⟨L,PS',h1,h2,h3⟩,k,o,e=>by
  subst h1;simp only[hget] at e;cases hb:Nat.beq j k with
  |true=>
   rw[hb,QT] at e;cases e;have hj:=QN hb;subst hj;refine⟨L,[],PS',rfl,h2,(fun p hp=>by cases hp),fun o' K hk=>?_,fun K hk=>?_⟩
   ·simp only[nN,hb,QT] at hk;exact⟨_,hk,fun hr g h=>⟨_,_,rfl,h,h3.mono hr g⟩⟩
   ·simp only[zC,hb,QT] at hk;exact⟨_,hk,h3⟩
  |false=>
   rw[hb,QF] at e;obtain⟨L2,X,Y,q1,q2,q3,q4,q5⟩:=RepH.get h3 e;subst q1;refine⟨L2,(j,L)::X,Y,rfl,q2,?_,fun o' K hk=>?_,fun K hk=>?_⟩
   ·intro p hp;rcases List.mem_cons.1 hp with rfl|hp
    ·grind [Nat.beq,Nat.beq_refl]
    ·exact q3 p hp
   ·simp only[nN,hb,QF] at hk;obtain⟨qc,k1,k2⟩:=q4 o' _ hk;exact⟨_,k1,fun hr g h=>⟨_,_,rfl,h2.mono hr g,k2 hr g h⟩⟩
   ·simp only[zC,hb,QF] at hk;obtain⟨qc,k1,k2⟩:=q5 _ hk;exact⟨_,k1,⟨_,_,rfl,h2,k2⟩⟩
theorem bN:∀(X Y:PSs),flt (X++Y)=flt X++flt Y
 |[],Y=>rfl
 |(i,L)::X,Y=>by simp only[List.cons_append,flt,bN X Y,QA]
theorem gO(st:NL):∀(X Y:PSs),fA st (X++Y)=fA st X++fA st Y
 |[],Y=>rfl
 |(i,L)::X,Y=>by
  simp only[List.cons_append,fA,gO st X Y]
  grind
end
theorem Takes.split{La:OL}(hk:∃M ob,La=[(M,ob)])(X Y:OL):Takes La (X++(La++Y)) (X++Y):=by
 obtain⟨M,ob,rfl⟩:=hk
 induction X with
 |nil=>exact .cons .zero .nil
 |cons x X ih=>exact ih.skip x
theorem Takes.ow{A:NQ}{H:AH}{b:Nat}{ks:KL}{l:LX}{x:Value}{La:OL}(h:OwS A H b ks l x La)(X Y:OL):Takes La (X++(La++Y)) (X++Y):=by
 obtain⟨_,_,⟨_,_,rfl⟩|⟨M,cs,ex,_,rfl,_⟩⟩:=h
 ·exact .nil
 ·exact Takes.split ⟨_,_,rfl⟩ X Y
theorem Upd.split{N:Nat}{o o':AObj}(X Y:OL):Upd N o o' (X++(N,o)::Y) (X++(N,o')::Y):=by
 induction X with
 |nil=>exact .zero
 |cons x X ih=>exact .succ ih
structure Den (E:Env P) (ρ:RM) (nx:Nat) (fr:FR) (hp:HP) (PS:PSs) (A:NQ) (H:AH) (l:LV):Prop where
 no:∀i,nx<=i->ρ i=none
 one:∀i v,ρ i=some v->v.oneCell'=true
 fr:RepF ρ A H fr l
 hp:RepH E ρ A H hp PS
def zZ(w:World)(tb:TBs):Prop:=tb.ok w/\∀g m k F,aVd g tb=some (m,k,F)->GT w g m k/\∀f,F=some f->∀j,j<m->w.cell? ⟨g,j,none⟩=some (.int k (f j))
def aVb(w:Base)(tb:TBs):Prop:=(tb.ne=true->w.em=false)/\zZ w.toWorld tb
def TbG [γ:Gam](w:Base)(tb:TBs):Prop:=aVb w tb/\(γ.y=true->w.heap.size=γ.n0)
structure RiOk [γ:Gam] (G:RG) (ri:RI) (PS:PSs) (L0:OL) (nx:Nat) (A:NQ) (H0:AH):Prop where
 d:ri.D=G.D
 ops:ri.ops=G.ops
 ms:ri.ms=G.ms
 lw:G.D=true->fA ri.st PS++L0=G.Lw
 lt:G.D=true->∀i,aJ i ri.st=true->i<nx
 gr:G.D=true->ri.G=false->A=G.Aw/\H0=G.Hw
 tb:TbG G.S.w0 ri.tb
section
variable [γ:Gam]{G:RG}{ri:RI}{PS:PSs}{L0:OL}{nx:Nat}{A:NQ}{H0:AH}{i:Nat}{K:Prop}
theorem RiOk.mn(h:RiOk G ri PS L0 nx A H0)(k:wmn ri i K):(G.D=true->i∈G.ms)/\K:=by
 unfold wmn at k;have mem:∀{l:NL},aJ i l=true->i∈l:=by
  intro l
  induction l with
  |nil=>intro h;cases h
  |cons j r ih=>
   intro h;simp only[aJ] at h;cases hb:Nat.beq j i with
   |true=>simp_all
   |false=>simp_all
 rw[h.d] at k;cases hD:G.D with
 |false=>simp_all
 |true=>
  rw[hD,QT] at k;cases hm:aJ i ri.ms with
  |true=>rw[hm,QT] at k;exact⟨fun _=>h.ms▸mem hm,k⟩
  |false=>simp_all
theorem RiOk.ns{id:Nat}(h:RiOk G ri PS L0 nx A H0)(k:wns ri id K):(G.D=true->aJ id ri.st=false)/\K:=by
 unfold wns at k;rw[h.d] at k
 grind
theorem RiOk.sub(h:RiOk G ri PS L0 nx A H0):G.D=true->G.Lw.Sublist (flt PS++L0):=fun hD=>by
 rw[<-h.lw hD]
 grind [kJ]
theorem RiOk.push(h:RiOk G ri PS L0 nx A H0)(L:OL):RiOk G ri ((nx,L)::PS) L0 (nx+1) A H0:=
 ⟨h.d,h.ops,h.ms,fun hD=>by
  rw[<-h.lw hD];simp only[fA];cases hm:aJ nx ri.st with
  |false=>rfl
  |true=>exact absurd (h.lt hD _ hm) (Nat.lt_irrefl _),fun hD i hi=>Nat.lt_succ_of_lt (h.lt hD i hi),h.gr,h.tb⟩
theorem RiOk.put{X Y:PSs}{k:Nat}{L L':OL}(h:RiOk G ri (X++(k,L)::Y) L0 nx A H0)(hk:G.D=true->aJ k ri.st=false):RiOk G ri (X++(k,L')::Y) L0 nx A H0:=
 ⟨h.d,h.ops,h.ms,fun hD=>by
  have:=h.lw hD;simp only[gO,fA,hk hD,QF] at this ⊢;exact this,h.lt,h.gr,h.tb⟩
theorem RiOk.del{X Y:PSs}{k:Nat}{L:OL}(h:RiOk G ri (X++(k,L)::Y) L0 nx A H0)(hk:G.D=true->aJ k ri.st=false):RiOk G ri (X++Y) L0 nx A H0:=
 ⟨h.d,h.ops,h.ms,fun hD=>by
  have:=h.lw hD;simp only[gO,fA,hk hD,QF] at this ⊢;exact this,h.lt,h.gr,h.tb⟩
theorem RiOk.grow{A':NQ}{H':AH}(h:RiOk G ri PS L0 nx A H0)(hg:G.D=true->ri.G=true):RiOk G ri PS L0 nx A' H':=
 ⟨h.d,h.ops,h.ms,h.lw,h.lt,(fun hD e=>by simp_all),h.tb⟩
end
section
variable {ρ:RM}{A:NQ}{H:AH}{fr:FR}{l:LV}
theorem aFn{n m:Nat}(h:atN aJh n=some m):m=n:=by
 have e:aJh=List.range' 0 200:=by kernel_rfl
 grind [sV]
theorem aNr{v:Value}{K:SP}(h:aHv v K):∃s u,opv l (.const v)=some u/\Rep ρ A H s u/\K s:=by
 unfold aHv at h;split at h
 ·rename_i a n;cases e:wfB a n with
  |true=>rw[e,QT] at h;exact⟨_,_,rfl,by simp only[Rep];exact⟨trivial,aXn e⟩,h⟩
  |false=>simp_all
 ·exact⟨_,_,rfl,by simp only[Rep],h⟩
 ·rename_i s;have h1:=h.t;split at h1
  ·rename_i n hn;exact⟨_,_,rfl,by simp only[Rep];exact⟨trivial,QL h.h⟩,h1 s rfl (by have:=aFn hn;simp_all)⟩
  ·exact⟨_,_,rfl,by simp only[Rep];exact⟨trivial,QL h.h⟩,h1⟩
 ·exact⟨_,_,rfl,by simp only[Rep],h⟩
 ·exact⟨_,_,rfl,by simp only[Rep],h⟩
 ·exact⟨_,_,rfl,by simp only[Rep],h⟩
 ·exact⟨_,_,rfl,by simp only[Rep],h⟩
 ·exact h.elim
theorem aR(hF:RepF ρ A H fr l){o:Operand}{K:SP}(h:wop fr o K):∃s u,opv l o=some u/\Rep ρ A H s u/\K s:=by
 unfold wop at h;split at h
 ·rename_i d;split at h
  ·rename_i v hv;obtain⟨u,h1,h2⟩:=hF.get hv;exact⟨v,u,h1,h2,h⟩
  ·exact h.elim
 ·exact aNr h
 ·exact⟨_,_,rfl,by simp only[Rep];exact⟨[],rfl,by simp only[Reps]⟩,h⟩
 ·exact h.elim
theorem uU(hF:RepF ρ A H fr l):∀{os:List Operand} {K:SL->Prop},aZr fr os K->∃ss us,Opvs l os us/\Reps ρ A H ss us/\K ss
 |[],K,h=>⟨[],[],.nil,by simp only[Reps],h⟩
 |o::r,K,h=>by
  obtain⟨s,u,h1,h2,h3⟩:=aR hF h;obtain⟨ss,us,k1,k2,k3⟩:=uU hF h3;exact⟨s::ss,u::us,.cons h1 k1,by grind [Reps],k3⟩
theorem wW(hF:RepF ρ A H fr l):∀{os:List (Nat×Operand)} {K:List (Nat×SV)->Prop},aSi fr os K->∃ss us,Opps l os us/\RepF ρ A H ss us/\K ss
 |[],K,h=>⟨[],[],.nil,rfl,h⟩
 |(j,o)::r,K,h=>by
  obtain⟨s,u,h1,h2,h3⟩:=aR hF h;obtain⟨ss,us,k1,k2,k3⟩:=wW hF h3;exact⟨(j,s)::ss,(j,u)::us,.cons h1 k1,⟨_,_,rfl,h2,k2⟩,k3⟩
theorem aVp(hF:RepF ρ A H fr l){ops:OA}{g:OB}{x y:Prop}(h:wgd ops fr g x y):(gok ops l g=true/\x)\/(gsk ops l g=true/\y):=by
 unfold wgd at h;split at h
 ·exact .inl ⟨rfl,h⟩
 ·rename_i j w;split at h
  ·rename_i o ho;split at h
   ·rename_i d hd;split at h
    ·rename_i b hb;obtain⟨u,h1,h2⟩:=hF.get hb
     grind [Rep,gok,gsk]
    ·rename_i hb;obtain⟨u,h1,h2⟩:=hF.get hb
     grind [Rep,gsk,undef]
    ·exact h.elim
   ·exact h.elim
  ·exact h.elim
theorem Rep.one(hρ:∀i v,ρ i=some v->v.oneCell'=true){s:SV}{v:Value}(h:Rep ρ A H s v){ss:SL}(hc:cX s=some ss):Reps ρ A H ss v.cells.toList/\(match s with|.agg _=>True|_=>v.oneCell'=true):=by
 cases s with
 |agg l=>simp only[cX,Option.some.injEq] at hc;subst hc;simp only[Rep] at h;obtain⟨vs,rfl,h⟩:=h;exact⟨h,trivial⟩
 |undef=>cases hc
 |tup _=>cases hc
 |gp _ _=>cases hc
 |rng _ _=>cases hc
 |any=>cases hc
 |yl _=>cases hc
 |xp _ _ _=>cases hc
 |ep _ _ _ _ _=>cases hc
 |int k n=>
  simp only[cX,Option.some.injEq] at hc;subst hc;have h':=h;simp only[Rep] at h';obtain⟨rfl,_⟩:=h';refine⟨?_,rfl⟩;simp only[Value.cells,Reps];exact⟨h,trivial⟩
 |bool b=>
  simp only[cX,Option.some.injEq] at hc;subst hc;have h':=h;simp only[Rep] at h';subst h';refine⟨?_,rfl⟩;simp only[Value.cells,Reps];exact⟨h,trivial⟩
 |str b=>
  simp only[cX,Option.some.injEq] at hc;subst hc;have h':=h;simp only[Rep] at h';obtain⟨rfl,_⟩:=h';refine⟨?_,rfl⟩;simp only[Value.cells,Reps];exact⟨h,trivial⟩
 |nil=>
  simp only[cX,Option.some.injEq] at hc;subst hc;have h':=h;simp only[Rep] at h';subst h';refine⟨?_,rfl⟩;simp only[Value.cells,Reps];exact⟨h,trivial⟩
 |pnil=>
  simp only[cX,Option.some.injEq] at hc;subst hc;have h':=h;simp only[Rep] at h';subst h';refine⟨?_,rfl⟩;simp only[Value.cells,Reps];exact⟨h,trivial⟩
 |row b ks l=>
  simp only[cX,Option.some.injEq] at hc;subst hc;have h':=h;simp only[Rep] at h';obtain⟨l',a,cap,_,rfl,_⟩:=h'.rowD;refine⟨?_,rfl⟩;simp only[Value.cells,Reps];exact⟨h,trivial⟩
 |el ks c o=>
  simp only[cX,Option.some.injEq] at hc;subst hc;have h':=h;simp only[Rep] at h';obtain⟨p,xs,rfl,_⟩:=h';refine⟨?_,rfl⟩;simp only[Value.cells,Reps];exact⟨h,trivial⟩
 |ptr i o=>
  simp only[cX,Option.some.injEq] at hc;subst hc;have h':=h;simp only[Rep] at h';obtain⟨N,_,rfl⟩:=h';refine⟨?_,rfl⟩;simp only[Value.cells,Reps];exact⟨h,trivial⟩
 |ow i=>
  simp only[cX,Option.some.injEq] at hc;subst hc;have h':=h;simp only[Rep] at h';have h1:=hρ _ _ h';refine⟨?_,h1⟩;rw[nD h1];simp only[Reps];exact⟨h,trivial⟩
 |op i j o m=>
  simp only[cX,Option.some.injEq] at hc;subst hc;have h':=h;simp only[Rep] at h';obtain⟨M,n,c,_,rfl⟩:=h';refine⟨?_,rfl⟩;simp only[Value.cells,Reps];exact⟨h,trivial⟩
 |fn g cs=>
  simp only[cX,Option.some.injEq] at hc;subst hc;have h':=h;simp only[Rep] at h';obtain⟨vs,rfl,_⟩:=h';refine⟨?_,rfl⟩;simp only[Value.cells,Reps];exact⟨h,trivial⟩
end
end Go.AM
