/-
  An abstract machine that runs a program of the given form, and its soundness, part 14.
-/
import Derived.Test.YtfcmggoiphphnaaGreatDoorAb13
set_option linter.unusedVariables false
set_option linter.unusedSimpArgs false
set_option linter.unusedSectionVars false
noncomputable section
namespace Go.AM
open Go.RowKit
theorem aZv{l:LX}{y:CL}(h:y∈l):∃j:Int,0<=j/\j<((l.length:Nat):Int)/\elC l j=y:=by
 obtain⟨k,hk,rfl⟩:=List.getElem_of_mem h;refine⟨((k:Nat):Int),by omega,by omega,?_⟩
 grind [elC,Int.toNat_natCast,List.getElem?_eq_getElem]
theorem AllB.mem{f:CL->Prop}{l:LX}{y:CL}(h:AllB f l ((l.length:Nat):Int))(hy:y∈l):f y:=by
 obtain⟨j,h0,h1,rfl⟩:=aZv hy;exact h j h0 h1
theorem aLs{s t:BA}(h:s.data.toList=t.data.toList):s=t:=by
 cases s;simp_all
theorem bDj{e n:Int}(h:¬e=0)(h2:¬e=0->n=0)(h1:1<n):False:=by have:=h2 h;omega
theorem bFv{e0 e n:Int}(h1:1<n)(h2:¬e=0->n=0)(h3:¬e0=0->¬e=0)(h4:¬e0=0):False:=by omega
theorem bFa{e0 e1 e n:Int}(h1:1<n)(h2:¬e=0->n=0)(h3:¬e1=0->¬e=0)(h4:¬e0=0->¬e1=0)(h5:¬e0=0):False:=by omega
def gBx(k:Nat)(fr:FR)(hp:HP)(K:SL->Prop):Prop:=match lW k fr hp with
 |some (.ptr i _)=>(match hget i hp with
  |some (.box _ cs)=>K cs
  |_=>False)
 |_=>False
def exC(js:NL):Nat->List SV->List SV->Prop
 |i,.int _ a::r,.int _ b::q=>(match aJ i js with|true=>exC js (i+1) r q|false=>a=b/\exC js (i+1) r q)
 |i,.bool a::r,.bool b::q=>(match aJ i js with|true=>exC js (i+1) r q|false=>a=b/\exC js (i+1) r q)
 |i,.str a::r,.str b::q=>(match aJ i js with|true=>exC js (i+1) r q|false=>a=b/\exC js (i+1) r q)
 |i,.row _ _ a::r,.row _ _ b::q=>(match aJ i js with|true=>exC js (i+1) r q|false=>a=b/\exC js (i+1) r q)
 |i,_::r,_::q=>exC js (i+1) r q
 |_,_,_=>True
def nM(l:LX):Prop:=l=(l.map mI).map unI
def nP(l:LX):Prop:=l=(l.map pI).map unP
section
variable {T:BA}{p e w h p1 e1 n:Int}{R l:LX}{rest:BL}
theorem QR.mask(q:QR eN unI okI T p e w h R p1 e1){w' h':Int}(hm:MOk w' h' l)(hn:nM l)(hr:RdB T p (eN w'++(eN h'++(gG eN (l.map mI)++rest))))(he:e=0):w=w'/\h=h'/\R=l/\RdB T p1 rest/\e1=0:=by
 obtain⟨⟨a1,a2,a3,a4⟩,a5⟩:=hm
 obtain⟨k1,k2,k3,k4,k5⟩:=q w' h' _ rest ⟨⟨a1,a2⟩,a3,by simp_all,fun x hx=>by
  obtain⟨y,hy,rfl⟩:=List.mem_map.1 hx;exact AllB.mem a5 hy,hr,he⟩
 exact⟨k1,k2,by rw[k4];exact hn.symm,k5,k3⟩
theorem QR.img(q:QR rF unP okQ T p e w h R p1 e1){w' h':Int}(hm:IOk w' h' l)(hn:nP l)(hr:RdB T p (eN w'++(eN h'++(gG rF (l.map pI)++rest))))(he:e=0):w=w'/\h=h'/\R=l/\RdB T p1 rest/\e1=0:=by
 obtain⟨⟨a1,a2,a3,a4⟩,a5⟩:=hm
 obtain⟨k1,k2,k3,k4,k5⟩:=q w' h' _ rest ⟨⟨a1,a2⟩,a3,by simp_all,fun x hx=>by
  obtain⟨y,hy,rfl⟩:=List.mem_map.1 hx;exact AllB.mem a5 hy,hr,he⟩
 exact⟨k1,k2,by rw[k4];exact hn.symm,k5,k3⟩
theorem TP.get{m:Int}{S s:BA}(q:TP T m p e S.data.toList p1 e1)(hm:((s.data.toList.length:Nat):Int)<=m)(hr:RdB T p (eT s.data.toList++rest))(he:e=0):S=s/\RdB T p1 rest/\e1=0:=by
 grind [c,aLs]
theorem LQ.of{val:CL->List UInt8}{ok:CL->Prop}{M p0 e0 t:Int}(h:LP val ok T p1 e1 n R t p e)(ht:n<=t)(c:CP T (max M 0) p0 e0 n p1 e1):LQ val ok M T p0 e0 R p e:=LQ.fine c h ht
theorem VC.bad{val:CL->List UInt8}{ok:CL->Prop}{c d:CL}(h1:¬e1=0)(h:VC val ok T p e c p1 e1):VC val ok T p e d p1 e1:=fun x rest hx hr he=>absurd (h x rest hx hr he).2.2 h1
end
def aOo(c:CL):Prop:=NOk c/\c=(aN kN c 0).map cSV/\(∀j,I64 (cI c j))/\nM (cR c 11)/\nP (cR c 21)/\(∀x∈cR c 27,okC 1 x)/\(∀x∈cR c 29,okC 5 x)/\(∀x∈cR c 30,okC 7 x)/\∀x∈cR c 42,okC 2 x
theorem aMh{T:BA}{i0 i1 i2 i7 i8 i9 i10 i12 i13 i14 i15 i16 i17 i18 i19 i20 i22 i23 i24 i25 i26 i28 i31 i32 i33 i34 i36 i37 i38 i39 i40 i41:Int}{S3 S35:BA}{b4 b5 b6:Bool}{R11 R21 R27 R29 R30 R42:LX}{p0 e0 p1 e1 p2 e2 p3 e3 p4 e4 p5 e5 p6 e6 p7 e7 p8 e8 p9 e9 p10 e10 p11 e11 p12 e12 p13 e13 p14 e14 p15 e15 p16 e16 p17 e17 p18 e18 p19 e19 p20 e20 p21 e21 p22 e22 p23 e23 p24 e24 p25 e25 p26 e26 p27 e27 p28 e28 p29 e29 p30 e30 p31 e31 p32 e32 p33 e33 p34 e34 p35 e35 p36 e36 p37 e37 p38 e38 p39 e39:Int}
 (h38:LQ fP (okC 2) 64 T p38 e38 R42 p39 e39)
 (h37:IP T p37 e37 i41 p38 e38)
 (h36:IP T p36 e36 i40 p37 e37)
 (h35:IP T p35 e35 i39 p36 e36)
 (h34:IP T p34 e34 i38 p35 e35)
 (h33:IP T p33 e33 i37 p34 e34)
 (h32:IP T p32 e32 i36 p33 e33)
 (h31:TP T (max 256 0) p31 e31 S35.data.toList p32 e32)
 (h30:IP T p30 e30 i34 p31 e31)
 (h29:IP T p29 e29 i33 p30 e30)
 (h28:IP T p28 e28 i32 p29 e29)
 (h27:IP T p27 e27 i31 p28 e28)
 (h26:LQ fG (okC 7) 128 T p26 e26 R30 p27 e27)
 (h25:LQ fS (okC 5) 16 T p25 e25 R29 p26 e26)
 (h24:IP T p24 e24 i28 p25 e25)
 (h23:LQ fI (okC 1) 16 T p23 e23 R27 p24 e24)
 (h22:IP T p22 e22 i26 p23 e23)
 (h21:IP T p21 e21 i25 p22 e22)
 (h20:IP T p20 e20 i24 p21 e21)
 (h19:IP T p19 e19 i23 p20 e20)
 (h18:IP T p18 e18 i22 p19 e19)
 (h17:QR rF unP okQ T p17 e17 i19 i20 R21 p18 e18)
 (h16:IP T p16 e16 i18 p17 e17)
 (aa:IP T p15 e15 i17 p16 e16)
 (h14:IP T p14 e14 i16 p15 e15)
 (h13:IP T p13 e13 i15 p14 e14)
 (h12:IP T p12 e12 i14 p13 e13)
 (h11:IP T p11 e11 i13 p12 e12)
 (jo:IP T p10 e10 i12 p11 e11)
 (h9:QR eN unI okI T p9 e9 i9 i10 R11 p10 e10)
 (h8:IP T p8 e8 i8 p9 e9)
 (h7:IP T p7 e7 i7 p8 e8)
 (h6:FP T p6 e6 b6 p7 e7)
 (h5:FP T p5 e5 b5 p6 e6)
 (h4:FP T p4 e4 b4 p5 e5)
 (h3:TP T (max 256 0) p3 e3 S3.data.toList p4 e4)
 (h2:IP T p2 e2 i2 p3 e3)
 (h1:IP T p1 e1 i1 p2 e2)
 (h0:IP T p0 e0 i0 p1 e1):VC jD aOo T p0 e0 [.v (.int .i64 i0),.v (.int .i64 i1),.v (.int .i64 i2),.v (.string S3),.v (.bool b4),.v (.bool b5),.v (.bool b6),.v (.int .i64 i7),.v (.int .i64 i8),.v (.int .i64 i9),.v (.int .i64 i10),.row R11,.v (.int .i64 i12),.v (.int .i64 i13),.v (.int .i64 i14),.v (.int .i64 i15),.v (.int .i64 i16),.v (.int .i64 i17),.v (.int .i64 i18),.v (.int .i64 i19),.v (.int .i64 i20),.row R21,.v (.int .i64 i22),.v (.int .i64 i23),.v (.int .i64 i24),.v (.int .i64 i25),.v (.int .i64 i26),.row R27,.v (.int .i64 i28),.row R29,.row R30,.v (.int .i64 i31),.v (.int .i64 i32),.v (.int .i64 i33),.v (.int .i64 i34),.v (.string S35),.v (.int .i64 i36),.v (.int .i64 i37),.v (.int .i64 i38),.v (.int .i64 i39),.v (.int .i64 i40),.v (.int .i64 i41),.row R42] p39 e39:=fun x rest hc r z=>by
 obtain⟨⟨⟨s3,l27,l29,l30,s35,l42⟩,m9,m19⟩,hk,hI,n11,n21,n27,n29,n30,n42⟩:=hc;simp only[jD,eC,eB,yC,aHp,eSh,List.flatMap_cons,List.flatMap_nil,QA,List.nil_append,List.append_nil] at r;obtain⟨q,r,z⟩:=h0 _ _ (hI 0).1 (hI 0).2 r z;subst q;obtain⟨q,r,z⟩:=h1 _ _ (hI 1).1 (hI 1).2 r z;subst q;obtain⟨q,r,z⟩:=h2 _ _ (hI 2).1 (hI 2).2 r z;subst q;obtain⟨q,r,z⟩:=TP.get h3 (by omega) r z;subst q;obtain⟨q,r,z⟩:=h4 _ _ r z;subst q;obtain⟨q,r,z⟩:=h5 _ _ r z;subst q;obtain⟨q,r,z⟩:=h6 _ _ r z;subst q;obtain⟨q,r,z⟩:=h7 _ _ (hI 7).1 (hI 7).2 r z;subst q;obtain⟨q,r,z⟩:=h8 _ _ (hI 8).1 (hI 8).2 r z;subst q;obtain⟨q,q1,q2,r,z⟩:=QR.mask h9 m9 n11 r z;subst q;subst q1;subst q2;obtain⟨q,r,z⟩:=jo _ _ (hI 12).1 (hI 12).2 r z;subst q;obtain⟨q,r,z⟩:=h11 _ _ (hI 13).1 (hI 13).2 r z;subst q;obtain⟨q,r,z⟩:=h12 _ _ (hI 14).1 (hI 14).2 r z;subst q;obtain⟨q,r,z⟩:=h13 _ _ (hI 15).1 (hI 15).2 r z;subst q;obtain⟨q,r,z⟩:=h14 _ _ (hI 16).1 (hI 16).2 r z;subst q;obtain⟨q,r,z⟩:=aa _ _ (hI 17).1 (hI 17).2 r z;subst q;obtain⟨q,r,z⟩:=h16 _ _ (hI 18).1 (hI 18).2 r z;subst q;obtain⟨q,q1,q2,r,z⟩:=QR.img h17 m19 n21 r z;subst q;subst q1;subst q2;obtain⟨q,r,z⟩:=h18 _ _ (hI 22).1 (hI 22).2 r z;subst q;obtain⟨q,r,z⟩:=h19 _ _ (hI 23).1 (hI 23).2 r z;subst q;obtain⟨q,r,z⟩:=h20 _ _ (hI 24).1 (hI 24).2 r z;subst q;obtain⟨q,r,z⟩:=h21 _ _ (hI 25).1 (hI 25).2 r z;subst q;obtain⟨q,r,z⟩:=h22 _ _ (hI 26).1 (hI 26).2 r z;subst q;obtain⟨q,r,z⟩:=h23 _ _ (by omega) n27 r z;subst q;obtain⟨q,r,z⟩:=h24 _ _ (hI 28).1 (hI 28).2 r z;subst q;obtain⟨q,r,z⟩:=h25 _ _ (by omega) n29 r z;subst q;obtain⟨q,r,z⟩:=h26 _ _ (by omega) n30 r z;subst q;obtain⟨q,r,z⟩:=h27 _ _ (hI 31).1 (hI 31).2 r z;subst q;obtain⟨q,r,z⟩:=h28 _ _ (hI 32).1 (hI 32).2 r z;subst q;obtain⟨q,r,z⟩:=h29 _ _ (hI 33).1 (hI 33).2 r z;subst q;obtain⟨q,r,z⟩:=h30 _ _ (hI 34).1 (hI 34).2 r z;subst q;obtain⟨q,r,z⟩:=TP.get h31 (by omega) r z;subst q;obtain⟨q,r,z⟩:=h32 _ _ (hI 36).1 (hI 36).2 r z;subst q;obtain⟨q,r,z⟩:=h33 _ _ (hI 37).1 (hI 37).2 r z;subst q;obtain⟨q,r,z⟩:=h34 _ _ (hI 38).1 (hI 38).2 r z;subst q
 obtain⟨q,r,z⟩:=h35 _ _ (hI 39).1 (hI 39).2 r z;subst q;obtain⟨q,r,z⟩:=h36 _ _ (hI 40).1 (hI 40).2 r z;subst q;obtain⟨q,r,z⟩:=h37 _ _ (hI 41).1 (hI 41).2 r z;subst q;obtain⟨q,r,z⟩:=h38 _ _ (by omega) n42 r z;subst q;exact⟨hk.symm,r,z⟩
def aYb(c:CL):Prop:=aHi c/\c=(aN kM c 0).map cSV
def aPx(c:CL):Prop:=LOk c/\c=(aN kL c 0).map cSV/\(∀j,I64 (cI c j))/\nP (cR c 6)
def gF(c:CL):Prop:=DOk c/\c=(aN kD c 0).map cSV/\(∀j,I64 (cI c j))/\(∀x∈cR c 3,aOo x)/\nM (cR c 7)/\(∀x∈cR c 8,aYb x)/\∀x∈cR c 9,aPx x
theorem bBc{T:BA}{S0 S1:BA}{p0 e0 p1 e1 p2 e2:Int}
 (h1:TP T (max 256 0) p1 e1 S1.data.toList p2 e2)
 (h0:TP T (max 32 0) p0 e0 S0.data.toList p1 e1):VC fMt aYb T p0 e0 [.v (.string S0),.v (.string S1)] p2 e2:=fun x rest hc r z=>by
 obtain⟨⟨s0,s1⟩,hk⟩:=hc;simp only[fMt,List.flatMap_cons,List.flatMap_nil,QA,List.nil_append,List.append_nil] at r;obtain⟨q,r,z⟩:=TP.get h0 (by omega) r z;subst q;obtain⟨q,r,z⟩:=TP.get h1 (by omega) r z;subst q;exact⟨hk.symm,r,z⟩
theorem bAf{T:BA}{i0 i2 i3 i4 i5:Int}{S1:BA}{R6:LX}{p0 e0 p1 e1 p2 e2 p3 e3 p4 e4 p5 e5:Int}
 (h4:QR rF unP okQ T p4 e4 i4 i5 R6 p5 e5)
 (h3:IP T p3 e3 i3 p4 e4)
 (h2:IP T p2 e2 i2 p3 e3)
 (h1:TP T (max 32 0) p1 e1 S1.data.toList p2 e2)
 (h0:IP T p0 e0 i0 p1 e1):VC fLk aPx T p0 e0 [.v (.int .i64 i0),.v (.string S1),.v (.int .i64 i2),.v (.int .i64 i3),.v (.int .i64 i4),.v (.int .i64 i5),.row R6] p5 e5:=fun x rest hc r z=>by
 obtain⟨⟨s1,m4⟩,hk,hI,n6⟩:=hc;simp only[fLk,eC,aHp,List.flatMap_cons,List.flatMap_nil,QA,List.nil_append,List.append_nil] at r;obtain⟨q,r,z⟩:=h0 _ _ (hI 0).1 (hI 0).2 r z;subst q;obtain⟨q,r,z⟩:=TP.get h1 (by omega) r z;subst q;obtain⟨q,r,z⟩:=h2 _ _ (hI 2).1 (hI 2).2 r z;subst q;obtain⟨q,r,z⟩:=h3 _ _ (hI 3).1 (hI 3).2 r z;subst q;obtain⟨q,q1,q2,r,z⟩:=QR.img h4 m4 n6 r z;subst q;subst q1;subst q2;exact⟨hk.symm,r,z⟩
theorem bFq{T:BA}{i0 i1 i2 i4 i5 i6:Int}{R3 R7 R8 R9:LX}{p0 e0 p1 e1 p2 e2 p3 e3 p4 e4 p5 e5 p6 e6 p7 e7 p8 e8:Int}
 (h7:LQ fLk aPx 8 T p7 e7 R9 p8 e8)
 (h6:LQ fMt aYb 16 T p6 e6 R8 p7 e7)
 (h5:QR eN unI okI T p5 e5 i5 i6 R7 p6 e6)
 (h4:LQ jD aOo 64 T p4 e4 R3 p5 e5)
 (h3:IP T p3 e3 i4 p4 e4)
 (h2:IP T p2 e2 i2 p3 e3)
 (h1:IP T p1 e1 i1 p2 e2)
 (h0:IP T p0 e0 i0 p1 e1):VC jR gF T p0 e0 [.v (.int .i64 i0),.v (.int .i64 i1),.v (.int .i64 i2),.row R3,.v (.int .i64 i4),.v (.int .i64 i5),.v (.int .i64 i6),.row R7,.row R8,.row R9] p8 e8:=fun x rest hc r z=>by
 obtain⟨⟨⟨l3,l8,l9⟩,_,m5,_,_⟩,hk,hI,n3,n7,n8,n9⟩:=hc;simp only[jR,eC,yC,List.flatMap_cons,List.flatMap_nil,QA,List.nil_append,List.append_nil] at r;obtain⟨q,r,z⟩:=h0 _ _ (hI 0).1 (hI 0).2 r z;subst q;obtain⟨q,r,z⟩:=h1 _ _ (hI 1).1 (hI 1).2 r z;subst q;obtain⟨q,r,z⟩:=h2 _ _ (hI 2).1 (hI 2).2 r z;subst q;obtain⟨q,r,z⟩:=h3 _ _ (hI 4).1 (hI 4).2 r z;subst q;obtain⟨q,r,z⟩:=h4 _ _ (by omega) n3 r z;subst q;obtain⟨q,q1,q2,r,z⟩:=QR.mask h5 m5 n7 r z;subst q;subst q1;subst q2;obtain⟨q,r,z⟩:=h6 _ _ (by omega) n8 r z;subst q;obtain⟨q,r,z⟩:=h7 _ _ (by omega) n9 r z;subst q;exact⟨hk.symm,r,z⟩
end Go.AM
namespace Go.AM
open Go.RowKit
def iY(x:Nat):Nat:=bif Nat.beq (x%2) 1 then(x / 2) ^^^ 3988292384 else x / 2
def aGn(x:Nat):Nat:=iY (iY (iY (iY (iY (iY (iY (iY x)))))))
def aSo(c:Nat)(b:UInt8):Nat:=(c / 256) ^^^ aGn ((c%256) ^^^ b.toNat)
def aEk(l:BL):Nat:=l.foldl aSo 4294967295
def aDm(l:BL):Nat:=4294967295 - aEk l
theorem fK{x:Nat}(h:x<4294967296):iY x<4294967296:=by
 unfold iY;cases Nat.beq (x%2) 1 with
 |true=>exact Nat.xor_lt_two_pow (n:=32) (by omega) (by decide)
 |false=>show x / 2<_;omega
theorem aDx{x:Nat}(h:x<4294967296):aGn x<4294967296:=fK (fK (fK (fK (fK (fK (fK (fK h)))))))
theorem aZq{c:Nat}(h:c<4294967296)(b:UInt8):aSo c b<4294967296:=by
 have hb:=b.toNat_lt;have:(c%256) ^^^ b.toNat<2^8:=Nat.xor_lt_two_pow (by omega) (by omega);exact Nat.xor_lt_two_pow (n:=32) (by omega) (aDx (by omega))
theorem aMd:∀(l:BL) (c:Nat),c<4294967296->l.foldl aSo c<4294967296
 |[],c,h=>h
 |b::l,c,h=>aMd l _ (aZq h b)
theorem aLu(l:BL):aEk l<4294967296:=aMd l _ (by decide)
theorem aOx{l:BL}{k:Nat}{b:UInt8}(h:l[k]?=some b):aEk (l.take (k+1))=aSo (aEk (l.take k)) b:=by
 rw[List.take_succ_eq_append_getElem (lt_of_getElem? h),aEk,List.foldl_append];obtain⟨hk,rfl⟩:=List.getElem?_eq_some_iff.1 h;rfl
def aIv:VL:=(List.range 256).map fun i=>.int .u32 (aGn i:Int)
theorem bBd{j:Nat}(h:j<256):aIv[j]?=some (.int .u32 (aGn j:Int)):=by
 simp only[aIv,List.getElem?_map,List.getElem?_range h,Option.map_some]
def fO:Nat->Nat->Nat
 |0,x=>x
 |k+1,x=>iY (fO k x)
theorem aEr{x:Nat}(h:x<4294967296):∀k,fO k x<4294967296
 |0=>h
 |k+1=>fK (aEr h k)
theorem aPg{x k:Nat}(h:fO k x%2=1):fO (k+1) x=(fO k x / 2) ^^^ 3988292384:=by
 show iY _=_;unfold iY;rw[h];rfl
theorem aHd{x k:Nat}(h:¬fO k x%2=1):fO (k+1) x=fO k x / 2:=by
 show iY _=_;unfold iY;rw[show fO k x%2=0 by omega];rfl
def fT(k:Nat)(j:Nat):Value:=.int .u32 ((bif Nat.blt j k then fO 8 j else 0:Nat):Int)
theorem aUy{k:Nat}(h:k<256):(cellsOf 256 (fT k)).take k++([.int .u32 ((fO 8 k:Nat):Int)]++(cellsOf 256 (fT k)).drop (k+1))=cellsOf 256 (fT (k+1)):=by
 rw[jG (by simp_all)];congr 1;funext j;unfold aWo fT;cases e:Nat.beq j k with
 |true=>
  grind [QN,Nat.blt,Nat.ble_eq]
 |false=>
  have qr:j≠k:=fun q=>by rw[q] at e;simp at e
  have:Nat.blt j (k+1)=Nat.blt j k:=by
   rw[Bool.eq_iff_iff];grind [Nat.blt,Nat.ble_eq]
  rw[this];rfl
theorem aTf:cellsOf 256 (fT 256)=aIv:=by
 unfold cellsOf aIv;apply List.map_congr_left;intro j hj;have:Nat.blt j 256=true:=by simp_all
 unfold fT;rw[this];rfl
theorem aRf:∀(n c:Nat),c<2^n->(2^n - 1) ^^^ c=2^n - 1 - c:=by
 intro n c h;apply Nat.eq_of_testBit_eq
 grind [Nat.testBit_two_pow_sub_one,Nat.testBit_lt_two_pow,Nat.lt_of_lt_of_le,Nat.pow_le_pow_right]
theorem aSe{c:Nat}(h:c<4294967296):4294967295 ^^^ c=4294967295 - c:=aRf 32 c h
def le4(n:Nat):BL:=[UInt8.ofNat n,UInt8.ofNat (n / 256),UInt8.ofNat (n / 65536),UInt8.ofNat (n / 16777216)]
def smV(l:BL):BL:=le4 (aDm l)
theorem qK(l:BL):(smV l).length=4:=rfl
def frV(s:BL):BL:=eT s++smV (eT s)
theorem fr_of{w x y s:BL}(hw:w=x++y)(hx:x=eT s)(hy:y=smV x):w=frV s:=by rw[hw,hy,hx];rfl
theorem vB(t:BL):(frV t).length=(eT t).length+4:=by simp only[frV,List.length_append,qK]
structure OpPI (s p:BL) (n e:Int):Prop where
 c:∀t rest:BL,((t.length:Nat):Int)<=1048576->s=frV t++rest->p=t/\n=(((frV t).length:Nat):Int)/\e=0
 f:e=0->s=frV p++s.drop n.toNat/\n=(((frV p).length:Nat):Int)
def OpP(s p:BL)(n e:Int):Prop:=True->OpPI s p n e
theorem OpP.c{s p:BL}{n e:Int}(h:OpP s p n e):∀t rest:BL,((t.length:Nat):Int)<=1048576->s=frV t++rest->p=t/\n=(((frV t).length:Nat):Int)/\e=0:=(h trivial).c
theorem OpP.f{s p:BL}{n e:Int}(h:OpP s p n e):e=0->s=frV p++s.drop n.toNat/\n=(((frV p).length:Nat):Int):=(h trivial).f
section
variable {T u v:BA}{w p q:BL}{a e n e' z l x:Int}
theorem OpP.rd{t rest:BL}(h:TP T (max 1048576 0) 0 0 w a e)(hl:((t.length:Nat):Int)<=1048576)(ht:T.data.toList=frV t++rest):w=t/\RdB T a (smV (eT t)++rest)/\e=0:=h.c t (smV (eT t)++rest) (by omega) (by grind [RdB,frV,QA]) rfl
theorem OpP.err(h:TP T (max 1048576 0) 0 0 w a e)(he:¬e=0)(hz:¬e'=0):OpP T.data.toList p n e':=fun _=>⟨fun t r hl ht=>absurd (OpP.rd h hl ht).2.2 he,fun k=>absurd k hz⟩
theorem aIw{r:BL}(h:RdB T a r)(h0:0<=a)(h1:a<=((T.data.toList.length:Nat):Int)):((r.length:Nat):Int)=((T.data.toList.length:Nat):Int) - a:=by
 have:=congrArg List.length h
 grind
theorem OpP.short(h:TP T (max 1048576 0) 0 0 w a e)(h0:0<=a)(h1:a<=((T.data.toList.length:Nat):Int))(hz:((T.data.toList.length:Nat):Int) - a<4)(he:¬e'=0):OpP T.data.toList p n e':=fun _=>⟨fun t r hl ht=>by
 have:=aIw (OpP.rd h hl ht).2.1 h0 h1
 grind [List.length_append,qK],fun k=>absurd k he⟩
theorem xN{l:BL}(h0:0<=a):(l.take (a+4).toNat).drop a.toNat=(l.drop a.toNat).take 4:=by
 grind [List.drop_take]
theorem OpP.sums{t rest:BL}(h:TP T (max 1048576 0) 0 0 w a e)(h0:0<=a)(h1:a<=((T.data.toList.length:Nat):Int))(hl:((t.length:Nat):Int)<=1048576)(ht:T.data.toList=frV t++rest):a=(((eT t).length:Nat):Int)/\(T.data.toList.take (a+4).toNat).drop a.toNat=smV (T.data.toList.take a.toNat):=by
 have hr:=(OpP.rd h hl ht).2.1;have he:=aIw hr h0 h1;have hT:=congrArg List.length ht;rw[List.length_append,vB] at hT;rw[List.length_append,qK] at he;have e1:a.toNat=(eT t).length:=by omega
 grind [xN,smV,eT,frV,QA,List.take_left]
theorem OpP.bad(h:TP T (max 1048576 0) 0 0 w a e)(h0:0<=a)(h1:a<=((T.data.toList.length:Nat):Int))(hu:u.data.toList=(T.data.toList.take (x+4).toNat).drop x.toNat)(hv:v.data.toList=smV q)(hq:q=T.data.toList.take x.toNat)(qr:¬u=v)(hx:x=a)(hz:¬e'=0):OpP T.data.toList p n e':=fun _=>⟨fun t r hl ht=>by
 subst hx;refine absurd (aLs ?_) qr;rw[hu,hv,hq];exact(OpP.sums h h0 h1 hl ht).2,fun k=>absurd k hz⟩
theorem OpP.ok(h:TP T (max 1048576 0) 0 0 w a e)(h0:0<=a)(h1:a<=((T.data.toList.length:Nat):Int))(hu:u.data.toList=(T.data.toList.take (x+4).toNat).drop x.toNat)(hv:v.data.toList=smV q)(hq:q=T.data.toList.take x.toNat)(qr:u=v)(hx:x=a)(he:e=0)(hn:n=a+4):OpP T.data.toList w n 0:=fun _=>⟨fun t r hl ht=>
 ⟨(OpP.rd h hl ht).1,by grind [OpP.sums,vB],rfl⟩,fun _=>by
 subst hx;have hs:=(h.s he).2;unfold RdB at hs;rw[show(0:Int).toNat=0 from rfl,List.drop_zero] at hs;have hl:=congrArg List.length hs;rw[List.length_append,List.length_drop] at hl;have e1:x.toNat=(eT w).length:=by omega
 have e2:T.data.toList.take x.toNat=eT w:=by grind
 have e3:(T.data.toList.drop x.toNat).take 4=smV (eT w):=by grind [xN]
 grind [vB,frV,List.drop_drop,QA,List.take_append_drop]⟩
end
theorem pf_ok{a u b:BA}{n:Int}(hu:u.data.toList=a.data.toList.take n.toNat)(e:u=b):∃l,a.data.toList=b.data.toList++l:=⟨a.data.toList.drop n.toNat,by simp_all⟩
theorem pf_no{a u b:BA}(hu:u.data.toList=a.data.toList.take (((b.data.toList.length:Nat):Int)).toNat)(e:¬u=b):∀l,¬a.data.toList=b.data.toList++l:=fun l h=>e (aLs (by simp_all))
theorem pf_sh{a b:BA}(h:((a.data.toList.length:Nat):Int)<((b.data.toList.length:Nat):Int)):∀l,¬a.data.toList=b.data.toList++l:=fun l e=>by grind
def kI:KL:=[.int .i64,.int .i64,.row 32 [.int .i64,.int .i64,.int .i64,.int .i64]]
theorem aZn{k:Kd}{c d:CL}{i j:Nat}(h:cSV (kSV k c i)=cSV (kSV k d j)):kSV k c i=kSV k d j:=by
 cases k<;>grind [kSV,cSV,CT.v.injEq,CT.row.injEq,Value.int.injEq,Value.bool.injEq]<;>simp only[kSV,h]
theorem aLj:∀{ks:KL} {c d:CL} {j:Nat},(aN ks c j).map cSV=(aN ks d j).map cSV->aN ks c j=aN ks d j
 |[],_,_,_,_=>rfl
 |k::ks,c,d,j,h=>by
  simp only[aN,List.map_cons,List.cons.injEq] at h;simp only[aN,aZn h.1,aLj h.2]
theorem tJ{ks:KL}{c d:CL}(h:(aN ks c 0).map cSV=(aN ks d 0).map cSV):aN ks c 0=aN ks d 0:=aLj h
section
variable [σ:Sg]
theorem bBl{P:PG}{tb:TBs}{g:FuncId}{f:BL->List UInt8}{m:Nat}(hm:m<=maxLen)(hf:∀l,(f l).length=m)(h:∀{S:AH} (q:BA),q.data.toList.length<=4611686018427387904->XCall P g [.string q] S fun v H'=>v=.string ⟨⟨f q.data.toList⟩⟩/\Kept S.nx S H'):
 CtrOk P tb g ⟨[.sc (.str)],[.sc (.str)],fun a=>rS 0 a fun sa0=>Pr (sa0<=1099511627776),fun a r=>rT 0 r fun Tr0=>rT 0 a fun Ta0=>rS 0 r fun sr0=>Pr (Tr0.data.toList=f Ta0.data.toList/\sr0=((m:Nat):Int)),0,none⟩:=by
 intro S H0 A0 A L0 ss vs qz ap hr qp H hH;cases ap with
 |cons hp ht=>
  cases ht;obtain⟨q,rfl⟩:=hp
  match vs,hr with
  |[v],hr=>
   simp only[Reps,Rep] at hr;obtain⟨⟨rfl,hq⟩,_⟩:=hr;have qp:=Pr.h qp;refine(h (S:=H) q (by omega)).mono ?_;rintro u H' _ ⟨rfl,hk⟩;refine⟨H0,A,Gr.refl _ _,hH.later hk,[.str ⟨⟨f q.data.toList⟩⟩],[.string ⟨⟨f q.data.toList⟩⟩],.cons ⟨_,rfl⟩ .nil,?_,rfl,Pr.mk ⟨rfl,?_⟩⟩
   ·simp only[Reps,Rep,and_true,true_and];show(f q.data.toList).length<=maxLen;rw[hf];exact hm
   simp_all
  |[],hr=>simp only[Reps] at hr
  |_::_::_,hr=>grind [Reps]
end
end Go.AM
namespace Go.AM
open Go.RowKit
def mgB:BL:=[73,69,68,49]
def enV(c:CL):BL:=mgB++frV (jR c)
theorem en_of{u f w:BA}{t:BL}{c:CL}(hw:w.data.toList=u.data.toList++f.data.toList)(hu:u=⟨#[73,69,68,49]⟩)(hf:f.data.toList=frV t)(ht:t=jR c):w.data.toList=enV c:=by
 rw[hw,hu,hf,ht];rfl
theorem bAs(c:CL):(jR c).length+8<=(enV c).length:=by
 simp only[enV,mgB,frV,eT,List.length_append,qK,List.length_cons,List.length_nil];omega
def DcP(chi:CL->Int)(s:BL)(c:CL)(e:Int):Prop:=∀x,gF x->chi x=0->s=enV x->((s.length:Nat):Int)<=1048576->e=0/\c=x
section
variable {chi:CL->Int}{S u w T:BA}{c d:CL}{e e0 e1 e2 n p k:Int}
theorem DcP.big(h:1048576<((S.data.toList.length:Nat):Int)):DcP chi S.data.toList c e:=fun x _ _ _ h1=>absurd h (by omega)
theorem DcP.nop(h:∀l,¬S.data.toList=u.data.toList++l)(hu:u=⟨#[73,69,68,49]⟩):DcP chi S.data.toList c e:=fun x _ _ h2 _=>absurd h2 (by subst hu;exact h (frV (jR x)))
theorem aCi{x:CL}(hw:w.data.toList=S.data.toList.drop k.toNat)(hk:k=4)(ho:OpP w.data.toList T.data.toList n e0)(h2:S.data.toList=enV x)(h3:((S.data.toList.length:Nat):Int)<=1048576):T.data.toList=jR x/\n=((w.data.toList.length:Nat):Int)/\e0=0:=by
 have hl:=bAs x;have e:w.data.toList=frV (jR x):=by rw[hw,h2,hk];rfl
 obtain⟨k1,k2,k3⟩:=ho.c (jR x) [] (by rw[h2] at h3;omega) (by rw[e,List.append_nil])
 simp_all
theorem DcP.op(hw:w.data.toList=S.data.toList.drop k.toNat)(ho:OpP w.data.toList T.data.toList n e0)(he:¬e0=0)(hk:k=4):DcP chi S.data.toList c e:=fun x _ _ h2 h3=>absurd (aCi hw hk ho h2 h3).2.2 he
theorem DcP.ex(hw:w.data.toList=S.data.toList.drop k.toNat)(ho:OpP w.data.toList T.data.toList n e0)(hn:n<((w.data.toList.length:Nat):Int))(hk:k=4):DcP chi S.data.toList c e:=fun x _ _ h2 h3=>by
 have:=(aCi hw hk ho h2 h3).2.1;omega
theorem aLq{x:CL}(hw:w.data.toList=S.data.toList.drop k.toNat)(ho:OpP w.data.toList T.data.toList n e0)(hv:VC jR gF T 0 0 d p e1)(hk:k=4)(hx:gF x)(h2:S.data.toList=enV x)(h3:((S.data.toList.length:Nat):Int)<=1048576):d=x/\RdB T p []/\e1=0:=
 hv x [] hx (by grind [RdB,aCi]) rfl
theorem DcP.rd(hw:w.data.toList=S.data.toList.drop k.toNat)(ho:OpP w.data.toList T.data.toList n e0)(hv:VC jR gF T 0 0 d p e1)(he:¬e1=0)(hk:k=4):DcP chi S.data.toList c e:=fun x hx _ h2 h3=>absurd (aLq hw ho hv hk hx h2 h3).2.2 he
theorem DcP.lf(hw:w.data.toList=S.data.toList.drop k.toNat)(ho:OpP w.data.toList T.data.toList n e0)(hv:VC jR gF T 0 0 d p e1)(h0:0<=p)(h1:p<((T.data.toList.length:Nat):Int))(hk:k=4):DcP chi S.data.toList c e:=fun x hx _ h2 h3=>by
 have:=aIw (aLq hw ho hv hk hx h2 h3).2.1 h0 (by omega)
 grind
theorem DcP.ck(hw:w.data.toList=S.data.toList.drop k.toNat)(ho:OpP w.data.toList T.data.toList n e0)(hv:VC jR gF T 0 0 d p e1)(hc:e2=chi d)(he:¬e2=0)(hk:k=4):DcP chi S.data.toList c e:=fun x hx h1 h2 h3=>by
 have:=(aLq hw ho hv hk hx h2 h3).1
 simp_all
theorem DcP.ok(hw:w.data.toList=S.data.toList.drop k.toNat)(ho:OpP w.data.toList T.data.toList n e0)(hv:VC jR gF T 0 0 d p e1)(hk:k=4):DcP chi S.data.toList d 0:=fun x hx h1 h2 h3=>⟨rfl,(aLq hw ho hv hk hx h2 h3).1⟩
end
end Go.AM
namespace Go.AM
open Go.RowKit
variable [σ:Sg]
def Ty(ks:KL)(c:CL):Prop:=∃(A:NQ) (H:AH) (xs:VL),CellsA A H ks xs c
theorem vW{A:NQ}{H:AH}{c:CL}:∀{ks:KL} {xs:VL} {cs:CL} {j:Nat},CellsA A H ks xs cs->c.drop j=cs->(aN ks c j).map cSV=cs
 |[],[],[],j,_,_=>rfl
 |k::ks,x::xs,d::cs,j,h,e=>by
  simp only[CellsA] at h;have hd:c[j]?=some d:=by
   have:(c.drop j)[0]?=some d:=by rw[e];rfl
   grind
  simp only[aN,List.map_cons];rw[vW h.2 (show c.drop (j+1)=cs by rw[<-List.drop_drop,e];rfl)];congr 1;cases k with
  |int k=>obtain⟨n,_,rfl,_⟩:=h.1.int;grind [kSV,cSV,cI,cV]
  |bool=>obtain⟨n,_,rfl⟩:=h.1.bool;grind [kSV,cSV,cB,cV]
  |str=>obtain⟨n,_,rfl,_⟩:=h.1.str;grind [kSV,cSV,cS,cV]
  |row b q=>obtain⟨l,rfl,_⟩:=h.1.row;grind [kSV,cSV,cR]
 |[],_::_,_,_,h,_=>by simp[CellsA] at h
 |[],[],_::_,_,h,_=>by simp[CellsA] at h
 |_::_,[],_,_,h,_=>by simp[CellsA] at h
 |_::_,_::_,[],_,h,_=>by simp[CellsA] at h
section
variable {ks:KL}{c:CL}
theorem Ty.norm(h:Ty ks c):(aN ks c 0).map cSV=c:=by
 obtain⟨A,H,xs,h⟩:=h;exact vW h rfl
def aSb:Kd->Bool
 |.int .i64=>true
 |.int _=>false
 |_=>true
theorem Ty.i64(h:Ty ks c)(hk:ks.all aSb=true)(j:Nat):I64 (cI c j):=by
 obtain⟨A,H,xs,h⟩:=h;have z:I64 0:=by unfold I64;omega
 cases e:ks[j]? with
 |none=>
  have:c[j]?=none:=by
   rw[List.getElem?_eq_none_iff] at e ⊢;rw[h.len.2];exact e
  grind [cI,cV]
 |some k=>
  have hj:j<ks.length:=(List.getElem?_eq_some_iff.1 e).1;obtain⟨x,hx⟩:∃x,xs[j]?=some x:=⟨_,List.getElem?_eq_getElem (by rw[h.len.1];exact hj)⟩;obtain⟨d,hd⟩:∃d,c[j]?=some d:=⟨_,List.getElem?_eq_getElem (by rw[h.len.2];exact hj)⟩;have ha:=h.at e hx hd;have ho:aSb k=true:=List.all_eq_true.1 hk k (List.mem_of_getElem? e);cases k with
  |int k=>
   cases k<;>first|(cases ho;done)|skip
   exact h.rng_i64 e
  |bool=>obtain⟨n,_,rfl⟩:=ha.bool;grind [cI,cV]
  |str=>obtain⟨n,_,rfl,_⟩:=ha.str;grind [cI,cV]
  |row b q=>obtain⟨l,rfl,_⟩:=ha.row;grind [cI,cV]
theorem Ty.row(h:Ty ks c){j b:Nat}{q:KL}(hk:ks[j]?=some (.row b q)):∀x∈cR c j,Ty q x:=by
 obtain⟨A,H,xs,h⟩:=h;have hj:j<ks.length:=(List.getElem?_eq_some_iff.1 hk).1;obtain⟨x,hx⟩:∃x,xs[j]?=some x:=⟨_,List.getElem?_eq_getElem (by rw[h.len.1];exact hj)⟩;obtain⟨d,hd⟩:∃d,c[j]?=some d:=⟨_,List.getElem?_eq_getElem (by rw[h.len.2];exact hj)⟩;obtain⟨l,a,cap,rfl,rfl,rx⟩:=(h.at hk hx hd).rowD;simp only[cR,hd];intro y hy;obtain⟨i,hi,rfl⟩:=List.getElem_of_mem hy;obtain⟨qx,us,d',_,_,hc,_,kx⟩:=rx.at' i hi;rw[List.getElem?_eq_getElem hi] at hc;cases hc;exact⟨_,_,_,kx⟩
end
theorem okC_1{x:CL}(h:Ty [.int .i64] x):okC 1 x:=⟨h.norm.symm,fun j _=>h.i64 rfl j⟩
theorem okC_2{x:CL}(h:Ty [.int .i64,.int .i64] x):okC 2 x:=⟨h.norm.symm,fun j _=>h.i64 rfl j⟩
theorem okC_5{x:CL}(h:Ty [.int .i64,.int .i64,.int .i64,.int .i64,.int .i64] x):okC 5 x:=⟨h.norm.symm,fun j _=>h.i64 rfl j⟩
theorem okC_7{x:CL}(h:Ty [.int .i64,.int .i64,.int .i64,.int .i64,.int .i64,.int .i64,.int .i64] x):okC 7 x:=⟨h.norm.symm,fun j _=>h.i64 rfl j⟩
theorem bCp{l:LX}(h:∀x∈l,Ty [.int .i64] x):nM l:=by
 unfold nM;rw[List.map_map]
 conv=>lhs;rw[<-List.map_id l]
 exact List.map_congr_left fun x hx=>(h x hx).norm.symm
theorem bDa{l:LX}(h:∀x∈l,Ty [.int .i64,.int .i64,.int .i64,.int .i64] x):nP l:=by
 unfold nP;rw[List.map_map]
 conv=>lhs;rw[<-List.map_id l]
 exact List.map_congr_left fun x hx=>(h x hx).norm.symm
theorem bBj{x:CL}(h:Ty kN x)(hN:NOk x):aOo x:=
 ⟨hN,h.norm.symm,h.i64 rfl,bCp (h.row (j:=11) rfl),bDa (h.row (j:=21) rfl),fun y hy=>okC_1 (h.row (j:=27) rfl y hy),fun y hy=>okC_5 (h.row (j:=29) rfl y hy),fun y hy=>okC_7 (h.row (j:=30) rfl y hy),fun y hy=>okC_2 (h.row (j:=42) rfl y hy)⟩
theorem aZz{c:CL}(h:Ty kD c)(hD:DOk ((aN kD c 0).map cSV)):gF ((aN kD c 0).map cSV):=by
 rw[h.norm] at hD ⊢;obtain⟨h1,h2,h3,h4,h5⟩:=hD
 exact⟨⟨h1,h2,h3,h4,h5⟩,h.norm.symm,h.i64 rfl,fun x hx=>bBj (h.row (j:=3) rfl x hx) (AllB.mem h2 hx),bCp (h.row (j:=7) rfl),fun x hx=>⟨AllB.mem h4 hx,(h.row (j:=8) rfl x hx).norm.symm⟩,
  fun x hx=>⟨AllB.mem h5 hx,(h.row (j:=9) rfl x hx).norm.symm,(h.row (j:=9) rfl x hx).i64 rfl,bDa ((h.row (j:=9) rfl x hx).row (j:=6) rfl)⟩⟩
theorem aXu{P:PG}{tb:TBs}{g:FuncId}(h:∀S:AH,XCall P g [] S fun v H'=>v=.bool true/\Kept S.nx S H'):
 CtrOk P tb g ⟨[],[.sc (.bool)],fun _=>Pr True,fun _ r=>match r with|[.bool true]=>Pr True|_=>Pr False,0,none⟩:=by
 intro S H0 A0 A L0 ss vs qz ap hr _ H hH;cases ap
 match vs,hr with
 |[],_=>
  refine(h H).mono ?_;rintro u H' _ ⟨rfl,hk⟩;refine⟨H0,A,Gr.refl _ _,hH.later hk,[.bool true],[.bool true],.cons ⟨_,rfl⟩ .nil,?_,rfl,Pr.mk trivial⟩;simp only[Reps,Rep,and_self]
 |_::_,hr=>simp only[Reps] at hr
end Go.AM
namespace Go.AM
open Go.RowKit
theorem aBm{a b:Nat}(ha:a<256)(hb:b<256)(h:UInt8.ofNat a=UInt8.ofNat b):a=b:=by
 have:=congrArg UInt8.toNat h
 grind [UInt8.toNat_ofNat']
theorem eU_pf(a:Nat):∀(b:Nat) (x y:BL),eU a++x=eU b++y->a=b/\x=y:=by
 induction a using Nat.strongRecOn with
 |ind a ih=>
  intro b x y h;rcases Nat.lt_or_ge a 128 with ha|ha<;>rcases Nat.lt_or_ge b 128 with hb|hb
  ·rw[tP ha,tP hb] at h;simp only[List.cons_append,List.nil_append,List.cons.injEq] at h;exact⟨aBm (by omega) (by omega) h.1,h.2⟩
  ·rw[tP ha,tN hb] at h;simp only[List.cons_append,List.nil_append,List.cons.injEq] at h;have:=aBm (by omega) (by omega) h.1;omega
  ·grind
  ·rw[tN ha,tN hb] at h;simp only[List.cons_append,List.cons.injEq] at h;have h1:=aBm (by omega) (by omega) h.1
   grind
theorem aLg{a b:Int}{x y:BL}(ha:0<=a)(hb:0<=b)(h:eN a++x=eN b++y):a=b/\x=y:=by
 obtain⟨h1,h2⟩:=eU_pf _ _ x y h
 grind
theorem bDe{s t x y:BL}(h:eT s++x=eT t++y):s=t/\x=y:=by
 rw[eT,eT,QA,QA] at h;obtain⟨h1,h2⟩:=aLg (by omega) (by omega) h
 grind [List.append_inj]
theorem aTp{s t x y:BL}(h:frV s++x=frV t++y):s=t/\x=y:=by
 rw[frV,frV,QA,QA] at h;obtain⟨h1,h2⟩:=bDe h
 simp_all
def hgB:BL:=[73,69,74,49]
def hdB(g:Int):BL:=hgB++frV (eN g)
def rcP(k s:Int)(D:BL):BL:=eN k++(eN s++eT D)
def jrB(D:BL):BL:=hdB 1++frV (rcP 1 1 D)
theorem aMn(g:Int):(hdB g).length=4+(frV (eN g)).length:=by simp[hdB,hgB];omega
theorem kX(D:BL):(jrB D).length=(hdB 1).length+(frV (rcP 1 1 D)).length:=by simp[jrB]
theorem bBq(t:BL):4<=(frV t).length:=by rw[vB];omega
theorem uS(k s:Int)(D:BL):D.length<=(rcP k s D).length:=by simp[rcP,eT];omega
theorem aBt(t:BL):t.length<=(frV t).length:=by simp[frV,eT];omega
theorem aZs{k s k' s':Int}{D D':BL}(h0:0<=k)(h1:0<=k')(h2:0<=s)(h3:0<=s')(h:rcP k s D=rcP k' s' D'):k=k'/\s=s'/\D=D':=by
 obtain⟨a,b⟩:=aLg h0 h1 h;obtain⟨c,d⟩:=aLg h2 h3 b;obtain⟨e,_⟩:=bDe (s:=D) (t:=D') (x:=[]) (y:=[]) (by rw[d]);exact⟨a,c,e⟩
theorem eN1:eN 1=[1]:=bDh (by decide) (by decide)
structure HdPI (j:BL) (g n e:Int):Prop where
 c:∀rest,j=hdB 1++rest->e=0/\g=1
 f:e=0->j=hdB g++j.drop n.toNat/\n=(((hdB g).length:Nat):Int)/\1<=g
def HdP(j:BL)(g n e:Int):Prop:=True->HdPI j g n e
theorem HdP.c{j:BL}{g n e:Int}(h:HdP j g n e):∀rest,j=hdB 1++rest->e=0/\g=1:=(h trivial).c
theorem HdP.f{j:BL}{g n e:Int}(h:HdP j g n e):e=0->j=hdB g++j.drop n.toNat/\n=(((hdB g).length:Nat):Int)/\1<=g:=(h trivial).f
section
variable {J u w T S W:BA}{g n m e e1 e2 a k x z:Int}
theorem aKx{rest:BL}(hw:w.data.toList=J.data.toList.drop k.toNat)(hk:k=4)(h:J.data.toList=hdB 1++rest):w.data.toList=frV (eN 1)++rest:=by
 rw[hw,h,hk];rfl
theorem HdP.nop(h:∀l,¬J.data.toList=u.data.toList++l)(hu:u=⟨#[73,69,74,49]⟩)(he:¬e=0):HdP J.data.toList g n e:=
 fun _=>⟨fun r q=>absurd q (by subst hu;rw[hdB,QA];exact h (frV (eN 1)++r)),fun q=>absurd q he⟩
theorem HdP.op(hw:w.data.toList=J.data.toList.drop k.toNat)(ho:OpP w.data.toList T.data.toList m e1)(ab:¬e1=0)(hk:k=4)(he:¬e=0):HdP J.data.toList g n e:=
 fun _=>⟨fun r q=>absurd (ho.c (eN 1) r (by rw[eN1];decide) (aKx hw hk q)).2.2 ab,fun q=>absurd q he⟩
theorem vA{rest:BL}(hw:w.data.toList=J.data.toList.drop k.toNat)(ho:OpP w.data.toList T.data.toList m e1)(hu:UP T 0 0 x a e2)(hk:k=4)(q:J.data.toList=hdB 1++rest):x=1/\RdB T a []/\e2=0:=by
 have h1:=(ho.c (eN 1) rest (by rw[eN1];decide) (aKx hw hk q)).1;exact hu.c 1 [] (by decide) (by decide) (by grind [RdB]) rfl
theorem HdP.ue(hw:w.data.toList=J.data.toList.drop k.toNat)(ho:OpP w.data.toList T.data.toList m e1)(hu:UP T 0 0 x a e2)(jr:¬e2=0)(hk:k=4)(he:¬e=0):HdP J.data.toList g n e:=
 fun _=>⟨fun r q=>absurd (vA hw ho hu hk q).2.2 jr,fun q=>absurd q he⟩
theorem aWz(h:RdB T a [])(h0:0<=a):((T.data.toList.length:Nat):Int)<=a:=by
 have:=List.drop_eq_nil_iff.1 h;omega
theorem HdP.lf(hw:w.data.toList=J.data.toList.drop k.toNat)(ho:OpP w.data.toList T.data.toList m e1)(hu:UP T 0 0 x a e2)(h0:0<=a)(h1:a<((T.data.toList.length:Nat):Int))(hk:k=4)(he:¬e=0):HdP J.data.toList g n e:=
 fun _=>⟨fun r q=>by have:=aWz (vA hw ho hu hk q).2.1 h0;omega,fun q=>absurd q he⟩
theorem HdP.rg(hw:w.data.toList=J.data.toList.drop k.toNat)(ho:OpP w.data.toList T.data.toList m e1)(hu:UP T 0 0 x a e2)(hx:¬x=1)(hk:k=4)(he:¬e=0):HdP J.data.toList g n e:=
 fun _=>⟨fun r q=>absurd (vA hw ho hu hk q).1 hx,fun q=>absurd q he⟩
theorem HdP.ok(hp:∃l,J.data.toList=u.data.toList++l)(xf:u=⟨#[73,69,74,49]⟩)(hw:w.data.toList=J.data.toList.drop k.toNat)(ho:OpP w.data.toList T.data.toList m e1)(hu:UP T 0 0 x a e2)(ab:e1=0)(jr:e2=0)(h0:0<=a)(h1:((T.data.toList.length:Nat):Int)<=a)(hk:k=4)(hg:g=x)(hx:1<=x)(hn:n=4+m):HdP J.data.toList g n 0:=by
 refine fun _=>⟨fun r q=>⟨rfl,hg.trans (vA hw ho hu hk q).1⟩,fun _=>?_⟩;obtain⟨l,hl⟩:=hp;subst xf;subst hg;subst hk;obtain⟨o1,o2⟩:=ho.f ab;have h2:=(hu.s jr).2;unfold RdB at h2;rw[show(0:Int).toNat=0 from rfl,List.drop_zero,List.drop_of_length_le (i:=a.toNat) (by omega),List.append_nil] at h2
 grind [hgB,aMn,Nat.add_comm,List.drop_drop,hdB,QA]
end
structure RcPI (s:BL) (q k sq:Int) (D:BL) (n e:Int):Prop where
 c:∀D' rest,q=1->(((rcP 1 1 D').length:Nat):Int)<=1048576->s=frV (rcP 1 1 D')++rest->e=0
 f:e=0->s=frV (rcP k q D)++s.drop n.toNat/\n=(((frV (rcP k q D)).length:Nat):Int)/\sq=q/\0<=k
def RcP(s:BL)(q k sq:Int)(D:BL)(n e:Int):Prop:=True->RcPI s q k sq D n e
theorem RcP.c{s:BL}{q k sq:Int}{D:BL}{n e:Int}(h:RcP s q k sq D n e):∀D' rest,q=1->(((rcP 1 1 D').length:Nat):Int)<=1048576->s=frV (rcP 1 1 D')++rest->e=0:=(h trivial).c
theorem RcP.f{s:BL}{q k sq:Int}{D:BL}{n e:Int}(h:RcP s q k sq D n e):e=0->s=frV (rcP k q D)++s.drop n.toNat/\n=(((frV (rcP k q D)).length:Nat):Int)/\sq=q/\0<=k:=(h trivial).f
section
variable {S T W:BA}{g n m e e0 e1 e2 e3 a b p k k' s s' q x z:Int}
theorem uN{D' rest:BL}(ho:OpP S.data.toList T.data.toList m e0)(h1:UP T 0 0 x a e1)(h2:UP T a e1 z b e2)(h3:TP T (max 1048576 0) b e2 W.data.toList p e3)(hl:(((rcP 1 1 D').length:Nat):Int)<=1048576)(h:S.data.toList=frV (rcP 1 1 D')++rest):
 e0=0/\x=1/\z=1/\RdB T p []/\e3=0:=by
 obtain⟨o1,_,o3⟩:=ho.c _ rest hl h;obtain⟨x1,x2,x3⟩:=h1.c 1 (eN 1++eT D') (by decide) (by decide) (by unfold RdB;exact o1) rfl;obtain⟨z1,z2,z3⟩:=h2.c 1 (eT D') (by decide) (by decide) x2 x3;have:=uS 1 1 D';obtain⟨w1,w2,w3⟩:=h3.c D' [] (by omega) (by simp_all) z3
 simp_all
variable (ho:OpP S.data.toList T.data.toList m e0)
include ho
theorem RcP.op{D:BL}(jz:¬e0=0)(he:¬e=0):RcP S.data.toList q k s D n e:=
 fun _=>⟨fun D' rest _ hl h=>absurd (ho.c _ rest hl h).2.2 jz,fun k=>absurd k he⟩
variable (h1:UP T 0 0 x a e1)(h2:UP T a e1 z b e2)(h3:TP T (max 1048576 0) b e2 W.data.toList p e3)
include h1 h2 h3
theorem RcP.er{D:BL}(jz:¬e3=0)(he:¬e=0):RcP S.data.toList q k s D n e:=
 fun _=>⟨fun D' rest _ hl h=>absurd (uN ho h1 h2 h3 hl h).2.2.2.2 jz,fun k=>absurd k he⟩
theorem RcP.lf{D:BL}(h0:0<=p)(hp:p<((T.data.toList.length:Nat):Int))(he:¬e=0):RcP S.data.toList q k s D n e:=
 fun _=>⟨fun D' rest _ hl h=>by have:=aWz (uN ho h1 h2 h3 hl h).2.2.2.1 h0;omega,fun k=>absurd k he⟩
theorem RcP.kd{D:BL}(hx:¬x=1)(he:¬e=0):RcP S.data.toList q k s D n e:=
 fun _=>⟨fun D' rest _ hl h=>absurd (uN ho h1 h2 h3 hl h).2.1 hx,fun k=>absurd k he⟩
theorem RcP.sq{D:BL}(hx:¬z=q)(he:¬e=0):RcP S.data.toList q k s D n e:=
 fun _=>⟨fun D' rest hq hl h=>absurd (uN ho h1 h2 h3 hl h).2.2.1 (by omega),fun k=>absurd k he⟩
theorem RcP.ok(jz:e0=0)(bp:e3=0)(h0:0<=p)(hp:((T.data.toList.length:Nat):Int)<=p)(hk:k=x)(hz:z=q)(hs:s=q)(hn:n=m)(hx:0<=x):RcP S.data.toList q k s W.data.toList n 0:=by
 refine fun _=>⟨fun D' rest _ hl h=>rfl,fun _=>?_⟩;obtain⟨o1,o2⟩:=ho.f jz;obtain⟨a3,b3⟩:=h3.s bp;obtain⟨a2,b2⟩:=h2.s a3;obtain⟨_,b1⟩:=h1.s a2;unfold RdB at b1 b2 b3;rw[List.drop_of_length_le (i:=p.toNat) (by omega),List.append_nil] at b3;rw[b3] at b2;rw[b2,show(0:Int).toNat=0 from rfl,List.drop_zero] at b1
 grind [rcP]
end
def rcC(S:BA):CL:=[.v (.int .i64 1),.v (.int .i64 1),.v (.string S)]
def rdS(c:CL):Prop:=(((cS c 2).data.toList.length:Nat):Int)<=1099511627776
theorem bDq{D:BA}{a b:IntKind}{k s:Int}(h:((D.data.toList.length:Nat):Int)<=1099511627776):rdS (List.map cSV [.int a k,.int b s,.str D]):=h
def SjP(j:BL)(l:LX)(a:Int):Prop:=∀(S:BA) (x:BL),(((jrB S.data.toList).length:Nat):Int)<=1048576->jrB S.data.toList=j++x->(l=[]/\a=(((hdB 1).length:Nat):Int))\/(l=[rcC S]/\a=(((jrB S.data.toList).length:Nat):Int)/\x=[])
def ScP(j:BL)(g:Int)(l:LX):Prop:=∀(S:BA) (x:BL),(((jrB S.data.toList).length:Nat):Int)<=1048576->jrB S.data.toList=j++x->(l=[]\/(l=[rcC S]/\x=[]))/\(x=[]->g=1/\l=[rcC S])
section
variable {J W D:BA}{g n e a b k s q m z:Int}{l l':LX}{c:CL}
theorem aTk{S:BA}{x:BL}(h:HdP J.data.toList g n e)(he:e=0)(hj:jrB S.data.toList=J.data.toList++x):g=1/\n=(((hdB 1).length:Nat):Int):=by
 obtain⟨h1,h2,h3⟩:=h.f he;rw[h1,jrB,hdB,hdB,QA,QA,QA] at hj;have hj:=List.append_cancel_left hj;obtain⟨k1,k2⟩:=aTp hj;obtain⟨k3,_⟩:=aLg (a:=1) (b:=g) (x:=[]) (y:=[]) (by decide) (by omega) (by rw[k1])
 grind
theorem SjP.init(h:HdP J.data.toList g n e)(he:e=0):SjP J.data.toList [] n:=fun S x _ hj=>.inl ⟨rfl,(aTk h he hj).2⟩
theorem aKy{S:BA}{x:BL}(hj:jrB S.data.toList=J.data.toList++x)(hb:b=(((hdB 1).length:Nat):Int))(hl:b<=((J.data.toList.length:Nat):Int)):frV (rcP 1 1 S.data.toList)=J.data.toList.drop b.toNat++x:=by
 have:=congrArg (List.drop b.toNat) hj
 grind [jrB,List.drop_left']
theorem SjP.step(h:SjP J.data.toList l b)(hb:b<((J.data.toList.length:Nat):Int))(hw:W.data.toList=J.data.toList.drop b.toNat)(hr:RcP W.data.toList q k s D.data.toList m e)(he:e=0)(hq:q=((l.length:Nat):Int)+1){l2:LX}(mc:l'=l++l2)(hm:l2=List.map (fun x=>List.map cSV x) [[.int .i64 k,.int .i64 s,.str D]])(ha:a=b+m):SjP J.data.toList l' a:=fun S x hS hj=>by
 have hl:l'=l++[[.v (.int .i64 k),.v (.int .i64 s),.v (.string D)]]:=by rw[mc,hm];rfl
 rcases h S x hS hj with⟨rfl,h1⟩|⟨_,h1,rfl⟩
 ·right;have e1:=aKy hj h1 (Int.le_of_lt hb);rw[<-hw] at e1;obtain⟨r1,r2,r3,r4⟩:=hr.f he;simp only[List.length_nil] at hq;have hq:q=1:=by omega
  subst hq;rw[r1,QA] at e1;obtain⟨k1,k2⟩:=aTp (y:=W.data.toList.drop m.toNat++x) (x:=[]) (by rw[List.append_nil];exact e1);have hx:x=[]:=(List.append_eq_nil_iff.1 k2.symm).2;obtain⟨i1,_,i3⟩:=aZs (by decide) r4 (by decide) (by decide) k1
  grind [aLs,rcC,kX]
 simp_all
theorem ScP.hd(h:HdP J.data.toList k n e)(he:¬e=0):ScP J.data.toList g []:=fun S x _ hj=>⟨.inl rfl,fun hx=>by
 rw[hx,List.append_nil] at hj;exact absurd (h.c _ hj.symm).1 he⟩
theorem ScP.er(hh:HdP J.data.toList g n z)(hz:z=0)(h:SjP J.data.toList l b)(hb:b<((J.data.toList.length:Nat):Int))(hw:W.data.toList=J.data.toList.drop b.toNat){D:BL}(hr:RcP W.data.toList q k s D m e)(he:¬e=0)(hq:q=((l.length:Nat):Int)+1):ScP J.data.toList g l:=fun S x hS hj=>by
 refine⟨(h S x hS hj).imp (fun q=>q.1) fun q=>⟨q.1,q.2.2⟩,fun hx=>?_⟩;rcases h S x hS hj with⟨rfl,h1⟩|⟨_,h1,_⟩
 ·have e1:=aKy hj h1 (Int.le_of_lt hb);rw[hx,List.append_nil,<-hw] at e1;simp only[List.length_nil] at hq;have:=aBt (rcP 1 1 S.data.toList);rw[kX] at hS;exact absurd (hr.c S.data.toList [] (by omega) (by omega) (by simp_all)) he
 simp_all
theorem ScP.done(hh:HdP J.data.toList g n z)(hz:z=0)(h:SjP J.data.toList l b)(hb:((J.data.toList.length:Nat):Int)<=b):ScP J.data.toList g l:=fun S x hS hj=>by
 refine⟨(h S x hS hj).imp (fun q=>q.1) fun q=>⟨q.1,q.2.2⟩,fun hx=>⟨(aTk hh hz hj).1,?_⟩⟩;rcases h S x hS hj with⟨rfl,h1⟩|⟨h0,_,_⟩
 ·rw[hx,List.append_nil] at hj;have e1:=kX S.data.toList;have e2:=bBq (rcP 1 1 S.data.toList)
  grind
 ·exact h0
end
theorem hd_of{u f w:BA}{t:BL}{g:Int}(hw:w.data.toList=u.data.toList++f.data.toList)(hu:u=⟨#[73,69,74,49]⟩)(hf:f.data.toList=frV t)(ht:t=eN g):w.data.toList=hdB g:=by
 rw[hw,hu,hf,ht];rfl
theorem rc_of{a b c d e f:BA}{k s:Int}{D:BL}(hf:f.data.toList=frV e.data.toList)(he:e.data.toList=d.data.toList++c.data.toList)(hd:d.data.toList=a.data.toList++b.data.toList)(ha:a.data.toList=eN k)(hb:b.data.toList=eN s)(hc:c.data.toList=eT D):f.data.toList=frV (rcP k s D):=by
 grind [rcP,QA]
theorem bEm{a b c d e:BA}{k s:Int}{D:BL}(he:e.data.toList=d.data.toList++c.data.toList)(hd:d.data.toList=a.data.toList++b.data.toList)(ha:a.data.toList=eN k)(hb:b.data.toList=eN s)(hc:c.data.toList=eT D):e.data.toList.length=(rcP k s D).length:=by
 grind [rcP,QA]
theorem jr_of{u v w:BA}{D:BL}{c:CL}(hw:w.data.toList=u.data.toList++v.data.toList)(hu:u.data.toList=hdB 1)(hv:v.data.toList=frV (rcP 1 1 D))(hD:D=enV c):w.data.toList=jrB (enV c):=by
 rw[hw,hu,hv,hD];rfl
def ExP(chi:CL->Int)(j:BL)(g:Int)(l:LX)(c:CL)(ok:Bool):Prop:=∀d,gF d->chi d=0->∀S:BA,S.data.toList=enV d->(((jrB S.data.toList).length:Nat):Int)<=1048576->∀x,jrB S.data.toList=j++x->
 (ok=true->x=[]/\g=1/\l=[rcC S]/\c=d)/\(x=[]->ok=true)
section
variable {chi:CL->Int}{J D S:BA}{g g' e k:Int}{l l':LX}{c c' x d:CL}
theorem aKu(h:∀d,gF d->chi d=0->∀S:BA,S.data.toList=enV d->(((jrB S.data.toList).length:Nat):Int)<=1048576->jrB S.data.toList=J.data.toList->False):ExP chi J.data.toList g l c false:=
 fun d h1 h2 S h3 h4 x h5=>⟨fun q=>(nomatch q),fun hx=>(h d h1 h2 S h3 h4 (by simp_all)).elim⟩
theorem ScP.all(h:ScP J.data.toList g l)(hS:(((jrB S.data.toList).length:Nat):Int)<=1048576)(hj:jrB S.data.toList=J.data.toList):g=1/\l=[rcC S]:=(h S [] hS (by simp_all)).2 rfl
theorem ExP.gn(h:ScP J.data.toList g' l')(hg:g'<1):ExP chi J.data.toList g l c false:=aKu fun d _ _ S _ hS hj=>by
 have:=(h.all hS hj).1;omega
theorem ExP.ln(h:ScP J.data.toList g' l')(hl:((l'.length:Nat):Int)=0):ExP chi J.data.toList g l c false:=aKu fun d _ _ S _ hS hj=>by
 rw[(h.all hS hj).2] at hl;simp at hl
theorem ExP.kn(h:ScP J.data.toList g' l')(hc:elC l' 0=c')(hk:¬cI c' 0=1):ExP chi J.data.toList g l c false:=aKu fun d _ _ S _ hS hj=>by
 rw[(h.all hS hj).2] at hc;subst hc;exact hk rfl
theorem ExP.dn(h:ScP J.data.toList g' l')(hc:elC l' 0=c')(hd:DcP chi (cS c' 2).data.toList x e)(he:¬e=0):ExP chi J.data.toList g l c false:=aKu fun d h1 h2 S h3 hS hj=>by
 rw[(h.all hS hj).2] at hc;subst hc;have e1:cS (elC [rcC S] 0) 2=S:=rfl;rw[e1] at hd;refine he (hd d h1 h2 h3 ?_).1
 grind [uS,aBt,rcP,kX]
theorem ExP.ok(h:ScP J.data.toList g l)(hc:elC l 0=c')(hl:¬((l.length:Nat):Int)=0)(hd:DcP chi (cS c' 2).data.toList c e)(he:e=0):ExP chi J.data.toList g l c true:=fun d h1 h2 S h3 hS x hj=>by
 refine⟨fun _=>?_,fun _=>rfl⟩;rcases(h S x hS hj).1 with ye|⟨ut,hx⟩
 ·simp_all
 ·refine⟨hx,((h S x hS hj).2 hx).1,ut,?_⟩;subst ut;subst hc;have e1:cS (elC [rcC S] 0) 2=S:=rfl;rw[e1] at hd;refine(hd d h1 h2 h3 ?_).2
  grind [uS,aBt,rcP,kX]
def rcQ(c:CL):Prop:=cI c 0=1/\cI c 1=1/\(((rcP (cI c 0) (cI c 1) (cS c 2).data.toList).length:Nat):Int)<=1048576/\(((cS c 2).data.toList.length:Nat):Int)<=1048576
variable {W:BA}
theorem aVx{ok:Bool}(h:ExP chi W.data.toList g l c ok)(hd:gF d)(hc:chi d=0)(hJ:J.data.toList=jrB (enV d))(hl:((J.data.toList.length:Nat):Int)<=1048576)(hW:W.data.toList=J.data.toList.take k.toNat):
 (ok=true->W.data.toList.length=J.data.toList.length/\g=1/\l.length=1/\AllB rcQ l 1/\c=d)/\(W.data.toList.length=J.data.toList.length->ok=true):=by
 have e0:(ByteArray.mk ⟨enV d⟩).data.toList=enV d:=rfl;obtain⟨h1,h2⟩:=h d hd hc ⟨⟨enV d⟩⟩ rfl (by simp_all) (J.data.toList.drop k.toNat) (by simp_all);refine⟨fun q=>?_,fun q=>h2 ?_⟩
 ·obtain⟨a1,a2,a3,a4⟩:=h1 q;have e1:W.data.toList=J.data.toList:=by
   grind [List.take_append_drop]
  refine⟨by rw[e1],a2,by rw[a3];rfl,?_,a4⟩;intro i i0 i1;have:i=0:=by omega
  subst this;rw[a3];have b1:=uS 1 1 (enV d);have b2:=aBt (rcP 1 1 (enV d));have b3:=congrArg List.length hJ;rw[kX] at b3;refine⟨rfl,rfl,?_,?_⟩
  ·show(((rcP 1 1 (enV d)).length:Nat):Int)<=_;omega
  ·show(((enV d).length:Nat):Int)<=_;omega
 grind [List.length_take,List.drop_eq_nil_iff]
theorem bEg{u:BA}(h:ExP chi u.data.toList g l c true)(hu:u.data.toList=(ByteArray.mk #[]).data.toList)(hd:gF d)(hc:chi d=0)(hJ:J.data.toList=jrB (enV d))(hl:((J.data.toList.length:Nat):Int)<=1048576):False:=by
 rw[hu] at h;have e0:(ByteArray.mk ⟨enV d⟩).data.toList=enV d:=rfl;have:=((h d hd hc ⟨⟨enV d⟩⟩ rfl (by simp_all) (jrB (enV d)) rfl).1 rfl).1;have b:=congrArg List.length this
 grind [kX,aMn]
theorem bEt{X Y Z:CL}(h:gF Y->Z=Y)(e:Y=X)(o:gF X):Z=X:=(h (e▸o)).trans e
theorem bDk{X Y:CL}{r:Int}(h:r=chi Y)(e:Y=X)(o:chi X=0):r=0:=by rw[h,e,o]
end
end Go.AM
namespace Go.AM
open Go.RowKit
theorem aKt{R:LX}{x:CL}{t k:Int}(h0:0<=t)(h1:t<((R.length:Nat):Int))(hk:0<=k):elC (R.set t.toNat x) k=if k=t then x else elC R k:=by
 unfold elC
 grind
theorem pH{α:Type}{l l1 l2:LX}{f:α->List CT}(h:l=l1++l2)(h1:l1=List.map f []):l=l2:=by rw[h,h1];rfl
def NJ(R R0:LX)(t:Int):Prop:=∀k:Int,0<=k->(k<t->elC R k=(aN kN (elC R0 k) 0).map cSV)/\(elC R k).length<=43
section
variable {R R' R0:LX}{Z c:CL}{Zs Xs:SL}{t n:Int}{m:Nat}
theorem NJ.init{k:Nat}(hR:R=List.replicate k Z)(hZ:Z.length=43):NJ R R0 0:=fun j h0=>⟨fun h=>absurd h (by omega),by
 grind [elC]⟩
theorem NJ.step(h:NJ R R0 t)(h0:0<=t)(h1:t<((R.length:Nat):Int))(hc:elC R0 t=c)(hz:Zs.map cSV=Xs.map cSV)(hx:Xs=aN kN c 0)(hm:m=43)
 (hr:R'=R.set t.toNat ((elC R t).take 0++(Zs.map cSV++(elC R t).drop m))):NJ R' R0 (t+1):=fun k hk=>by
 have e:(elC R t).take 0++(Zs.map cSV++(elC R t).drop m)=(aN kN c 0).map cSV:=by
  rw[List.take_zero,List.nil_append,hz,hx,List.drop_of_length_le (by rw[hm];exact(h t h0).2),List.append_nil]
 rw[e] at hr;rw[hr,aKt h0 h1 hk];by_cases ek:k=t
 ·subst ek;rw[if_pos rfl,hc];exact⟨fun _=>rfl,Nat.le_refl 43⟩
 ·rw[if_neg ek];exact⟨fun h2=>(h k hk).1 (by omega),(h k hk).2⟩
theorem aLc(hl:R.length=R0.length)(h:∀k:Int,0<=k->k<((R0.length:Nat):Int)->elC R k=elC R0 k):R=R0:=by
 apply List.ext_getElem?;intro i;rcases Nat.lt_or_ge i R0.length with hi|hi
 ·have:=h i (by omega) (by omega);unfold elC at this
  simp_all
 simp_all
theorem NJ.all{d:CL}(h:NJ R R0 t)(ht:((R0.length:Nat):Int)<=t)(hl:((R.length:Nat):Int)=((R0.length:Nat):Int))(hd:gF d)(e:cR d 3=R0):R=R0:=by
 refine aLc (by omega) fun k h0 h1=>?_;rw[(h k h0).1 (by omega)];have:elC R0 k∈R0:=by
  grind [elC,List.getElem?_eq_getElem,List.getElem_mem]
 exact(hd.2.2.2.1 _ (e▸this)).2.1.symm
def LJ(R R0:LX):Prop:=(∀x∈R0,aPx x)->R=R0
theorem LJ.init(h:R=R0):LJ R R0:=fun _=>h
theorem LJ.step{b:Nat}{ks:KL}(h:LJ R R0)(h0:0<=t)(h1:t<((R.length:Nat):Int))(hc:elC R0 t=c)(hq:Zs=[.row b ks (cR c 6)])(hm:m=7)
 (hr:R'=R.set t.toNat ((elC R t).take 6++(Zs.map cSV++(elC R t).drop m))):LJ R' R0:=fun ho=>by
 have e:=h ho;subst e;have zy:c∈R:=by
  grind [elC,List.getElem?_eq_getElem,List.getElem_mem]
 have hk:=(ho c zy).2.1;have e2:(elC R t).take 6++(Zs.map cSV++(elC R t).drop m)=elC R t:=by
  rw[hc,hm,hq]
  conv=>rhs;rw[hk]
  conv=>lhs;rw[hk]
  rfl
 rw[hr,e2];refine aLc (by simp) fun k k0 k1=>?_
 grind [aKt]
theorem LJ.all{d:CL}(h:LJ R R0)(hd:gF d)(e:cR d 9=R0):R=R0:=h fun x hx=>hd.2.2.2.2.2.2 x (e▸hx)
end
def gCl(k j:Nat)(fr:FR)(hp:HP)(K:Int->Prop):Prop:=match bP k fr with
 |some (.fn _ cs)=>(match atS cs j with
  |some (.ptr i 0)=>(match hget i hp with
   |some (.box _ (.int _ n::_))=>K n
   |_=>False)
  |_=>False)
 |_=>False
theorem bAy{R:LX}{c:CL}{t d:Int}(h:0<t->¬cI (elC R 0) 0=d)(hc:elC R t=c)(hn:¬cI c 0=d)(ht:0<=t):0<t+1->¬cI (elC R 0) 0=d:=fun _ q=>by
 grind
theorem bCc{a b:BA}{x y:SL}(h:EqX (.str a::x) (.str b::y)):a.data.toList.length=b.data.toList.length:=by rw[h.h.1]
theorem tk_B{f:CL->Prop}{l:LX}(h:AllB f l 1)(e:(((l.take (Int.toNat 1)).length:Nat):Int)=1):AllB f (l.take (Int.toNat 1)) (((l.take (Int.toNat 1)).length:Nat):Int):=by rw[e];exact h.take (n:=Int.toNat 1) (by decide)
end Go.AM
