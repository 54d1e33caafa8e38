/-
  What is said of the functions.
-/
import Derived.Test.YtfcmggoiphphnaaGreatDoorT0
import Derived.Test.YtfcmggoiphphnaaGreatDoorKc
import Derived.Test.YtfcmggoiphphnaaGreatDoorAb14
set_option linter.unusedVariables false
set_option linter.unusedSimpArgs false
set_option maxRecDepth 100000
namespace Go.Proofs.YtfcmggoiphphnaaGreatDoor
open Go Go.AM Tryz
def k106:Ctr:=tc [] [.sc i6]
def k117:Ctr:=⟨[.sc i6],[.sc (.bool)],fun _=>Pr True,fun a r=>match a,r with|[.int _ a],[.bool true]=>Pr (0<=a/\a<=65535)|[.int _ a],[.bool false]=>Pr (¬(0<=a/\a<=65535))|_,_=>Pr False,0,none⟩
def k109:Ctr:=tc [.ag kNo] [.sc (.bool)]
def k194:Ctr:=tc [.sc i6] [.sc (.str)]
def k195:Ctr:=⟨[.sc (.str)],[.sc (.bool)],fun _=>Pr True,fun a r=>match r with|[.bool true]=>rS 0 a fun n=>Pr (n<=32)|_=>Pr True,0,none⟩
def k196:Ctr:=tc [.sc i6] [.sc (.bool)]
def k197:Ctr:=tc [.sc i6] [.sc (.bool)]
def k198:Ctr:=tc [.sc i6] [.sc (.bool)]
def k149:Ctr:=tc [.sc i6] [.sc (.bool)]
def k29:Ctr:=⟨[.sc i6,.sc i6,.sc i6],[.sc i6],fun _=>Pr True,fun a r=>rI 1 a fun a1=>rI 2 a fun a2=>rI 0 r fun r0=>rI 0 a fun a0=>Pr (a1<=a2->a1<=r0/\r0<=a2/\(a1<=a0/\a0<=a2->r0=a0)/\(a2<a0->r0=a2)/\(a0<a1->r0=a1)),0,none⟩
def k244:Ctr:=tc [.sc i6,.sc i6] [.sc i6]
def k152:Ctr:=tc [.sc i6] [.sc (.bool)]
def k153:Ctr:=tc [.sc i6] [.sc (.bool)]
def k157:Ctr:=⟨[.sc i6,.sc i6],[.sc (.bool)],fun _=>Pr True,fun a r=>match a,r with|[.int _ w,.int _ h],[.bool true]=>Pr ((0<=w/\w<=256)/\(0<=h/\h<=256)/\(w=0↔h=0))|[.int _ w,.int _ h],[.bool false]=>Pr (¬((0<=w/\w<=256)/\(0<=h/\h<=256)/\(w=0↔h=0)))|_,_=>Pr False,0,none⟩
def k284:Ctr:=⟨[.sc i6,.sc i6],[.sc (.bool)],fun _=>Pr True,fun a r=>match a,r with|[_,.int _ b],[.bool true]=>Pr (3<=b/\b<=4)|_,_=>Pr True,0,none⟩
def k286:Ctr:=⟨[.sc i6],[.sc i6],fun _=>Pr True,fun _ r=>match r with|[.int _ r]=>Pr (0<=r/\r<=3)|_=>Pr True,0,none⟩
def k288:Ctr:=tc [.ag [i6,i6]] [.sc (.bool)]
def i320:CtrI:=⟨[.d (.ag [i6,i6]),.bx 65 [.ow 16 [i6,i6]]],[],fun _ hp=>oL 1 hp fun n=>Pr (1<=n/\n<=1099511627776),fun _ hp _ hq=>oL 1 hp fun n=>oL 1 hq fun m=>Pr (n<=m/\m<=n+1)⟩
def k320:Ctr:=⟨[],[],fun _=>True,fun _ _=>True,0,some (.ctr i320)⟩
def k251:Ctr:=⟨[.sc (.row 24 [.row 16 [i6,i6]]),.sc i6],[.sc i6],fun _=>Pr True,fun a r=>rL 0 a fun n=>rR 0 a fun l=>rI 0 r fun r=>Pr (r=0->AllB (fun c=>(cR c 0).length<=4096) l n),0,none⟩
def k290:Ctr:=tc [.sc i6,.sc i6,.sc i6] [.sc i6]
def k321:Ctr:=⟨[.sc (.row 16 [i6,i6]),.sc (.bool)],[.sc (.row 16 [i6,i6])],fun a=>rL 0 a fun la0=>Pr (la0<=16777216),fun a r=>rL 0 r fun lr0=>rL 0 a fun la0=>Pr (lr0<=la0),0,none⟩
def k326:Ctr:=tc [.ag [i6,i6],.ag [i6,i6]] [.ag [i6,i6]]
def k413:Ctr:=tc [.sc (.int .u64),.sc (.int .u64)] [.sc (.int .u64),.sc (.int .u64)]
def k414:Ctr:=tc [.sc i6] [.sc (.int .u64)]
def k415:Ctr:=tx 1
def i372:CtrI:=⟨[.own 16 [i6,i6] true],[.d (.sc i6)],fun _ _=>Pr True,fun a hp r hq=>rI 0 r fun r0=>oL 0 hp fun lo0=>oL 0 hq fun lo0n=>Pr ((r0≠0->1<=lo0)/\lo0n=lo0)⟩
def k372:Ctr:=⟨[],[],fun _=>True,fun _ _=>True,0,some (.ctr i372)⟩
def i373:CtrI:=⟨[.own 16 [i6,i6] true],[],fun _ _=>Pr True,fun _ hp _ hq=>oL 0 hp fun n=>oL 0 hq fun m=>Pr (m=n)⟩
def k373:Ctr:=⟨[],[],fun _=>True,fun _ _=>True,0,some (.ctr i373)⟩
def k325:Ctr:=tc [.ag [i6,i6],.ag [i6,i6]] [.ag [i6,i6]]
def k330:Ctr:=tc [.sc i6,.sc i6,.sc i6] [.sc (.bool)]
def k376:Ctr:=tc [.ag [.int .u8,.int .u8,i6],.ag [.int .u8,.int .u8,i6]] [.sc (.bool)]
def w293:IW:=bI E TT [] TB [(4,⟨[1,3,14,15],[(4,none),(16,none)],[],[],[],[],[],fun f0 h0 fr hp=>gI 16 fr fun t16=>gI 15 fr fun t15=>gI 4 fr fun t4=>gL 14 fr hp fun len14=>Pr (0<=t16/\t16<=t15/\(-1<=t4/\t4<len14)),.sub (.sl 15) (.sl 16),0⟩),(10,⟨[1,3,4],[(26,none)],[3],[],[],[],[],fun f0 h0 fr hp=>gI 26 fr fun t26=>Pr (0<=t26),.sub (.cst 256) (.sl 26),257⟩),(15,⟨[3,37,38],[(39,none)],[3],[],[(3,5,256,.cst (-1),.sub (.ln 37) (.cst 1))],[],[],fun f0 h0 fr hp=>gI 39 fr fun t39=>gI 38 fr fun t38=>gBL 3 3 fr hp fun lenB3_3=>gBL 3 3 f0 h0 fun lenB3_3e=>Pr (0<=t39/\t39<=t38/\(lenB3_3=lenB3_3e)),.sub (.sl 38) (.sl 39),0⟩)] ⟨[(17,([3],false))],[],[],[],[]⟩ f293
def k293:Ctr:=⟨[],[],fun _=>True,fun _ _=>True,0,some (.inl w293)⟩
def k380:Ctr:=tx 2
def k501:Ctr:=tc [.sc i6] [.sc i6]
def k463:Ctr:=tx 3
def i334:CtrI:=⟨[.bxr 420 [.d i6,.d i6,.d i6,.d (.row 40 [.int .u8,i6,.row 56 [i6,i6,i6,i6,i6,i6,i6]]),.d (.row 16 [.int .u8,.int .u8,i6])] 256,.d (.sc i6),.d (.sc i6)],[.d (.sc i6)],fun a hp=>rI 1 a fun a1=>oCL 0 3 hp fun lq0_3=>rI 2 a fun a2=>Pr (0<=a1/\a1<lq0_3/\0<=a2/\a2<lq0_3),fun _ _ _ _=>Pr True⟩
def k334:Ctr:=⟨[],[],fun _=>True,fun _ _=>True,0,some (.ctr i334)⟩
def k338:Ctr:=⟨[.sc i6,.sc i6,.sc i6,.sc i6],[.sc (.row 56 [i6,i6,i6,i6,i6,i6,i6])],fun _=>Pr True,fun a r=>rL 0 r fun lr0=>Pr (lr0<=8),0,none⟩
def k255:Ctr:=⟨[.sc i6,.sc i6],[.sc (.bool)],fun _=>Pr True,fun a r=>match a,r with|[.int _ a,.int _ b],[.bool true]=>Pr ((a=2->2<=b)/\(a=9->3<=b)/\b<=16)|_,_=>Pr True,0,none⟩
def k299:Ctr:=tc [.sc i6,.sc i6] [.sc i6,.sc i6]
def k257:Ctr:=⟨[.sc i6,.sc (.row 8 [i6]),.sc (.row 40 [i6,i6,i6,i6,i6])],[.sc (.bool)],fun a=>match a with|[.int _ a,.row _ _ l,_]=>Pr (a=2->2<=l.length)|_=>Pr True,fun _ _=>Pr True,0,none⟩
def k258:Ctr:=⟨[.sc i6],[.sc (.row 16 [i6,i6])],fun _=>Pr True,fun a r=>rL 0 r fun lr0=>Pr (lr0<=2),0,none⟩
def k208:Ctr:=⟨[.ag [i6,i6,i6,.row 16 [i6,i6]]],[.sc i6],fun _=>Pr True,fun a r=>rI 0 r fun r0=>rcL 0 3 a fun lc0_3=>Pr (r0=0->lc0_3<=64),0,none⟩
def k155:Ctr:=⟨[.ag kNo],[.sc (.bool)],fun _=>Pr True,fun a r=>match r with|[.bool true]=>rcI 0 19 a fun w=>rcI 0 20 a fun h=>rcL 0 21 a fun l=>rcL 0 27 a fun p=>rcL 0 29 a fun s=>rcL 0 30 a fun g=>rcS 0 35 a fun t=>rcL 0 42 a fun d=>Pr (w=0/\h=0/\l=0/\p=0/\s=0/\g=0/\t=0/\d=0)|_=>Pr True,0,none⟩
def w108:IW:=bI E TT [] TB [(2,⟨[1,2,3],[(7,none)],[],[],[],[],[],fun f0 h0 fr hp=>gI 7 fr fun t7=>gM 1 fr hp fun M1=>Pr (t7=0\/aXv M1 t7),.mp 1 7,0⟩)] dr0 f108
def k108:Ctr:=⟨[],[],fun _=>True,fun _ _=>True,0,some (.inl w108)⟩
def k110:Ctr:=⟨[.sc (.str)],[.sc (.bool)],fun _=>Pr True,fun a r=>match r with|[.bool true]=>rS 0 a fun n=>Pr (n<=32)|_=>Pr True,0,none⟩
def i113:CtrI:=⟨[.d (.ag [i6,.str,i6,i6,i6,i6,.row 32 [i6,i6,i6,i6]]),.bx 69 [.d i6,.d i6,.d i6,.d (.str),.d (.bool),.d (.bool),.d (.bool),.d i6,.d i6,.d i6,.d i6,.d (.row 8 [i6]),.d i6,.d i6,.d i6,.d i6,.d i6,.d i6,.d i6,.d i6,.d i6,.d (.row 32 [i6,i6,i6,i6]),.d i6,.d i6,.d i6,.d i6,.d i6,.d (.row 8 [i6]),.d i6,.d (.row 40 [i6,i6,i6,i6,i6]),.d (.row 56 [i6,i6,i6,i6,i6,i6,i6]),.d i6,.d i6,.d i6,.d i6,.d (.str),.d i6,.d i6,.d i6,.d i6,.d i6,.d i6,.d (.row 16 [i6,i6])]],[.d (.sc (.bool))],fun _ _=>Pr True,fun _ _ _ _=>Pr True⟩
def k113:Ctr:=⟨[],[],fun _=>True,fun _ _=>True,0,some (.ctr i113)⟩
def i161:CtrI:=⟨[.d (.ag kNo),.bx 3 [.d i6]],[.d (.sc (.bool))],fun _ _=>Pr True,fun _ _ _ _=>Pr True⟩
def k161:Ctr:=⟨[],[],fun _=>True,fun _ _=>True,0,some (.ctr i161)⟩
def k210:Ctr:=⟨[.sc (.str),.sc i6,.sc (.int .u8)],[.sc (.bool)],fun a=>match a with|[_,.int _ b,_]=>Pr (b<=9223372036854775807)|_=>Pr True,fun a r=>match a,r with|[.str s,.int _ m,_],[.bool true]=>Pr (((s.data.toList.length:Nat):Int)<=m)|_,_=>Pr True,0,none⟩
def i127:CtrI:=⟨[.own 1 [.int .u8] false,.d (.sc (.int .u64))],[.own 1 [.int .u8] true],fun a hp=>oL 0 hp fun lo0=>rI 1 a fun a1=>Pr (lo0<=1099511627776/\0<=a1/\a1<=18446744073709551615),fun a hp r hq=>oR 1 hq fun Q1n=>oR 0 hp fun Q0=>rI 1 a fun a1=>oL 0 hp fun lo0=>oL 1 hq fun lo1n=>Pr (dW Q1n=dW Q0++eN a1/\lo0+1<=lo1n/\lo1n<=lo0+10)⟩
def k127:Ctr:=⟨[],[],fun _=>True,fun _ _=>True,0,some (.ctr i127)⟩
def k119:Ctr:=⟨[.sc (.str)],[.sc (.str)],fun a=>rS 0 a fun sa0=>Pr (sa0<=1099511627776),fun a r=>rT 0 r fun Tr0=>rT 0 a fun Ta0=>rS 0 r fun sr0=>Pr (Tr0.data.toList=smV Ta0.data.toList/\sr0=((4:Nat):Int)),0,none⟩
def k120:Ctr:=⟨[],[],fun _=>True,fun _ _=>True,0,some (.inl (wWs 200))⟩
def k77:Ctr:=⟨[.sc i6],[.sc (.int .u64)],fun _=>Pr True,fun a r=>rI 0 r fun r0=>rI 0 a fun a0=>Pr (r0=zzI a0/\0<=r0/\r0<=18446744073709551615),0,none⟩
def k126:Ctr:=⟨[],[],fun _=>True,fun _ _=>True,0,some (.inl (wSt 200))⟩
def k170:Ctr:=⟨[.sc i6],[.sc (.row 8 [i6])],fun _=>Pr True,fun a r=>rR 0 r fun Rr0=>rI 0 a fun a0=>rL 0 r fun lr0=>Pr (Rr0=[[.v (.int .i64 a0)]]/\lr0=1),0,none⟩
def k172:Ctr:=⟨[.ag [i6,i6,i6,i6]],[.sc (.row 8 [i6])],fun _=>Pr True,fun a r=>rR 0 r fun Rr0=>rcI 0 0 a fun c0_0=>rcI 0 1 a fun c0_1=>rcI 0 2 a fun c0_2=>rcI 0 3 a fun c0_3=>rL 0 r fun lr0=>Pr (Rr0=[[.v (.int .i64 c0_0)],[.v (.int .i64 c0_1)],[.v (.int .i64 c0_2)],[.v (.int .i64 c0_3)]]/\lr0=4),0,none⟩
def k186:Ctr:=⟨[.sc (.str),.sc (.str)],[.sc (.bool)],fun _=>Pr True,fun a r=>rT 0 a fun Ta0=>rT 1 a fun Ta1=>match r with|[.bool true]=>Pr ((∃l,Ta0.data.toList=Ta1.data.toList++l)/\((Ta1.data.toList.length:Nat):Int)<=((Ta0.data.toList.length:Nat):Int))|[.bool false]=>Pr (∀l,¬Ta0.data.toList=Ta1.data.toList++l)|_=>Pr False,0,none⟩
def w89:IW:=bI E TT [] TB [] dr0 f89
def k89:Ctr:=⟨[],[],fun _=>True,fun _ _=>True,0,some (.inl w89)⟩
def w185:IW:=bI E TT [] TB [] dr0 f185
def k185:Ctr:=⟨[],[],fun _=>True,fun _ _=>True,0,some (.inl w185)⟩
def w136:IW:=bI E TT [] TB [] dr0 f136
def k136:Ctr:=⟨[],[],fun _=>True,fun _ _=>True,0,some (.inl w136)⟩
def k5:Ctr:=⟨[],[.sc (.bool)],fun _=>Pr True,fun _ r=>match r with|[.bool true]=>Pr True|_=>Pr False,0,none⟩
def k35:Ctr:=⟨[.sc (.row 8 [i6]),.sc (.row 8 [i6])],[.sc (.bool)],fun a=>rR 0 a fun Ra0=>rR 1 a fun Ra1=>Pr (Ra0=Ra1),fun a r=>match r with|[.bool true]=>Pr True|_=>Pr False,0,none⟩
def k105:Ctr:=⟨[.sc (.row 32 [i6,i6,i6,i6]),.sc (.row 32 [i6,i6,i6,i6])],[.sc (.bool)],fun a=>rR 0 a fun Ra0=>rR 1 a fun Ra1=>Pr (Ra0=Ra1),fun a r=>match r with|[.bool true]=>Pr True|_=>Pr False,0,none⟩
def k102:Ctr:=⟨[.sc (.row 40 [i6,i6,i6,i6,i6]),.sc (.row 40 [i6,i6,i6,i6,i6])],[.sc (.bool)],fun a=>rR 0 a fun Ra0=>rR 1 a fun Ra1=>Pr (Ra0=Ra1),fun a r=>match r with|[.bool true]=>Pr True|_=>Pr False,0,none⟩
def k103:Ctr:=⟨[.sc (.row 56 [i6,i6,i6,i6,i6,i6,i6]),.sc (.row 56 [i6,i6,i6,i6,i6,i6,i6])],[.sc (.bool)],fun a=>rR 0 a fun Ra0=>rR 1 a fun Ra1=>Pr (Ra0=Ra1),fun a r=>match r with|[.bool true]=>Pr True|_=>Pr False,0,none⟩
def k104:Ctr:=⟨[.sc (.row 16 [i6,i6]),.sc (.row 16 [i6,i6])],[.sc (.bool)],fun a=>rR 0 a fun Ra0=>rR 1 a fun Ra1=>Pr (Ra0=Ra1),fun a r=>match r with|[.bool true]=>Pr True|_=>Pr False,0,none⟩
def k36:Ctr:=⟨[.sc (.row 32 [.str,.str]),.sc (.row 32 [.str,.str])],[.sc (.bool)],fun a=>rR 0 a fun Ra0=>rR 1 a fun Ra1=>Pr (Ra0=Ra1),fun a r=>match r with|[.bool true]=>Pr True|_=>Pr False,0,none⟩
def C1:CTb:=(106,k106)::(117,k117)::(109,k109)::(194,k194)::(195,k195)::(196,k196)::(197,k197)::(198,k198)::(149,k149)::(29,k29)::(244,k244)::(152,k152)::(153,k153)::(157,k157)::(284,k284)::(286,k286)::(288,k288)::(320,k320)::(251,k251)::(290,k290)::(321,k321)::(326,k326)::(413,k413)::(414,k414)::(415,k415)::(372,k372)::(373,k373)::(325,k325)::(330,k330)::(376,k376)::(293,k293)::(380,k380)::(501,k501)::(463,k463)::(334,k334)::(338,k338)::(255,k255)::(299,k299)::(257,k257)::(258,k258)::(208,k208)::(155,k155)::(108,k108)::(110,k110)::(113,k113)::(161,k161)::(210,k210)::(127,k127)::(119,k119)::(120,k120)::(77,k77)::(126,k126)::(170,k170)::(172,k172)::(186,k186)::(89,k89)::(185,k185)::(136,k136)::(5,k5)::(35,k35)::(105,k105)::(102,k102)::(103,k103)::(104,k104)::(36,k36)::[]
def k64:Ctr:=tc [.ag kDo] [.sc i6]
def k70:Ctr:=⟨[.ag [i6,i6,.row 8 [i6]]],[.sc i6],fun _=>Pr True,fun a r=>rI 0 r fun r0=>rcI 0 0 a fun c0_0=>rcI 0 1 a fun c0_1=>rcR 0 2 a fun Rc0_2=>Pr ((r0=0->MOk c0_0 c0_1 Rc0_2)/\(MOk c0_0 c0_1 Rc0_2->r0=0)),0,none⟩
def k242:Ctr:=tc [.sc i6] [.sc i6]
def k243:Ctr:=tc [.sc i6] [.sc i6]
def k200:Ctr:=tc [.sc i6,.sc i6] [.sc i6]
def k259:Ctr:=⟨[.sc i6],[.sc i6],fun _=>Pr True,fun a r=>rI 0 r fun r0=>rI 0 a fun a0=>Pr (0<=r0/\r0<=65535/\(0<=a0/\a0<=65535->r0=a0)),0,none⟩
def k245:Ctr:=⟨[.sc i6,.sc (.row 8 [i6]),.sc i6,.sc i6],[.sc i6],fun _=>Pr True,fun a r=>rI 0 r fun r0=>rL 1 a fun la1=>rI 3 a fun a3=>Pr (r0=0->la1<=16/\a3<=16),0,none⟩
def k285:Ctr:=⟨[.sc (.row 56 [i6,i6,i6,i6,i6,i6,i6])],[.sc i6],fun _=>Pr True,fun a r=>rL 0 a fun n=>rR 0 a fun l=>rI 0 r fun r=>Pr (r=0->n<=128/\(n<=0\/cI (elC l 0) 0=1)),0,none⟩
def k374:Ctr:=tc [.sc i6,.sc i6] [.sc i6]
def i324:CtrI:=⟨[.bx 362 [.d i6,.d i6,.d i6,.ow 24 [.row 16 [i6,i6]],.d i6],.own 16 [i6,i6] false],[],fun a hp=>oI 0 4 hp fun o0_4=>oL 1 hp fun lo1=>oL 2 hp fun lo2=>Pr (0<=o0_4/\o0_4<=4398046511104/\lo1<=o0_4/\lo2<=1048576),fun a hp r hq=>oL 1 hq fun lo1n=>oI 0 4 hq fun o0_4n=>oI 0 4 hp fun o0_4=>oL 2 hp fun lo2=>Pr (lo1n<=o0_4n/\o0_4<=o0_4n/\o0_4n<=o0_4+lo2)⟩
def k324:Ctr:=⟨[],[],fun _=>True,fun _ _=>True,0,some (.ctr i324)⟩
def k337:Ctr:=⟨[.sc (.str),.sc (.int .u8)],[.sc i6],fun _=>Pr True,fun a r=>rI 0 r fun r0=>rS 0 a fun sa0=>Pr (-1<=r0/\r0<sa0),0,none⟩
def i295:CtrI:=⟨[.bxr 420 [.d i6,.d i6,.d i6,.d (.row 40 [.int .u8,i6,.row 56 [i6,i6,i6,i6,i6,i6,i6]]),.d (.row 16 [.int .u8,.int .u8,i6])] 256,.d (.sc (.str))],[.d (.sc (.row 16 [i6,i6])),.d (.sc i6)],fun a hp=>oG 0 5 hp fun gl0_5 gh0_5=>oCL 0 3 hp fun lq0_3=>rS 1 a fun sa1=>Pr (gl0_5= -1/\gh0_5<lq0_3/\sa1<=65536),fun a hp r hq=>rL 0 r fun lr0=>rS 1 a fun sa1=>oCL 0 3 hp fun lq0_3=>rR 0 r fun Rr0=>Pr (lr0<=sa1/\AllB (fun c=>0<=cI c 0/\cI c 0<lq0_3) Rr0 lr0)⟩
def k295:Ctr:=⟨[],[],fun _=>True,fun _ _=>True,0,some (.ctr i295)⟩
def k298:Ctr:=⟨[.sc i6,.sc i6],[.sc (.row 56 [i6,i6,i6,i6,i6,i6,i6])],fun _=>Pr True,fun a r=>rL 0 r fun lr0=>Pr (lr0<=64),0,none⟩
def k207:Ctr:=⟨[.sc i6,.sc (.row 8 [i6])],[.sc i6],fun _=>Pr True,fun a r=>rI 0 r fun r0=>rL 1 a fun la1=>Pr (r0=0->la1<=16),0,none⟩
def k156:Ctr:=⟨[.ag kNo],[.ag kNo],fun _=>Pr True,fun a r=>rcI 0 1 a fun c0_1=>rcI 0 19 r fun d0_19=>rcI 0 19 a fun c0_19=>rcI 0 20 r fun d0_20=>rcI 0 20 a fun c0_20=>rcL 0 21 r fun ld0_21=>rcL 0 21 a fun lc0_21=>rcL 0 27 r fun ld0_27=>rcL 0 27 a fun lc0_27=>rcL 0 29 r fun ld0_29=>rcL 0 29 a fun lc0_29=>rcL 0 30 r fun ld0_30=>rcL 0 30 a fun lc0_30=>rcS 0 35 r fun sd0_35=>rcS 0 35 a fun sc0_35=>rcL 0 42 r fun ld0_42=>rcL 0 42 a fun lc0_42=>Pr ((c0_1≠2->d0_19=c0_19/\d0_20=c0_20/\ld0_21=lc0_21)/\(c0_1≠4/\c0_1≠7/\c0_1≠8->ld0_27=lc0_27)/\(c0_1≠4/\c0_1≠7->ld0_29=lc0_29)/\(c0_1≠5->ld0_30=lc0_30)/\(c0_1≠6->sd0_35=sc0_35)/\(c0_1≠11->ld0_42=lc0_42)),0,none⟩
def k66:Ctr:=tc [.ag kDo] [.sc i6]
def i159:CtrI:=⟨[.d (.sc (.row 80 [i6,.str,i6,i6,i6,i6,.row 32 [i6,i6,i6,i6]])),.fn 113 [(69,[.d i6,.d i6,.d i6,.d (.str),.d (.bool),.d (.bool),.d (.bool),.d i6,.d i6,.d i6,.d i6,.d (.row 8 [i6]),.d i6,.d i6,.d i6,.d i6,.d i6,.d i6,.d i6,.d i6,.d i6,.d (.row 32 [i6,i6,i6,i6]),.d i6,.d i6,.d i6,.d i6,.d i6,.d (.row 8 [i6]),.d i6,.d (.row 40 [i6,i6,i6,i6,i6]),.d (.row 56 [i6,i6,i6,i6,i6,i6,i6]),.d i6,.d i6,.d i6,.d i6,.d (.str),.d i6,.d i6,.d i6,.d i6,.d i6,.d i6,.d (.row 16 [i6,i6])])]],[.d (.sc i6)],fun _ _=>Pr True,fun a _ r _=>rL 0 a fun n=>rI 0 r fun r=>Pr (-1<=r/\r<n)⟩
def k159:Ctr:=⟨[],[],fun _=>True,fun _ _=>True,0,some (.ctr i159)⟩
def i160:CtrI:=⟨[.d (.sc (.row 440 kNo)),.fn 161 [(3,[.d i6])]],[.d (.sc i6)],fun _ _=>Pr True,fun a _ r _=>rL 0 a fun n=>rI 0 r fun r=>Pr (-1<=r/\r<n)⟩
def k160:Ctr:=⟨[],[],fun _=>True,fun _ _=>True,0,some (.ctr i160)⟩
def k162:Ctr:=⟨[.sc (.str)],[.sc (.bool)],fun _=>Pr True,fun a r=>match r with|[.bool true]=>rS 0 a fun n=>Pr (n<=32)|_=>Pr True,0,none⟩
def k163:Ctr:=⟨[.sc (.str)],[.sc (.bool)],fun _=>Pr True,fun a r=>match r with|[.bool true]=>rS 0 a fun n=>Pr (n<=256)|_=>Pr True,0,none⟩
def k75:Ctr:=⟨[.sc (.int .u64)],[.sc (.str)],fun a=>rI 0 a fun a0=>Pr (0<=a0/\a0<=18446744073709551615),fun a r=>rT 0 r fun Tr0=>rI 0 a fun a0=>rS 0 r fun sr0=>Pr (Tr0.data.toList=eN a0/\1<=sr0/\sr0<=10),0,none⟩
def k167:Ctr:=⟨[.sc (.row 8 [i6])],[.sc (.str)],fun a=>rL 0 a fun la0=>Pr (la0<=1048576),fun a r=>rT 0 r fun Tr0=>rL 0 a fun la0=>rR 0 a fun Ra0=>rS 0 r fun sr0=>Pr (Tr0.data.toList=eN la0++eF fI Ra0/\1<=sr0/\sr0<=10+10*la0),0,none⟩
def w135:IW:=bI E TT C1 TB [] dr0 f135
def k135:Ctr:=⟨[],[],fun _=>True,fun _ _=>True,0,some (.inl w135)⟩
def w137:IW:=bI E TT C1 TB [] dr0 f137
def k137:Ctr:=⟨[],[],fun _=>True,fun _ _=>True,0,some (.inl w137)⟩
def i133:CtrI:=⟨[.bx 222 [.d (.bool),.d (.str),.d i6,.d i6]],[.d (.sc (.int .u64))],fun a hp=>oRd 0 hp fun m T p e=>Pr (m=true/\0<=p/\p<=((T.data.toList.length:Nat):Int)/\((T.data.toList.length:Nat):Int)<=1099511627776),fun a hp r hq=>oRd 0 hp fun m T p e=>oRd 0 hq fun m1 T1 p1 e1=>rI 0 r fun r0=>Pr (m1=true/\T1=T/\0<=p1/\p1<=((T.data.toList.length:Nat):Int)/\(0<=r0/\r0<=18446744073709551615)/\UP T p e r0 p1 e1/\(¬e=0->¬e1=0)/\(¬e1=0->r0=0))⟩
def k133:Ctr:=⟨[],[],fun _=>True,fun _ _=>True,0,some (.ctr i133)⟩
def w241:IW:=bI E TT C1 TB [] dr0 f241
def k241:Ctr:=⟨[],[],fun _=>True,fun _ _=>True,0,some (.inl w241)⟩
def k63:Ctr:=⟨[.ag [i6,i6,.row 32 [i6,i6,i6,i6]],.ag [i6,i6,.row 32 [i6,i6,i6,i6]]],[.sc (.bool)],fun a=>match a with|[.agg x,.agg y]=>Pr (x.map cSV=y.map cSV)|_=>Pr False,fun a r=>match r with|[.bool true]=>Pr True|_=>Pr False,0,none⟩
def C2:CTb:=(64,k64)::(70,k70)::(242,k242)::(243,k243)::(200,k200)::(259,k259)::(245,k245)::(285,k285)::(374,k374)::(324,k324)::(337,k337)::(295,k295)::(298,k298)::(207,k207)::(156,k156)::(66,k66)::(159,k159)::(160,k160)::(162,k162)::(163,k163)::(75,k75)::(167,k167)::(135,k135)::(137,k137)::(133,k133)::(241,k241)::(63,k63)::C1
def k148:Ctr:=⟨[.ag kNo,.sc i6,.sc i6],[.sc i6],fun _=>Pr True,fun a r=>rI 0 r fun r0=>rcS 0 3 a fun sc0_3=>rcI 0 9 a fun c0_9=>rcI 0 10 a fun c0_10=>rcR 0 11 a fun Rc0_11=>Pr (r0=0->sc0_3<=32/\MOk c0_9 c0_10 Rc0_11),0,none⟩
def k199:Ctr:=tc [.ag [i6,i6,i6,i6,i6,i6]] [.ag [i6,i6,i6,i6,i6,i6]]
def k201:Ctr:=tc [.sc i6,.sc i6,.sc i6,.sc i6] [.sc i6]
def k209:Ctr:=⟨[.ag [i6,i6,i6,i6]],[.ag [i6,i6,i6,i6]],fun _=>Pr True,fun a r=>match a,r with|[.agg [.int _ a0,.int _ a1,.int _ a2,.int _ a3]],[.agg [.int _ r0,.int _ r1,.int _ r2,.int _ r3]]=>Pr ((0<=r0/\r0<=65535/\(0<=a0/\a0<=65535->r0=a0))/\(0<=r1/\r1<=65535/\(0<=a1/\a1<=65535->r1=a1))/\(0<=r2/\r2<=65535/\(0<=a2/\a2<=65535->r2=a2))/\(0<=r3/\r3<=65535/\(0<=a3/\a3<=65535->r3=a3)))|_,_=>Pr False,0,none⟩
def i289:CtrI:=⟨[.own 16 [i6,i6] false,.d (.ag [i6,i6,i6,i6,i6,i6,i6])],[.own 16 [i6,i6] true],fun a hp=>oL 0 hp fun lo0=>Pr (1<=lo0/\lo0<=1073741824),fun a hp r hq=>oL 1 hq fun lo1n=>oL 0 hp fun lo0=>Pr (1<=lo1n/\lo1n<=lo0+16)⟩
def k289:Ctr:=⟨[],[],fun _=>True,fun _ _=>True,0,some (.ctr i289)⟩
def k249:Ctr:=tc [.sc (.row 56 [i6,i6,i6,i6,i6,i6,i6])] [.sc (.row 1 [.bool]),.sc i6]
def k370:Ctr:=tc [.ag [i6,i6],.ag [i6,i6],.sc i6] [.ag [i6,i6,i6,i6,i6,i6,i6,i6,i6,i6]]
def k499:Ctr:=⟨[.sc i6],[.sc i6],fun a=>match a with|[.int _ a]=>Pr (0<=a)|_=>Pr True,fun _ _=>Pr True,0,none⟩
def k375:Ctr:=tc [.ag [.int .u8,i6,.row 56 [i6,i6,i6,i6,i6,i6,i6]]] [.sc i6]
def k461:Ctr:=⟨[.sc (.str),.sc (.str)],[.sc i6],fun a=>rS 1 a fun sa1=>Pr (sa1=1),fun a r=>rI 0 r fun r0=>rS 0 a fun sa0=>Pr (-1<=r0/\r0<sa0),0,none⟩
def i333:CtrI:=⟨[.bxr 420 [.d i6,.d i6,.d i6,.d (.row 40 [.int .u8,i6,.row 56 [i6,i6,i6,i6,i6,i6,i6]]),.d (.row 16 [.int .u8,.int .u8,i6])] 256,.d (.sc (.str)),.d (.sc i6)],[.d (.sc i6)],fun a hp=>oG 0 5 hp fun gl0_5 gh0_5=>oCL 0 3 hp fun lq0_3=>rS 1 a fun sa1=>Pr (gl0_5= -1/\gh0_5<lq0_3/\sa1<=65536),fun _ _ _ _=>Pr True⟩
def k333:Ctr:=⟨[],[],fun _=>True,fun _ _=>True,0,some (.ctr i333)⟩
def k297:Ctr:=⟨[.sc (.str),.sc (.int .u8)],[.sc i6],fun _=>Pr True,fun a r=>rI 0 r fun r0=>rS 0 a fun sa0=>Pr (-1<=r0/\r0<sa0),0,none⟩
def i112:CtrI:=⟨[.d (.sc (.row 80 [i6,.str,i6,i6,i6,i6,.row 32 [i6,i6,i6,i6]])),.fn 113 [(69,[.d i6,.d i6,.d i6,.d (.str),.d (.bool),.d (.bool),.d (.bool),.d i6,.d i6,.d i6,.d i6,.d (.row 8 [i6]),.d i6,.d i6,.d i6,.d i6,.d i6,.d i6,.d i6,.d i6,.d i6,.d (.row 32 [i6,i6,i6,i6]),.d i6,.d i6,.d i6,.d i6,.d i6,.d (.row 8 [i6]),.d i6,.d (.row 40 [i6,i6,i6,i6,i6]),.d (.row 56 [i6,i6,i6,i6,i6,i6,i6]),.d i6,.d i6,.d i6,.d i6,.d (.str),.d i6,.d i6,.d i6,.d i6,.d i6,.d i6,.d (.row 16 [i6,i6])])]],[.d (.sc (.bool))],fun _ _=>Pr True,fun _ _ _ _=>Pr True⟩
def k112:Ctr:=⟨[],[],fun _=>True,fun _ _=>True,0,some (.ctr i112)⟩
def k114:Ctr:=⟨[.ag kDo,.sc i6],[.sc i6],fun _=>Pr True,fun a r=>match a,r with|[.agg cs,_],[.int _ r]=>(match atS cs 3 with|some (.row _ _ l)=>Pr (-1<=r/\r<l.length)|_=>Pr True)|_,_=>Pr True,0,none⟩
def k118:Ctr:=⟨[.sc (.row 32 [.str,.str]),.ag [.str,.str]],[.sc i6],fun _=>Pr True,fun a r=>rI 0 r fun r0=>rcS 1 0 a fun sc1_0=>rcS 1 1 a fun sc1_1=>Pr (r0=0->sc1_0<=32/\sc1_1<=256),0,none⟩
def k94:Ctr:=⟨[.sc (.str)],[.sc (.str)],fun a=>rS 0 a fun sa0=>Pr (sa0<=1099511627776),fun a r=>rT 0 r fun Tr0=>rT 0 a fun Ta0=>rS 0 r fun sr0=>rS 0 a fun sa0=>Pr (Tr0.data.toList=eT Ta0.data.toList/\1<=sr0/\sr0<=sa0+10),0,none⟩
def k49:Ctr:=⟨[.sc i6],[.sc (.str)],fun _=>Pr True,fun a r=>rT 0 r fun Tr0=>rI 0 a fun a0=>rS 0 r fun sr0=>Pr (Tr0.data.toList=eI a0/\1<=sr0/\sr0<=10),0,none⟩
def k122:Ctr:=⟨[.sc i6],[.sc (.str)],fun a=>rI 0 a fun a0=>Pr (0<=a0),fun a r=>rT 0 r fun Tr0=>rI 0 a fun a0=>rS 0 r fun sr0=>Pr (Tr0.data.toList=eN a0/\1<=sr0/\sr0<=10),0,none⟩
def w87:IW:=bI E TT C2 TB [] dr0 f87
def k87:Ctr:=⟨[],[],fun _=>True,fun _ _=>True,0,some (.inl w87)⟩
def i139:CtrI:=⟨[.bx 222 [.d (.bool),.d (.str),.d i6,.d i6],.d (.sc i6)],[.d (.sc i6)],fun a hp=>oRd 0 hp fun m T p e=>rI 1 a fun a1=>Pr (m=true/\0<=p/\p<=((T.data.toList.length:Nat):Int)/\((T.data.toList.length:Nat):Int)<=1099511627776/\a1<=9223372036854775807),fun a hp r hq=>oRd 0 hp fun m T p e=>oRd 0 hq fun m1 T1 p1 e1=>rI 1 a fun a1=>rI 0 r fun r0=>Pr (m1=true/\T1=T/\0<=p1/\p1<=((T.data.toList.length:Nat):Int)/\(0<=r0/\(0<=a1->r0<=a1))/\CP T (max a1 0) p e r0 p1 e1)⟩
def k139:Ctr:=⟨[],[],fun _=>True,fun _ _=>True,0,some (.ctr i139)⟩
def w91:IW:=bI E TT C2 TB [] dr0 f91
def k91:Ctr:=⟨[],[],fun _=>True,fun _ _=>True,0,some (.inl w91)⟩
def i93:CtrI:=⟨[.bx 222 [.d (.bool),.d (.str),.d i6,.d i6]],[.d (.sc i6)],fun a hp=>oRd 0 hp fun m T p e=>Pr (m=true/\0<=p/\p<=((T.data.toList.length:Nat):Int)/\((T.data.toList.length:Nat):Int)<=1099511627776),fun a hp r hq=>oRd 0 hp fun m T p e=>oRd 0 hq fun m1 T1 p1 e1=>rI 0 r fun r0=>Pr (m1=true/\T1=T/\0<=p1/\p1<=((T.data.toList.length:Nat):Int)/\IP T p e r0 p1 e1)⟩
def k93:Ctr:=⟨[],[],fun _=>True,fun _ _=>True,0,some (.ctr i93)⟩
def w187:IW:=bI E TT C2 TB [(1,⟨[0,7,8],[(9,none)],[0,7],[],[],[],[],fun f0 h0 fr hp=>gI 9 fr fun t9=>gI 8 fr fun t8=>gL 7 fr hp fun len7=>gL 7 f0 h0 fun len7e=>Pr (0<=t9/\t9<=t8/\len7=len7e),.sub (.sl 8) (.sl 9),4⟩)] ⟨[],[],[],[6],[]⟩ f187
def k187:Ctr:=⟨[],[],fun _=>True,fun _ _=>True,0,some (.inl w187)⟩
def k62:Ctr:=⟨[.ag kNo,.ag kNo],[.sc (.bool)],fun a=>match a with|[.agg x,.agg y]=>Pr (x.map cSV=y.map cSV)|_=>Pr False,fun a r=>match r with|[.bool true]=>Pr True|_=>Pr False,0,none⟩
def k38:Ctr:=⟨[.ag [i6,.str,i6,i6,i6,i6,.row 32 [i6,i6,i6,i6]],.ag [i6,.str,i6,i6,i6,i6,.row 32 [i6,i6,i6,i6]]],[.sc (.bool)],fun a=>match a with|[.agg x,.agg y]=>Pr (x.map cSV=y.map cSV)|_=>Pr False,fun a r=>match r with|[.bool true]=>Pr True|_=>Pr False,0,none⟩
def C3:CTb:=(148,k148)::(199,k199)::(201,k201)::(209,k209)::(289,k289)::(249,k249)::(370,k370)::(499,k499)::(375,k375)::(461,k461)::(333,k333)::(297,k297)::(112,k112)::(114,k114)::(118,k118)::(94,k94)::(49,k49)::(122,k122)::(87,k87)::(139,k139)::(91,k91)::(93,k93)::(187,k187)::(62,k62)::(38,k38)::C2
def k150:Ctr:=tc [.ag [i6,i6,i6,i6,i6,i6]] [.sc i6]
def k158:Ctr:=⟨[.ag [i6,i6,i6,i6]],[.sc (.bool)],fun _=>Pr True,fun a r=>match a,r with|[.agg [.int _ a0,.int _ a1,.int _ a2,.int _ a3]],[.bool true]=>Pr ((0<=a0/\a0<=65535)/\(0<=a1/\a1<=65535)/\(0<=a2/\a2<=65535)/\(0<=a3/\a3<=65535))|[.agg [.int _ a0,.int _ a1,.int _ a2,.int _ a3]],[.bool false]=>Pr (¬((0<=a0/\a0<=65535)/\(0<=a1/\a1<=65535)/\(0<=a2/\a2<=65535)/\(0<=a3/\a3<=65535)))|_,_=>Pr False,0,none⟩
def k307:Ctr:=tc [.ag [i6,i6,i6,i6,i6,i6],.ag [i6,i6]] [.ag [i6,i6]]
def k248:Ctr:=⟨[.sc (.row 56 [i6,i6,i6,i6,i6,i6,i6])],[.sc (.row 24 [.row 16 [i6,i6]]),.sc i6],fun _=>Pr True,fun a r=>rL 0 r fun lr0=>Pr (lr0<=128),0,none⟩
def k322:Ctr:=⟨[.sc (.row 16 [i6,i6]),.sc (.bool),.sc i6],[.sc (.row 80 [i6,i6,i6,i6,i6,i6,i6,i6,i6,i6])],fun a=>rL 0 a fun la0=>Pr (la0<=16777216),fun a r=>rL 0 r fun lr0=>rL 0 a fun la0=>Pr (lr0<=la0+1),0,none⟩
def k459:Ctr:=⟨[.sc i6],[.sc i6],fun a=>match a with|[.int _ a]=>Pr (0<=a/\a<=65535)|_=>Pr True,fun _ _=>Pr True,0,none⟩
def k329:Ctr:=tc [.ag [i6,i6,i6,.row 40 [.int .u8,i6,.row 56 [i6,i6,i6,i6,i6,i6,i6]],.row 16 [.int .u8,.int .u8,i6]]] [.sc i6]
def k418:Ctr:=⟨[.sc (.str),.sc (.str)],[.sc i6],fun a=>rS 1 a fun sa1=>Pr (sa1=1),fun a r=>rI 0 r fun r0=>rS 0 a fun sa0=>Pr (-1<=r0/\r0<sa0),0,none⟩
def k296:Ctr:=⟨[.sc (.str)],[.sc (.row 16 [.str])],fun a=>rS 0 a fun sa0=>rT 0 a fun Ta0=>Pr (sa0<=4194304/\gX Ta0 0=0/\lU Ta0 0=1/\AscS Ta0),fun a r=>rL 0 r fun lr0=>rR 0 r fun Rr0=>Pr (lr0<=4194304/\AllB (fun c=>cSl c<=4194304) Rr0 lr0),0,none⟩
def k68:Ctr:=tc [.ag kDo] [.sc i6]
def k116:Ctr:=⟨[.ag kDo,.sc i6],[.sc (.row 8 [i6])],fun a=>rI 1 a fun a1=>rcL 0 3 a fun lc0_3=>Pr (0<=a1/\a1<lc0_3/\lc0_3<=16777216),fun a r=>rcL 0 3 a fun lc0_3=>rR 0 r fun Rr0=>rL 0 r fun lr0=>Pr (AllB (fun c=>0<=cI c 0/\cI c 0<lc0_3) Rr0 lr0),0,none⟩
def k71:Ctr:=⟨[.sc (.row 32 [.str,.str])],[.sc i6],fun _=>Pr True,fun a r=>rI 0 r fun r0=>rL 0 a fun la0=>rR 0 a fun Ra0=>Pr (r0=0->la0<=16/\AllB aHi Ra0 la0),0,none⟩
def k73:Ctr:=⟨[.sc (.str)],[.sc (.str),.sc i6],fun a=>rS 0 a fun sa0=>Pr (sa0<=1099511627776),fun a r=>rI 1 r fun r1=>rT 0 r fun Tr0=>rT 0 a fun Ta0=>rS 0 a fun sa0=>rS 0 r fun sr0=>Pr ((r1=0->Tr0.data.toList=frV Ta0.data.toList/\sa0<=1048576)/\sr0<=1048600/\(sa0<=1048576->r1=0)),0,none⟩
def k121:Ctr:=⟨[.sc (.row 8 [i6])],[.sc (.str)],fun a=>rL 0 a fun la0=>Pr (1<=la0/\la0<=1048576),fun a r=>rT 0 r fun Tr0=>rR 0 a fun Ra0=>rS 0 r fun sr0=>rL 0 a fun la0=>Pr (Tr0.data.toList=eF fI Ra0/\1<=sr0/\sr0<=10*la0),0,none⟩
def i169:CtrI:=⟨[.d (.sc i6),.d (.sc i6),.d (.sc (.row 8 [i6])),.fn 170 []],[.d (.sc (.str))],fun a hp=>rI 0 a fun a0=>rI 1 a fun a1=>rL 2 a fun la2=>rR 2 a fun Ra2=>Pr (0<=a0/\a0<=256/\0<=a1/\a1<=256/\la2<=65536/\AllB okM Ra2 la2),fun a hp r hq=>rT 0 r fun Tr0=>rI 0 a fun a0=>rI 1 a fun a1=>rR 2 a fun Ra2=>rS 0 r fun sr0=>rL 2 a fun la2=>Pr (Tr0.data.toList=eN a0++(eN a1++gG eN (Ra2.map mI))/\1<=sr0/\sr0<=20+20*la2)⟩
def k169:Ctr:=⟨[],[],fun _=>True,fun _ _=>True,0,some (.ctr i169)⟩
def i171:CtrI:=⟨[.d (.sc i6),.d (.sc i6),.d (.sc (.row 32 [i6,i6,i6,i6])),.fn 172 []],[.d (.sc (.str))],fun a hp=>rI 0 a fun a0=>rI 1 a fun a1=>rL 2 a fun la2=>rR 2 a fun Ra2=>Pr (0<=a0/\a0<=256/\0<=a1/\a1<=256/\la2<=65536/\AllB okP Ra2 la2),fun a hp r hq=>rT 0 r fun Tr0=>rI 0 a fun a0=>rI 1 a fun a1=>rR 2 a fun Ra2=>rS 0 r fun sr0=>rL 2 a fun la2=>Pr (Tr0.data.toList=eN a0++(eN a1++gG rF (Ra2.map pI))/\1<=sr0/\sr0<=20+50*la2)⟩
def k171:Ctr:=⟨[],[],fun _=>True,fun _ _=>True,0,some (.ctr i171)⟩
def k166:Ctr:=⟨[.sc (.row 1 [.bool])],[.sc (.str)],fun a=>rL 0 a fun la0=>Pr (1<=la0/\la0<=1048576),fun a r=>rT 0 r fun Tr0=>rR 0 a fun Ra0=>rS 0 r fun sr0=>rL 0 a fun la0=>Pr (Tr0.data.toList=eF fB Ra0/\1<=sr0/\sr0<=10*la0),0,none⟩
def i134:CtrI:=⟨[.bx 222 [.d (.bool),.d (.str),.d i6,.d i6],.d (.sc i6)],[.d (.sc (.str))],fun a hp=>oRd 0 hp fun m T p e=>Pr (m=true/\0<=p/\p<=((T.data.toList.length:Nat):Int)/\((T.data.toList.length:Nat):Int)<=1099511627776),fun a hp r hq=>oRd 0 hp fun m T p e=>oRd 0 hq fun m1 T1 p1 e1=>rI 1 a fun a1=>rT 0 r fun T0=>Pr (m1=true/\T1=T/\0<=p1/\p1<=((T.data.toList.length:Nat):Int)/\((T0.data.toList.length:Nat):Int)<=((T.data.toList.length:Nat):Int)/\TP T (max a1 0) p e T0.data.toList p1 e1)⟩
def k134:Ctr:=⟨[],[],fun _=>True,fun _ _=>True,0,some (.ctr i134)⟩
def w138:IW:=bI E TT C3 TB [(1,⟨[0,6,7],[(8,none)],[0,6],[],[],[],[],fun f0 h0 fr hp=>gI 8 fr fun t8=>gI 7 fr fun t7=>gL 6 fr hp fun len6=>gL 6 f0 h0 fun len6e=>Pr (0<=t8/\t8<=t7/\len6=len6e),.sub (.sl 7) (.sl 8),8⟩)] dr0 f138
def k138:Ctr:=⟨[],[],fun _=>True,fun _ _=>True,0,some (.inl w138)⟩
def w191:IW:=bI E TT C3 TB [] dr0 f191
def k191:Ctr:=⟨[],[],fun _=>True,fun _ _=>True,0,some (.inl w191)⟩
def w193:IW:=bI E TT C3 TB [(3,⟨[0,1,2,9,10],[(11,none)],[0,9],[],[],[],[],fun f0 h0 fr hp=>gI 11 fr fun t11=>gI 10 fr fun t10=>gL 9 fr hp fun len9=>gL 9 f0 h0 fun len9e=>Pr (0<=t11/\t11<=t10/\len9=len9e),.sub (.sl 10) (.sl 11),5⟩)] dr0 f193
def k193:Ctr:=⟨[],[],fun _=>True,fun _ _=>True,0,some (.inl w193)⟩
def i188:CtrI:=⟨[.bx 222 [.d (.bool),.d (.str),.d i6,.d i6],.d (.sc i6)],[.d (.sc (.row 8 [i6]))],fun a hp=>oRd 0 hp fun m T p e=>rI 1 a fun a1=>Pr (m=true/\0<=p/\p<=((T.data.toList.length:Nat):Int)/\((T.data.toList.length:Nat):Int)<=1099511627776/\0<=a1/\a1<=1048576),fun a hp r hq=>oRd 0 hp fun m T p e=>oRd 0 hq fun m1 T1 p1 e1=>rI 1 a fun a1=>(match r with|[.row _ _ l]=>Pr (m1=true/\T1=T/\0<=p1/\p1<=((T.data.toList.length:Nat):Int)/\LQ fI (okC 1) a1 T p e l p1 e1)|_=>Pr False)⟩
def k188:Ctr:=⟨[],[],fun _=>True,fun _ _=>True,0,some (.ctr i188)⟩
def k34:Ctr:=⟨[.ag kNo,.ag kNo],[.sc (.bool)],fun a=>match a with|[.agg x,.agg y]=>Pr (x.map cSV=y.map cSV)|_=>Pr False,fun a r=>match r with|[.bool true]=>Pr True|_=>Pr False,0,none⟩
def i37:CtrI:=⟨[.d (.sc (.row 80 [i6,.str,i6,i6,i6,i6,.row 32 [i6,i6,i6,i6]])),.d (.sc (.row 80 [i6,.str,i6,i6,i6,i6,.row 32 [i6,i6,i6,i6]])),.fn 38 []],[.d (.sc (.bool))],fun a hp=>rR 0 a fun Ra0=>rR 1 a fun Ra1=>Pr (Ra0=Ra1),fun a _ r _=>match r with|[.bool true]=>Pr True|_=>Pr False⟩
def k37:Ctr:=⟨[],[],fun _=>True,fun _ _=>True,0,some (.ctr i37)⟩
def C4:CTb:=(150,k150)::(158,k158)::(307,k307)::(248,k248)::(322,k322)::(459,k459)::(329,k329)::(418,k418)::(296,k296)::(68,k68)::(116,k116)::(71,k71)::(73,k73)::(121,k121)::(169,k169)::(171,k171)::(166,k166)::(134,k134)::(138,k138)::(191,k191)::(193,k193)::(188,k188)::(34,k34)::(37,k37)::C3
def k151:Ctr:=tc [.ag [i6,i6,i6,i6,i6,i6]] [.ag [i6,i6,i6,i6,i6,i6],.sc i6]
def k111:Ctr:=⟨[.ag [i6,i6,.row 32 [i6,i6,i6,i6]]],[.sc i6],fun _=>Pr True,fun a r=>rI 0 r fun r0=>rcI 0 0 a fun c0_0=>rcI 0 1 a fun c0_1=>rcR 0 2 a fun Rc0_2=>Pr ((r0=0->IOk c0_0 c0_1 Rc0_2)/\(IOk c0_0 c0_1 Rc0_2->r0=0)),0,none⟩
def k202:Ctr:=tc [.ag [i6,i6,i6,i6]] [.sc i6]
def k246:Ctr:=tc [.sc (.row 40 [i6,i6,i6,i6,i6])] [.sc i6]
def k287:Ctr:=tc [.ag [i6,i6,i6,i6,i6,i6],.ag [i6,i6]] [.ag [i6,i6]]
def k412:Ctr:=tc [.sc i6] [.sc i6,.sc i6]
def k292:Ctr:=⟨[.ag [i6,i6,i6,.row 40 [.int .u8,i6,.row 56 [i6,i6,i6,i6,i6,i6,i6]],.row 16 [.int .u8,.int .u8,i6]],.sc (.str),.sc i6,.sc i6],[.sc i6],fun _=>Pr True,fun a r=>rI 0 r fun r0=>rS 1 a fun sa1=>Pr (r0=0->sa1<=128),0,none⟩
def k420:Ctr:=⟨[.sc (.str),.sc (.str)],[.sc i6],fun a=>rS 1 a fun sa1=>Pr (sa1=1),fun a r=>rI 0 r fun r0=>rS 0 a fun sa0=>Pr (0<=r0/\r0<=sa0),0,none⟩
def k253:Ctr:=tc [] [.ag [i6,i6,i6,.row 40 [.int .u8,i6,.row 56 [i6,i6,i6,i6,i6,i6,i6]],.row 16 [.int .u8,.int .u8,i6]]]
def k256:Ctr:=⟨[.sc i6,.sc (.row 8 [i6]),.sc (.row 40 [i6,i6,i6,i6,i6])],[.sc (.bool)],fun a=>match a with|[.int _ a,.row _ _ l,_]=>Pr (a=9->3<=l.length)|_=>Pr True,fun _ _=>Pr True,0,none⟩
def bBv:Nat->CtrI:=fun k=>⟨[.d (.sc i6),.bx 193 [.ow 1 [.bool]],.bx 193 [.ow 1 [.bool]],.bx 29 [.d i6,.d i6,.d i6,.d (.row 440 kNo),.d i6,.d i6,.d i6,.d (.row 8 [i6]),.d (.row 32 [.str,.str]),.d (.row 80 [i6,.str,i6,i6,i6,i6,.row 32 [i6,i6,i6,i6]])],.bx 194 [.fx 115 [0,2,4,5]]],[.d (.sc (.bool))],fun a hp=>rI 0 a fun a0=>oCL 4 3 hp fun lq4_3=>oL 1 hp fun lo1=>oL 3 hp fun lo3=>oR 3 hp fun Q3=>Pr (0<=a0/\a0<lq4_3/\lo1=lq4_3/\lo3=lq4_3/\lq4_3<=16777216/\((uD Q3:Nat):Int)<((k:Nat):Int)),fun a hp r hq=>oL 1 hq fun lo1n=>oL 1 hp fun lo1=>oL 3 hq fun lo3n=>oL 3 hp fun lo3=>oCL 4 3 hq fun lq4_3n=>oCL 4 3 hp fun lq4_3=>oR 3 hq fun Q3n=>oR 3 hp fun Q3=>Pr (lo1n=lo1/\lo3n=lo3/\lq4_3n=lq4_3/\((uD Q3n:Nat):Int)<=((uD Q3:Nat):Int))⟩
def k115:Ctr:=⟨[],[],fun _=>True,fun _ _=>True,0,some (.ctr (bBv 9223372036854775808))⟩
def k124:Ctr:=⟨[.ag [i6,i6,.row 8 [i6]]],[.sc (.str)],fun _=>Pr True,fun a r=>rcI 0 0 a fun c0_0=>rcI 0 1 a fun c0_1=>rcR 0 2 a fun Rc0_2=>rT 0 r fun Tr0=>rS 0 r fun sr0=>Pr ((MOk c0_0 c0_1 Rc0_2->Tr0.data.toList=yC c0_0 c0_1 Rc0_2)/\1<=sr0/\sr0<=4194304),0,none⟩
def k168:Ctr:=⟨[.ag kNo],[.sc (.str)],fun a=>rcL 0 29 a fun lc0_29=>rcL 0 30 a fun lc0_30=>Pr (lc0_29<=16/\lc0_30<=128),fun a r=>rT 0 r fun Tr0=>rcR 0 29 a fun Rc0_29=>rcR 0 30 a fun Rc0_30=>rS 0 r fun sr0=>Pr (Tr0.data.toList=eSh Rc0_29 Rc0_30/\1<=sr0/\sr0<=65536),0,none⟩
def k88:Ctr:=⟨[.sc (.str)],[.sc (.str),.sc i6,.sc i6],fun a=>rS 0 a fun sa0=>Pr (sa0<=1099511627776),fun a r=>rS 0 r fun sr0=>rI 1 r fun r1=>rS 0 a fun sa0=>rI 2 r fun r2=>rT 0 a fun Ta0=>rT 0 r fun Tr0=>Pr (sr0<=1099511627776/\0<=r1/\r1<=sa0/\(r2=0->4<=r1)/\OpP Ta0.data.toList Tr0.data.toList r1 r2),0,none⟩
def w190:IW:=bI E TT C4 TB [(5,⟨[0,1,4,5],[(6,some (8,[i6]))],[0,1],[],[],[],[],fun f0 h0 fr hp=>gRd 0 fr hp fun m T p e=>gRd 0 f0 h0 fun m0 T0 p0 e0=>gI 4 fr fun w=>gI 5 fr fun h=>gR 6 fr hp fun R=>Pr (m=true/\T=T0/\0<=p/\p<=((T.data.toList.length:Nat):Int)/\((R.length:Nat):Int)<=w*h/\RJ eN unI okI T p0 e0 w h R p e),.sub (.cst 1099511627777) (.ln 6),0⟩),(12,⟨[0,1,4,5,8,61],[(6,some (8,[i6])),(62,none)],[],[],[],[],[],fun f0 h0 fr hp=>gI 62 fr fun t62=>gI 61 fr fun t61=>gR 6 fr hp fun R6=>gR 6 f0 h0 fun R6e=>gI 8 fr fun t8=>gL 6 fr hp fun len6=>gL 6 f0 h0 fun len6e=>Pr (t62<=t61/\R6=R6e++List.replicate t62.toNat (unI t8)/\len6=len6e+t62/\0<=t62),.sub (.sl 61) (.sl 62),0⟩)] ⟨[],[],[],[3],[]⟩ f190
def k190:Ctr:=⟨[],[],fun _=>True,fun _ _=>True,0,some (.inl w190)⟩
def w192:IW:=bI E TT C4 TB [(5,⟨[0,1,4,5],[(6,some (32,[i6,i6,i6,i6]))],[0,1],[],[],[],[],fun f0 h0 fr hp=>gRd 0 fr hp fun m T p e=>gRd 0 f0 h0 fun m0 T0 p0 e0=>gI 4 fr fun w=>gI 5 fr fun h=>gR 6 fr hp fun R=>Pr (m=true/\T=T0/\0<=p/\p<=((T.data.toList.length:Nat):Int)/\((R.length:Nat):Int)<=w*h/\RJ rF unP okQ T p0 e0 w h R p e),.sub (.cst 1099511627777) (.ln 6),0⟩),(12,⟨[0,1,4,5,8,61],[(6,some (32,[i6,i6,i6,i6])),(62,none)],[],[],[],[],[],fun f0 h0 fr hp=>gI 62 fr fun t62=>gI 61 fr fun t61=>gR 6 fr hp fun R6=>gR 6 f0 h0 fun R6e=>gB 8 0 fr hp fun B8_0=>gB 8 1 fr hp fun B8_1=>gB 8 2 fr hp fun B8_2=>gB 8 3 fr hp fun B8_3=>gL 6 fr hp fun len6=>gL 6 f0 h0 fun len6e=>Pr (t62<=t61/\R6=R6e++List.replicate t62.toNat (unP (B8_0,B8_1,B8_2,B8_3))/\len6=len6e+t62/\0<=t62),.sub (.sl 61) (.sl 62),0⟩)] ⟨[],[],[],[3],[]⟩ f192
def k192:Ctr:=⟨[],[],fun _=>True,fun _ _=>True,0,some (.inl w192)⟩
def w189:IW:=bI E TT C4 TB [(1,⟨[0,1,8],[(9,none)],[0,1],[],[],[],[(1,29,40,[i6,i6,i6,i6,i6])],fun f0 h0 fr hp=>gRd 0 fr hp fun m T p e=>gRd 0 f0 h0 fun m0 T0 p0 e0=>gBx 1 fr hp fun cs=>gBx 1 f0 h0 fun cs0=>gI 8 fr fun n=>gI 9 fr fun t=>gBR 1 29 fr hp fun R=>Pr ((m=true/\T=T0/\0<=p/\p<=((T.data.toList.length:Nat):Int)/\0<=t/\((R.length:Nat):Int)<=t/\LP fS (okC 5) T p0 e0 n R t p e)/\(True)/\exC [29] 0 cs cs0),.sub (.sl 8) (.sl 9),0⟩),(7,⟨[0,1,35],[(36,none)],[0,1],[],[],[],[(1,30,56,[i6,i6,i6,i6,i6,i6,i6])],fun f0 h0 fr hp=>gRd 0 fr hp fun m T p e=>gRd 0 f0 h0 fun m0 T0 p0 e0=>gBx 1 fr hp fun cs=>gBx 1 f0 h0 fun cs0=>gI 35 fr fun n=>gI 36 fr fun t=>gBR 1 30 fr hp fun R=>gBR 1 29 fr hp fun K29=>gBR 1 29 f0 h0 fun Q29=>Pr ((m=true/\T=T0/\0<=p/\p<=((T.data.toList.length:Nat):Int)/\0<=t/\((R.length:Nat):Int)<=t/\LP fG (okC 7) T p0 e0 n R t p e)/\(K29=Q29/\True)/\exC [30] 0 cs cs0),.sub (.sl 35) (.sl 36),0⟩),(11,⟨[0,1,5,35,36],[(42,none)],[],[],[],[],[],fun f0 h0 fr hp=>gI 42 fr fun t42=>Pr (0<=t42),.sub (.cst 3) (.sl 42),4⟩)] ⟨[(4,([5000129],false)),(13,([0,5],true)),(15,([5000130],false))],[],[4,15],[],[]⟩ f189
def k189:Ctr:=⟨[],[],fun _=>True,fun _ _=>True,0,some (.inl w189)⟩
def i33:CtrI:=⟨[.d (.sc (.row 440 kNo)),.d (.sc (.row 440 kNo)),.fn 34 []],[.d (.sc (.bool))],fun a hp=>rR 0 a fun Ra0=>rR 1 a fun Ra1=>Pr (Ra0=Ra1),fun a _ r _=>match r with|[.bool true]=>Pr True|_=>Pr False⟩
def k33:Ctr:=⟨[],[],fun _=>True,fun _ _=>True,0,some (.ctr i33)⟩
def C5:CTb:=(151,k151)::(111,k111)::(202,k202)::(246,k246)::(287,k287)::(412,k412)::(292,k292)::(420,k420)::(253,k253)::(256,k256)::(115,k115)::(124,k124)::(168,k168)::(88,k88)::(190,k190)::(192,k192)::(189,k189)::(33,k33)::C4
def k203:Ctr:=⟨[.sc i6,.sc (.row 8 [i6]),.sc i6,.sc (.row 40 [i6,i6,i6,i6,i6])],[.sc i6],fun _=>Pr True,fun a r=>rI 0 r fun r0=>rL 1 a fun la1=>rL 3 a fun la3=>Pr (r0=0->la1<=16/\la3<=16),0,none⟩
def k247:Ctr:=⟨[.sc (.row 56 [i6,i6,i6,i6,i6,i6,i6]),.ag [i6,i6,i6,i6,i6,i6]],[.sc (.row 56 [i6,i6,i6,i6,i6,i6,i6]),.sc i6],fun _=>Pr True,fun a r=>rI 1 r fun r1=>rL 0 a fun la0=>Pr (r1=0->la0<=128),0,none⟩
def i371:CtrI:=⟨[.d (.ag [i6,i6]),.d (.sc i6)],[.own 16 [i6,i6] true],fun _ _=>Pr True,fun a hp r hq=>oL 0 hq fun lo0n=>Pr (lo0n=16)⟩
def k371:Ctr:=⟨[],[],fun _=>True,fun _ _=>True,0,some (.ctr i371)⟩
def w377:IW:=bI E TT C5 TB [] dr0 f377
def k377:Ctr:=⟨[],[],fun _=>True,fun _ _=>True,0,some (.inl w377)⟩
def k378:Ctr:=⟨[.sc (.str),.sc (.str),.sc i6,.sc i6],[.sc (.row 16 [.str])],fun a=>rS 1 a fun sa1=>rI 2 a fun a2=>rI 3 a fun a3=>rS 0 a fun sa0=>Pr (sa1=1/\a2=0/\a3= -1/\sa0<=4194304),fun a r=>rL 0 r fun lr0=>rS 0 a fun sa0=>rR 0 r fun Rr0=>Pr (1<=lr0/\lr0<=sa0+1/\AllB (fun c=>cSl c<=sa0) Rr0 lr0),0,none⟩
def k254:Ctr:=tc [.sc (.row 24 [.row 16 [i6,i6]]),.ag [i6,i6,i6,i6,i6,i6]] [.sc (.row 24 [.row 16 [i6,i6]]),.sc i6]
def k206:Ctr:=⟨[.sc i6,.sc (.row 8 [i6]),.sc (.row 40 [i6,i6,i6,i6,i6])],[.sc i6],fun _=>Pr True,fun a r=>rI 0 r fun r0=>rL 1 a fun la1=>rL 2 a fun la2=>Pr (r0=0->la1<=16/\la2<=16),0,none⟩
def k67:Ctr:=⟨[.ag kDo],[.sc i6],fun _=>Pr True,fun a r=>rI 0 r fun r0=>rcR 0 9 a fun Rc0_9=>rcL 0 9 a fun lc0_9=>Pr (r0=0->AllB LOk Rc0_9 lc0_9),0,none⟩
def k69:Ctr:=⟨[.ag kDo],[.sc (.bool)],fun a=>rcL 0 3 a fun lc0_3=>Pr (lc0_3<=16777216),fun _ _=>Pr True,0,none⟩
def k125:Ctr:=⟨[.ag [i6,i6,.row 32 [i6,i6,i6,i6]]],[.sc (.str)],fun _=>Pr True,fun a r=>rcI 0 0 a fun c0_0=>rcI 0 1 a fun c0_1=>rcR 0 2 a fun Rc0_2=>rT 0 r fun Tr0=>rS 0 r fun sr0=>Pr ((IOk c0_0 c0_1 Rc0_2->Tr0.data.toList=aHp c0_0 c0_1 Rc0_2)/\1<=sr0/\sr0<=4194304),0,none⟩
def i141:CtrI:=⟨[.bx 222 [.d (.bool),.d (.str),.d i6,.d i6]],[.d (.ag [i6,i6,.row 8 [i6]])],fun a hp=>oRd 0 hp fun m T p e=>Pr (m=true/\0<=p/\p<=((T.data.toList.length:Nat):Int)/\((T.data.toList.length:Nat):Int)<=1099511627776),fun a hp r hq=>oRd 0 hp fun m T p e=>oRd 0 hq fun m1 T1 p1 e1=>(match r with|[.agg [.int _ w,.int _ h,.row _ _ l]]=>Pr (m1=true/\T1=T/\0<=p1/\p1<=((T.data.toList.length:Nat):Int)/\QR eN unI okI T p e w h l p1 e1)|_=>Pr False)⟩
def k141:Ctr:=⟨[],[],fun _=>True,fun _ _=>True,0,some (.ctr i141)⟩
def i142:CtrI:=⟨[.bx 222 [.d (.bool),.d (.str),.d i6,.d i6]],[.d (.ag [i6,i6,.row 32 [i6,i6,i6,i6]])],fun a hp=>oRd 0 hp fun m T p e=>Pr (m=true/\0<=p/\p<=((T.data.toList.length:Nat):Int)/\((T.data.toList.length:Nat):Int)<=1099511627776),fun a hp r hq=>oRd 0 hp fun m T p e=>oRd 0 hq fun m1 T1 p1 e1=>(match r with|[.agg [.int _ w,.int _ h,.row _ _ l]]=>Pr (m1=true/\T1=T/\0<=p1/\p1<=((T.data.toList.length:Nat):Int)/\QR rF unP okQ T p e w h l p1 e1)|_=>Pr False)⟩
def k142:Ctr:=⟨[],[],fun _=>True,fun _ _=>True,0,some (.ctr i142)⟩
def k10:Ctr:=⟨[.ag kDo,.ag kDo],[.sc (.bool)],fun a=>match a with|[.agg x,.agg y]=>Pr (x.map cSV=y.map cSV)|_=>Pr False,fun a r=>match r with|[.bool true]=>Pr True|_=>Pr False,0,none⟩
def C6:CTb:=(203,k203)::(247,k247)::(371,k371)::(377,k377)::(378,k378)::(254,k254)::(206,k206)::(67,k67)::(69,k69)::(125,k125)::(141,k141)::(142,k142)::(10,k10)::C5
def i323:CtrI:=⟨[.bx 362 [.d i6,.d i6,.d i6,.ow 24 [.row 16 [i6,i6]],.d i6],.d (.ag [i6,i6])],[],fun a hp=>oI 0 4 hp fun o0_4=>oL 1 hp fun lo1=>Pr (0<=o0_4/\o0_4<=2199023255552/\lo1<=o0_4),fun a hp r hq=>oL 1 hq fun lo1n=>oI 0 4 hq fun o0_4n=>oI 0 4 hp fun o0_4=>Pr (lo1n<=o0_4n/\o0_4<=o0_4n/\o0_4n<=o0_4+16)⟩
def k323:Ctr:=⟨[],[],fun _=>True,fun _ _=>True,0,some (.ctr i323)⟩
def i327:CtrI:=⟨[.bx 362 [.d i6,.d i6,.d i6,.ow 24 [.row 16 [i6,i6]],.d i6],.d (.ag [i6,i6,i6,i6,i6,i6,i6,i6,i6,i6]),.d (.ag [i6,i6,i6,i6,i6,i6,i6,i6,i6,i6])],[],fun a hp=>oI 0 4 hp fun o0_4=>oL 1 hp fun lo1=>Pr (0<=o0_4/\o0_4<=2199023255552/\lo1<=o0_4),fun a hp r hq=>oL 1 hq fun lo1n=>oI 0 4 hq fun o0_4n=>oI 0 4 hp fun o0_4=>Pr (lo1n<=o0_4n/\o0_4<=o0_4n/\o0_4n<=o0_4+16)⟩
def k327:Ctr:=⟨[],[],fun _=>True,fun _ _=>True,0,some (.ctr i327)⟩
def i328:CtrI:=⟨[.bx 362 [.d i6,.d i6,.d i6,.ow 24 [.row 16 [i6,i6]],.d i6],.d (.ag [i6,i6,i6,i6,i6,i6,i6,i6,i6,i6]),.d (.ag [i6,i6,i6,i6,i6,i6,i6,i6,i6,i6])],[],fun a hp=>oI 0 4 hp fun o0_4=>oL 1 hp fun lo1=>Pr (0<=o0_4/\o0_4<=2199023255552/\lo1<=o0_4),fun a hp r hq=>oL 1 hq fun lo1n=>oI 0 4 hq fun o0_4n=>oI 0 4 hp fun o0_4=>Pr (lo1n<=o0_4n/\o0_4<=o0_4n/\o0_4n<=o0_4+32)⟩
def k328:Ctr:=⟨[],[],fun _=>True,fun _ _=>True,0,some (.ctr i328)⟩
def w331:IW:=bI E TT C6 TB [] dr0 f331
def k331:Ctr:=⟨[],[],fun _=>True,fun _ _=>True,0,some (.inl w331)⟩
def k332:Ctr:=⟨[.sc (.str),.sc (.str)],[.sc (.row 16 [.str])],fun a=>rS 1 a fun sa1=>rS 0 a fun sa0=>Pr (sa1=1/\sa0<=4194304),fun a r=>rL 0 r fun lr0=>rS 0 a fun sa0=>rR 0 r fun Rr0=>Pr (1<=lr0/\lr0<=sa0+1/\AllB (fun c=>cSl c<=sa0) Rr0 lr0),0,none⟩
def k123:Ctr:=⟨[.ag kNo],[.sc (.str)],fun a=>match a with|[.agg cs]=>Pr (NOk (cs.map cSV))|_=>Pr False,fun a r=>match a with|[.agg cs]=>rT 0 r fun Tr0=>rS 0 r fun sr0=>Pr (Tr0.data.toList=jD (cs.map cSV)/\1<=sr0/\sr0<=16777216)|_=>Pr False,0,none⟩
def i140:CtrI:=⟨[.bx 222 [.d (.bool),.d (.str),.d i6,.d i6]],[.d (.ag kNo)],fun a hp=>oRd 0 hp fun m T p e=>Pr (m=true/\0<=p/\p<=((T.data.toList.length:Nat):Int)/\((T.data.toList.length:Nat):Int)<=1099511627776),fun a hp r hq=>oRd 0 hp fun m T p e=>oRd 0 hq fun m1 T1 p1 e1=>(match r with|[.agg cs]=>Pr (m1=true/\T1=T/\0<=p1/\p1<=((T.data.toList.length:Nat):Int)/\VC jD aOo T p e (cs.map cSV) p1 e1)|_=>Pr False)⟩
def k140:Ctr:=⟨[],[],fun _=>True,fun _ _=>True,0,some (.ctr i140)⟩
def C7:CTb:=(323,k323)::(327,k327)::(328,k328)::(331,k331)::(332,k332)::(123,k123)::(140,k140)::C6
def i291:CtrI:=⟨[.bx 362 [.d i6,.d i6,.d i6,.ow 24 [.row 16 [i6,i6]],.d i6],.d (.sc (.row 16 [i6,i6])),.d (.sc (.bool))],[],fun a hp=>oI 0 4 hp fun o0_4=>oL 1 hp fun lo1=>rL 1 a fun la1=>Pr (0<=o0_4/\o0_4<=1099511627776/\lo1<=o0_4/\la1<=4096),fun a hp r hq=>oL 1 hq fun lo1n=>oI 0 4 hq fun o0_4n=>oI 0 4 hp fun o0_4=>Pr (lo1n<=o0_4n/\o0_4<=o0_4n/\o0_4n<=o0_4+1048576)⟩
def k291:Ctr:=⟨[],[],fun _=>True,fun _ _=>True,0,some (.ctr i291)⟩
def w294:IW:=aIu E TT C7 TB [(7,⟨[4,6,7,9,25,26],[(12,none),(27,none)],[9],[],[],[],[(9,0,16,[.str])],fun f0 h0 fr hp=>gI 27 fr fun t27=>gI 26 fr fun t26=>gS 12 fr fun s12=>gBL 9 0 fr hp fun lenB9_0=>gBL 9 0 f0 h0 fun lenB9_0e=>gBR 9 0 fr hp fun RB9_0=>Pr (0<=t27/\t27<=t26/\(s12<=129*(t27+1)/\lenB9_0<=lenB9_0e+t27/\AllB (fun c=>cSl c<=30000) RB9_0 lenB9_0)),.sub (.sl 26) (.sl 27),0⟩)] ⟨[(10,([4000004],true))],[],[],[],[]⟩ f294 [4,6,7,9] 416 [(1,⟨[0,2],[],[0,2],[],[],[],[],fun f0 h0 fr hp=>Pr (0<=0),.cst 0,0⟩),(5,⟨[0,1,2,3],[],[2,3000003],[],[],[],[(3000003,0,16,[.str])],fun f0 h0 fr hp=>gBL 3000003 0 fr hp fun lenB3000003_0=>gBL 2 0 fr hp fun lenB2_0=>gBR 3000003 0 fr hp fun RB3000003_0=>Pr (lenB3000003_0+lenB2_0<=128/\lenB2_0<=128/\AllB (fun c=>cSl c<=30000) RB3000003_0 lenB3000003_0),.bn 2 0,0⟩)] dr0 f416
def k294:Ctr:=⟨[],[],fun _=>True,fun _ _=>True,0,some (.inl w294)⟩
def k74:Ctr:=⟨[.ag kDo],[.sc (.str)],fun a=>match a with|[.agg cs]=>Pr (DOk (cs.map cSV))|_=>Pr False,fun a r=>match a with|[.agg cs]=>rT 0 r fun Tr0=>rS 0 r fun sr0=>Pr (Tr0.data.toList=jR (cs.map cSV)/\1<=sr0/\sr0<=1200000000)|_=>Pr False,0,none⟩
def i90:CtrI:=⟨[.bx 222 [.d (.bool),.d (.str),.d i6,.d i6]],[.d (.ag kDo)],fun a hp=>oRd 0 hp fun m T p e=>Pr (m=true/\0<=p/\p<=((T.data.toList.length:Nat):Int)/\((T.data.toList.length:Nat):Int)<=1099511627776),fun a hp r hq=>oRd 0 hp fun m T p e=>oRd 0 hq fun m1 T1 p1 e1=>(match r with|[.agg cs]=>Pr (m1=true/\T1=T/\0<=p1/\p1<=((T.data.toList.length:Nat):Int)/\VC jR gF T p e (cs.map cSV) p1 e1)|_=>Pr False)⟩
def k90:Ctr:=⟨[],[],fun _=>True,fun _ _=>True,0,some (.ctr i90)⟩
def C8:CTb:=(291,k291)::(294,k294)::(74,k74)::(90,k90)::C7
def k250:Ctr:=tc [.sc (.row 24 [.row 16 [i6,i6]]),.sc (.row 1 [.bool]),.sc i6,.sc i6,.sc i6] [.sc (.row 24 [.row 16 [i6,i6]]),.sc i6]
def k252:Ctr:=⟨[.ag [i6,i6,i6,.row 40 [.int .u8,i6,.row 56 [i6,i6,i6,i6,i6,i6,i6]],.row 16 [.int .u8,.int .u8,i6]],.sc (.str),.sc i6,.sc i6],[.sc (.row 24 [.row 16 [i6,i6]]),.sc i6],fun _=>Pr True,fun a r=>rI 1 r fun r1=>rS 1 a fun sa1=>Pr (r1=0->sa1<=128),0,none⟩
def C9:CTb:=(250,k250)::(252,k252)::C8
def k204:Ctr:=⟨[.ag kNo],[.sc i6],fun _=>Pr True,fun a r=>rI 0 r fun r0=>rcL 0 30 a fun lc0_30=>Pr (r0=0->lc0_30<=128),0,none⟩
def k205:Ctr:=⟨[.ag kNo],[.sc i6],fun _=>Pr True,fun a r=>rI 0 r fun r0=>rcS 0 35 a fun sc0_35=>Pr (r0=0->sc0_35<=128),0,none⟩
def C10:CTb:=(204,k204)::(205,k205)::C9
def k154:Ctr:=⟨[.ag kNo],[.sc i6],fun _=>Pr True,fun a r=>rI 0 r fun r0=>rcI 0 1 a fun c0_1=>rcI 0 19 a fun c0_19=>rcI 0 20 a fun c0_20=>rcR 0 21 a fun Rc0_21=>rcL 0 27 a fun lc0_27=>rcL 0 29 a fun lc0_29=>rcL 0 30 a fun lc0_30=>rcS 0 35 a fun sc0_35=>rcL 0 42 a fun lc0_42=>Pr ((r0=0->c0_1=2->IOk c0_19 c0_20 Rc0_21)/\(r0=0->(c0_1=4->lc0_27<=16/\lc0_29<=16)/\(c0_1=5->lc0_30<=128)/\(c0_1=6->sc0_35<=128)/\(c0_1=7->lc0_27<=16/\lc0_29<=16)/\(c0_1=8->lc0_27<=16)/\(c0_1=11->lc0_42<=64))),0,none⟩
def C11:CTb:=(154,k154)::C10
def k107:Ctr:=⟨[.ag kNo,.sc i6,.sc i6],[.sc i6],fun _=>Pr True,fun a r=>match a,r with|[.agg cs,_,_],[.int _ r]=>Pr (r=0->NOk (cs.map cSV))|_,_=>Pr False,0,none⟩
def C12:CTb:=(107,k107)::C11
def k65:Ctr:=⟨[.ag kDo],[.sc i6],fun _=>Pr True,fun a r=>rI 0 r fun r0=>rcR 0 3 a fun Rc0_3=>rcL 0 3 a fun lc0_3=>Pr (r0=0->AllB NOk Rc0_3 lc0_3),0,none⟩
def C13:CTb:=(65,k65)::C12
def k40:Ctr:=⟨[.ag kDo],[.sc i6],fun _=>Pr True,fun a r=>match a,r with|[.agg cs],[.int _ r]=>Pr (r=0->DOk (cs.map cSV))|_,_=>Pr False,0,none⟩
def C14:CTb:=(40,k40)::C13
end Go.Proofs.YtfcmggoiphphnaaGreatDoor
