/-
  An abstract machine that runs a program of the given form, and its soundness, part 15.
-/
import Derived.Test.YtlikijmihbgloaaGreatDoorAb14
set_option linter.unusedVariables false
set_option linter.unusedSimpArgs false
set_option linter.unusedSectionVars false
noncomputable section
namespace Go.AM
open Go.RowKit
section
variable {α:Type} [DecidableEq α]
def Gh(val:α->List UInt8)(okv:α->Prop)(T:BA)(a0 e0:Int)(w h:Int)(L:List α)(rest:BL):Prop:=((0<=w/\w<=256)/\(0<=h/\h<=256))/\(w=0↔h=0)/\((L.length:Nat):Int)=w*h/\(∀x∈L,okv x)/\RdB T a0 (eN w++(eN h++(iZ val L++rest)))/\e0=0
def Gr2(val:α->List UInt8)(okv:α->Prop)(T:BA)(a0 e0 w h:Int)(L:List α)(rest:BL):Prop:=((L.length:Nat):Int)=w*h/\(∀x∈L,okv x)/\RdB T a0 (iZ val L++rest)/\e0=0
def RJ(val:α->List UInt8)(un:α->List CT)(okv:α->Prop)(T:BA)(a0 e0 w h:Int)(R:LX)(p e:Int):Prop:=∀L rest,Gr2 val okv T a0 e0 w h L rest->e=0/\∃k,k<=L.length/\R=(L.take k).map un/\RdB T p (iZ val (L.drop k)++rest)/\∀x y,0<k->L[k - 1]?=some x->L[k]?=some y->x≠y
def QR(val:α->List UInt8)(un:α->List CT)(okv:α->Prop)(T:BA)(a0 e0 w h:Int)(R:LX)(p e:Int):Prop:=∀w' h' L rest,Gh val okv T a0 e0 w' h' L rest->w=w'/\h=h'/\e=0/\R=L.map un/\RdB T p rest
def VP(val:α->List UInt8)(okv:α->Prop)(T:BA)(a0 e0:Int)(v:α)(p e:Int):Prop:=∀x rest,okv x->RdB T a0 (val x++rest)->e0=0->v=x/\RdB T p rest/\e=0
variable {val:α->List UInt8}{un:α->List CT}{okv:α->Prop}{T:BA}{a0 e0 w h p e p1 e1 p2 e2 n M wr hr p3 e3:Int}{R R':LX}{v:α}{m:CL->α}
theorem RJ.init(hR:R=[]):RJ val un okv T a0 e0 w h R a0 e0:=fun L rest g=>⟨g.2.2.2,0,Nat.zero_le _,by rw[hR];simp,by simpa using g.2.2.1,fun x y h=>absurd h (Nat.lt_irrefl 0)⟩
theorem Gh.two(c1:CP T (max 256 0) a0 e0 w p1 e1)(c2:CP T (max 256 0) p1 e1 h p2 e2){w' h':Int}{L:List α}{rest:BL}(g:Gh val okv T a0 e0 w' h' L rest):w=w'/\h=h'/\Gr2 val okv T p2 e2 w h L rest:=by
 obtain⟨⟨gw,gh⟩,g0,gl,go,gr,ge⟩:=g;have e256:max (256:Int) 0=256:=rfl;rw[e256] at c1 c2;obtain⟨a,b,c⟩:=c1 _ _ gw.1 gw.2 gr ge;obtain⟨a',b',c'⟩:=c2 _ _ gh.1 gh.2 b c;subst a;subst a';exact⟨rfl,rfl,gl,go,b',c'⟩
theorem QR.no(c1:CP T (max 256 0) a0 e0 w p1 e1)(c2:CP T (max 256 0) p1 e1 h p2 e2)(hn:¬(w=0↔h=0)):QR val un okv T a0 e0 wr hr R' p3 e3:=fun w' h' L rest g=>by
 obtain⟨a,b,_⟩:=Gh.two c1 c2 g;subst a;subst b;exact absurd g.2.1 hn
theorem QR.err(c1:CP T (max 256 0) a0 e0 w p1 e1)(c2:CP T (max 256 0) p1 e1 h p2 e2)(h1:RJ val un okv T p2 e2 w h R p e)(he:¬e=0):QR val un okv T a0 e0 wr hr R' p3 e3:=fun w' h' L rest g=>by
 obtain⟨a,b,g2⟩:=Gh.two c1 c2 g;exact absurd (h1 _ _ g2).1 he
theorem QR.ok(c1:CP T (max 256 0) a0 e0 w p1 e1)(c2:CP T (max 256 0) p1 e1 h p2 e2)(h1:RJ val un okv T p2 e2 w h R p e)(hl:¬((R.length:Nat):Int)<w*h):QR val un okv T a0 e0 w h R p e:=fun w' h' L rest g=>by
 obtain⟨a,b,g2⟩:=Gh.two c1 c2 g;obtain⟨c,k,k1,k2,k3,_⟩:=h1 _ _ g2;have qe:=g2.1;have e1:R.length=k:=by rw[k2,List.length_map,List.length_take];omega
 have e2:k=L.length:=by
  rw[<-qe] at hl;omega
 refine⟨a,b,c,by rw[k2,e2,List.take_length],?_⟩;rw[e2,List.drop_length,aTi,List.nil_append] at k3;exact k3
theorem bFk{L:List α}{k:Nat}(hk:k<L.length):∃a j,L[k]?=some a/\k<j/\j<=L.length/\(∀i b,k<=i->i<j->L[i]?=some b->b=a)/\(∀b,L[j]?=some b->b≠a)/\iZ val (L.drop k)=eN (((j - k - 1:Nat):Nat):Int)++(val a++iZ val (L.drop j)):=by
 have key:∀d j,L.length - j=d->k<j->j<=L.length->(∀i b,k<=i->i<j->L[i]?=some b->b=L[k])->∃j,k<j/\j<=L.length/\(∀i b,k<=i->i<j->L[i]?=some b->b=L[k])/\(∀b,L[j]?=some b->b≠L[k]):=by
  intro d
  induction d with
  |zero=>
   intro j hd h1 h2 h3;exact⟨j,h1,h2,h3,fun b hb=>by rw[List.getElem?_eq_none (by omega)] at hb;cases hb⟩
  |succ d ih=>
   intro j hd h1 h2 h3;have hj:j<L.length:=by omega
   by_cases e:L[j]=L[k]
   ·refine ih (j+1) (by omega) (by omega) (by omega) fun i b k1 k2 hb=>?_;by_cases ek:i=j
    ·subst ek;rw[List.getElem?_eq_getElem hj] at hb;rw[<-Option.some.inj hb,e]
    ·exact h3 i b k1 (by omega) hb
   ·exact⟨j,h1,h2,h3,fun b hb hbe=>e (by rw[List.getElem?_eq_getElem hj] at hb;rw[Option.some.inj hb,hbe])⟩
 obtain⟨j,h1,h2,h3,h4⟩:=key _ (k+1) rfl (by omega) (by omega) (fun i b k1 k2 hb=>by
  obtain rfl:i=k:=by omega
  rw[List.getElem?_eq_getElem hk] at hb;exact(Option.some.inj hb).symm)
 refine⟨L[k],j,List.getElem?_eq_getElem hk,h1,h2,h3,h4,?_⟩;rw[aOy (List.getElem?_eq_getElem hk) h1 h2 h3 h4,QA]
theorem RJ.run(h1:RJ val un okv T a0 e0 w h R p e)(hl:((R.length:Nat):Int)<w*h)(hM:M=w*h - ((R.length:Nat):Int) - 1)(h2:CP T (max M 0) p e n p1 e1)(h3:VP val okv T p1 e1 v p2 e2):∀L rest,Gr2 val okv T a0 e0 w h L rest->e2=0/\∃k j,k<j/\j<=L.length/\n=((j - k - 1:Nat):Int)/\R=(L.take k).map un/\L[k]?=some v/\(∀i b,k<=i->i<j->L[i]?=some b->b=v)/\(∀b,L[j]?=some b->b≠v)/\RdB T p2 (iZ val (L.drop j)++rest)/\∀x y,0<k->L[k - 1]?=some x->L[k]?=some y->x≠y:=fun L rest g=>by
 obtain⟨c,k,k1,k2,k3,k4⟩:=h1 _ _ g;have qe:=g.1;have e1:R.length=k:=by rw[k2,List.length_map,List.length_take];omega
 have hk:k<L.length:=by rw[<-qe] at hl;omega
 obtain⟨a,j,j1,j2,j3,j4,j5,j6⟩:=bFk (val:=val) hk;rw[j6,QA] at k3;obtain⟨q1,q2,q3⟩:=h2 _ _ (Int.natCast_nonneg _) (by rw[hM,<-qe,e1];omega) k3 c;rw[QA] at q2;obtain⟨r1,r2,r3⟩:=h3 _ _ (g.2.1 a (List.mem_of_getElem? j1)) q2 q3;subst r1;exact⟨r3,k,j,j2,j3,q1,k2,j1,j4,j5,r2,k4⟩
theorem bFq{L:List α}{k j:Nat}{v:α}(h1:k<j)(h2:j<=L.length)(h3:∀i b,k<=i->i<j->L[i]?=some b->b=v):L.take j=L.take k++List.replicate (j - k) v:=by
 apply List.ext_getElem?;intro i;rcases Nat.lt_or_ge i k with hi|hi
 ·rw[List.getElem?_append_left (by rw[List.length_take];omega),List.getElem?_take_of_lt (by omega),List.getElem?_take_of_lt hi]
 ·rw[List.getElem?_append_right (by rw[List.length_take];omega),List.length_take,Nat.min_eq_left (by omega),List.getElem?_replicate];rcases Nat.lt_or_ge i j with hj|hj
  ·rw[List.getElem?_take_of_lt hj,if_pos (by omega),List.getElem?_eq_getElem (by omega)];exact congrArg some (h3 i _ hi hj (List.getElem?_eq_getElem (by omega)))
  ·rw[if_neg (by omega),List.getElem?_eq_none (by rw[List.length_take];omega)]
theorem RJ.next(h1:RJ val un okv T a0 e0 w h R p e)(hl:((R.length:Nat):Int)<w*h)(hM:M=w*h - ((R.length:Nat):Int) - 1)(h2:CP T (max M 0) p e n p1 e1)(h3:VP val okv T p1 e1 v p2 e2){t:Int}(hR:R'=R++List.replicate t.toNat (un v))(ht:t=n+1):RJ val un okv T a0 e0 w h R' p2 e2:=fun L rest g=>by
 obtain⟨c,k,j,k1,k2,k3,k4,k5,k6,k7,k8,_⟩:=RJ.run h1 hl hM h2 h3 _ _ g;refine⟨c,j,k2,?_,k8,fun x y _ hx hy=>?_⟩
 ·rw[hR,bFq k1 k2 k6,List.map_append,List.map_replicate,k4,show t.toNat=j - k by omega]
 ·rw[k6 (j - 1) x (by omega) (by omega) hx];exact fun e=>k7 y hy e.symm
theorem QR.err2(c1:CP T (max 256 0) a0 e0 w p1 e1)(c2:CP T (max 256 0) p1 e1 h p2 e2)(h1:RJ val un okv T p2 e2 w h R p e)(hl:((R.length:Nat):Int)<w*h)(hM:M=w*h - ((R.length:Nat):Int) - 1){pa ea pb eb:Int}(h2:CP T (max M 0) p e n pa ea)(h3:VP val okv T pa ea v pb eb)(he:¬eb=0):QR val un okv T a0 e0 wr hr R' p3 e3:=fun w' h' L rest g=>by
 obtain⟨a,b,g2⟩:=Gh.two c1 c2 g;exact absurd (RJ.run h1 hl hM h2 h3 _ _ g2).1 he
theorem QR.dup(c1:CP T (max 256 0) a0 e0 w p1 e1)(c2:CP T (max 256 0) p1 e1 h p2 e2)(h1:RJ val un okv T p2 e2 w h R p e)(hl:((R.length:Nat):Int)<w*h)(hM:M=w*h - ((R.length:Nat):Int) - 1){pa ea pb eb:Int}(h2:CP T (max M 0) p e n pa ea)(h3:VP val okv T pa ea v pb eb){c:CL}{i:Int}(hc:elC R i=c)(hi:i=((R.length:Nat):Int) - 1)(h0:0<((R.length:Nat):Int))(hm:∀x,m (un x)=x)(hv:m c=v):QR val un okv T a0 e0 wr hr R' p3 e3:=fun w' h' L rest g=>by
 obtain⟨a,b,g2⟩:=Gh.two c1 c2 g;obtain⟨_,k,j,k1,k2,k3,k4,k5,k6,k7,k8,k9⟩:=RJ.run h1 hl hM h2 h3 _ _ g2;exfalso;have hk:R.length=k:=by rw[k4,List.length_map,List.length_take];omega
 have hx:(L.take k)[k - 1]?=L[k - 1]?:=List.getElem?_take_of_lt (by omega);have qj:k - 1<L.length:=by omega
 have e1:c=un L[k - 1]:=by
  rw[<-hc,hi];unfold elC;rw[show(((R.length:Nat):Int) - 1).toNat=k - 1 by omega,k4,List.getElem?_map,hx,List.getElem?_eq_getElem qj];rfl
 rw[e1,hm] at hv;exact k9 _ _ (by omega) (List.getElem?_eq_getElem qj) k5 hv
end
def unI(v:Int):CL:=[.v (.int .i64 v)]
def unP(p:Int×Int×Int×Int):CL:=[.v (.int .i64 p.1),.v (.int .i64 p.2.1),.v (.int .i64 p.2.2.1),.v (.int .i64 p.2.2.2)]
def okI(v:Int):Prop:=U16 v
def okQ(p:Int×Int×Int×Int):Prop:=U16 p.1/\U16 p.2.1/\U16 p.2.2.1/\U16 p.2.2.2
theorem VP.I{T:BA}{p e v p1 e1:Int}(h:CP T (max 65535 0) p e v p1 e1):VP eN okI T p e v p1 e1:=fun x rest hx hr he=>h x rest hx.1 hx.2 hr he
theorem VP.P{T:BA}{p e a p1 e1 b p2 e2 c p3 e3 d p4 e4:Int}(h4:CP T (max 65535 0) p3 e3 d p4 e4)(h3:CP T (max 65535 0) p2 e2 c p3 e3)(h2:CP T (max 65535 0) p1 e1 b p2 e2)(h1:CP T (max 65535 0) p e a p1 e1):VP vF okQ T p e (a,b,c,d) p4 e4:=fun x rest hx hr he=>by
 obtain⟨x1,x2,x3,x4⟩:=x;unfold vF at hr;simp only[QA] at hr;obtain⟨rfl,r1,q1⟩:=h1 _ _ hx.1.1 hx.1.2 hr he;obtain⟨rfl,r2,q2⟩:=h2 _ _ hx.2.1.1 hx.2.1.2 r1 q1;obtain⟨rfl,r3,q3⟩:=h3 _ _ hx.2.2.1.1 hx.2.2.1.2 r2 q2;obtain⟨rfl,r4,q4⟩:=h4 _ _ hx.2.2.2.1 hx.2.2.2.2 r3 q3;exact⟨rfl,r4,q4⟩
theorem mI_un(x:Int):mI (unI x)=x:=rfl
theorem pI_un(x:Int×Int×Int×Int):pI (unP x)=x:=rfl
theorem aIz{w h:Int}(h1:0<=w)(h2:0<=h):((([]:LX).length:Nat):Int)<=w*h:=Int.mul_nonneg h1 h2
theorem aFa{R:LX}{c:CL}:R=R++List.replicate (0:Int).toNat c:=by simp
theorem wV{R R0 R' m:LX}{c:CL}{t:Int}(hR:R=R0++List.replicate t.toNat c)(e:R'=R++m)(hm:m=[c])(h0:0<=t):R'=R0++List.replicate (t+1).toNat c:=by
 rw[e,hR,hm,show(t+1).toNat=t.toNat+1 by omega,QA,List.replicate_succ']
theorem aZo{p q:Prop} [Decidable p] [Decidable q](h:(decide p !=decide q)=true):¬(p↔q):=by
 intro e;have:decide p=decide q:=decide_eq_decide.2 e;rw[this] at h;simp at h
theorem pI_v{c:CL}{x y z w:Int}(e:EqX [.int .i64 (cI c 0),.int .i64 (cI c 1),.int .i64 (cI c 2),.int .i64 (cI c 3)] [.int .i64 x,.int .i64 y,.int .i64 z,.int .i64 w]):pI c=(x,y,z,w):=by
 have e:=e.h;simp only[qJ,and_true] at e;simp only[pI,e.1,e.2.1,e.2.2.1,e.2.2.2]
end Go.AM
namespace Go.AM
open Go.RowKit
def VC(val:CL->List UInt8)(ok:CL->Prop)(T:BA)(a0 e0:Int)(v:CL)(p e:Int):Prop:=∀x rest,ok x->RdB T a0 (val x++rest)->e0=0->v=x/\RdB T p rest/\e=0
def LP(val:CL->List UInt8)(ok:CL->Prop)(T:BA)(p0 e0 n:Int)(R:LX)(t p e:Int):Prop:=∀L rest,((L.length:Nat):Int)=n->(∀x∈L,ok x)->RdB T p0 (eF val L++rest)->e0=0->R=L.take t.toNat/\RdB T p (eF val (L.drop t.toNat)++rest)/\e=0
def LQ(val:CL->List UInt8)(ok:CL->Prop)(M:Int)(T:BA)(p0 e0:Int)(R:LX)(p e:Int):Prop:=∀L rest,((L.length:Nat):Int)<=M->(∀x∈L,ok x)->RdB T p0 (eN ((L.length:Nat):Int)++(eF val L++rest))->e0=0->R=L/\RdB T p rest/\e=0
section
variable {val:CL->List UInt8}{ok:CL->Prop}{T:BA}{p0 e0 n t p e p1 e1 p2 e2 M p3 e3:Int}{R R' m:LX}{v:CL}
theorem LP.init(hR:R=[]):LP val ok T p e n R 0 p e:=fun L rest _ _ h he=>⟨by rw[hR];simp,by simpa using h,he⟩
theorem LP.step(h:LP val ok T p0 e0 n R t p e)(h0:0<=t)(ht:t<n)(h1:VC val ok T p e v p1 e1)(hR:R'=R++m)(hm:m=[v]):LP val ok T p0 e0 n R' (t+1) p1 e1:=fun L rest hl ho hr he=>by
 obtain⟨k1,k2,k3⟩:=h L rest hl ho hr he;have hk:t.toNat<L.length:=by omega
 rw[List.drop_eq_getElem_cons hk,aZl,QA] at k2;obtain⟨q1,q2,q3⟩:=h1 _ _ (ho _ (List.getElem_mem hk)) k2 k3;refine⟨?_,?_,q3⟩
 ·rw[hR,hm,q1,k1,show(t+1).toNat=t.toNat+1 by omega,List.take_succ_eq_append_getElem hk]
 ·rw[show(t+1).toNat=t.toNat+1 by omega];exact q2
theorem LQ.err2(c:CP T (max M 0) p0 e0 n p1 e1)(h:LP val ok T p1 e1 n R t p e)(h0:0<=t)(ht:t<n)(h1:VC val ok T p e v p2 e2)(he:¬e2=0):LQ val ok M T p0 e0 R' p3 e3:=fun L rest hl ho hr hz=>by
 obtain⟨k1,k2,k3⟩:=c _ _ (by omega) (by omega) hr hz;exact absurd ((LP.step h h0 ht h1 rfl rfl) L rest k1.symm ho k2 k3).2.2 he
theorem LQ.fine(c:CP T (max M 0) p0 e0 n p1 e1)(h:LP val ok T p1 e1 n R t p e)(ht:n<=t):LQ val ok M T p0 e0 R p e:=fun L rest hl ho hr hz=>by
 obtain⟨k1,k2,k3⟩:=c _ _ (by omega) (by omega) hr hz;obtain⟨q1,q2,q3⟩:=h L rest k1.symm ho k2 k3;rw[List.take_of_length_le (by omega)] at q1;rw[List.drop_of_length_le (by omega),bDh,List.nil_append] at q2;exact⟨q1,q2,q3⟩
end
def I64(n:Int):Prop:= -9223372036854775808<=n/\n<=9223372036854775807
def okC(n:Nat)(c:CL):Prop:=c=(List.range n).map (fun j=>.v (.int .i64 (cI c j)))/\∀j,j<n->I64 (cI c j)
def NP(T:BA)(p e:Int)(vs:List Int)(p' e':Int):Prop:=∀ns rest,ns.length=vs.length->(∀x∈ns,I64 x)->RdB T p (ns.flatMap eI++rest)->e=0->vs=ns/\RdB T p' rest/\e'=0
section
variable {T:BA}{p e p1 e1 p' e' v:Int}{vs:List Int}
theorem NP.nil:NP T p e [] p e:=fun ns rest h _ hr he=>by
 have:ns=[]:=List.length_eq_zero_iff.1 h;subst this;exact⟨rfl,by simpa using hr,he⟩
theorem NP.cons(h:NP T p1 e1 vs p' e')(k:IP T p e v p1 e1):NP T p e (v::vs) p' e':=fun ns rest hl ho hr he=>by
 rcases ns with _|⟨x,ns⟩
 ·cases hl
 ·rw[List.flatMap_cons,QA] at hr;have hx:=ho x (List.mem_cons_self ..);obtain⟨a,b,c⟩:=k x _ hx.1 hx.2 hr he;obtain⟨a',b',c'⟩:=h ns rest (by simpa using hl) (fun y hy=>ho y (List.mem_cons_of_mem _ hy)) b c;exact⟨by rw[a,a'],b',c'⟩
theorem VC.C{n:Nat}(h:NP T p e vs p' e')(hn:vs.length=n):VC (eC (List.range n)) (okC n) T p e (vs.map fun v=>.v (.int .i64 v)) p' e':=fun x rest hx hr he=>by
 have e0:eC (List.range n) x=((List.range n).map fun j=>cI x j).flatMap eI:=by simp only[eC,List.flatMap_map]
 rw[e0] at hr
 obtain⟨a,b,c⟩:=h _ rest (by rw[List.length_map,List.length_range,hn]) (fun y hy=>by
  obtain⟨j,hj,rfl⟩:=List.mem_map.1 hy;exact hx.2 j (List.mem_range.1 hj)) hr he
 refine⟨?_,b,c⟩;rw[a,hx.1,List.map_map];refine List.map_congr_left fun j hj=>?_;have hj:=List.mem_range.1 hj;have:cI ((List.range n).map fun j=>(CT.v (.int .i64 (cI x j)))) j=cI x j:=by
  conv=>rhs;rw[hx.1]
 simp only[Function.comp];rw[this]
end
section
variable {T:BA}{p e a p1 e1 b p2 e2 c p3 e3 d p4 e4 f p5 e5 g p6 e6 h p7 e7:Int}
theorem VC.I(h1:IP T p e a p1 e1):VC fI (okC 1) T p e [.v (.int .i64 a)] p1 e1:=by
 have:=VC.C (n:=1) (NP.cons NP.nil h1) rfl;exact fun x rest hx hr he=>this x rest hx (by simpa [fI,eC,List.range,List.range.loop] using hr) he
theorem VC.P(h2:IP T p1 e1 b p2 e2)(h1:IP T p e a p1 e1):VC fP (okC 2) T p e [.v (.int .i64 a),.v (.int .i64 b)] p2 e2:=VC.C (n:=2) (NP.cons (NP.cons NP.nil h2) h1) rfl
theorem VC.S(h5:IP T p4 e4 f p5 e5)(h4:IP T p3 e3 d p4 e4)(h3:IP T p2 e2 c p3 e3)(h2:IP T p1 e1 b p2 e2)(h1:IP T p e a p1 e1):VC fS (okC 5) T p e [.v (.int .i64 a),.v (.int .i64 b),.v (.int .i64 c),.v (.int .i64 d),.v (.int .i64 f)] p5 e5:=VC.C (n:=5) (NP.cons (NP.cons (NP.cons (NP.cons (NP.cons NP.nil h5) h4) h3) h2) h1) rfl
theorem VC.G(h7:IP T p6 e6 h p7 e7)(h6:IP T p5 e5 g p6 e6)(h5:IP T p4 e4 f p5 e5)(h4:IP T p3 e3 d p4 e4)(h3:IP T p2 e2 c p3 e3)(h2:IP T p1 e1 b p2 e2)(h1:IP T p e a p1 e1):VC fG (okC 7) T p e [.v (.int .i64 a),.v (.int .i64 b),.v (.int .i64 c),.v (.int .i64 d),.v (.int .i64 f),.v (.int .i64 g),.v (.int .i64 h)] p7 e7:=VC.C (n:=7) (NP.cons (NP.cons (NP.cons (NP.cons (NP.cons (NP.cons (NP.cons NP.nil h7) h6) h5) h4) h3) h2) h1) rfl
end
def FP(T:BA)(p e:Int)(b:Bool)(p' e':Int):Prop:=∀(x:Bool) rest,RdB T p (eN (if x=true then 1 else 0)++rest)->e=0->b=x/\RdB T p' rest/\e'=0
theorem FP.fine{T:BA}{p e n p1 e1:Int}(h:UP T p e n p1 e1){b:Bool}(hb:b=decide (n=1)):FP T p e b p1 e1:=fun x rest hr he=>by
 obtain⟨a,k,c⟩:=h (if x=true then 1 else 0) rest (by split<;>omega) (by split<;>omega) hr he;refine⟨?_,k,c⟩;rw[hb,a];cases x<;>decide
theorem FP.bad{T:BA}{p e n p1 e1 e2:Int}(h:UP T p e n p1 e1)(h1:1<n){b:Bool}:FP T p e b p1 e2:=fun x rest hr he=>by
 obtain⟨a,k,c⟩:=h (if x=true then 1 else 0) rest (by split<;>omega) (by split<;>omega) hr he;split at a<;>omega
end Go.AM
namespace Go.AM
open Go.RowKit
theorem aYm{l:LX}{y:CL}(h:y∈l):∃j:Int,0<=j/\j<((l.length:Nat):Int)/\elC l j=y:=by
 obtain⟨k,hk,rfl⟩:=List.getElem_of_mem h;refine⟨((k:Nat):Int),by omega,by omega,?_⟩;unfold elC;rw[Int.toNat_natCast,List.getElem?_eq_getElem hk];rfl
theorem AllB.mem{f:CL->Prop}{l:LX}{y:CL}(h:AllB f l ((l.length:Nat):Int))(hy:y∈l):f y:=by
 obtain⟨j,h0,h1,rfl⟩:=aYm hy;exact h j h0 h1
theorem aWj{s t:BA}(h:s.data.toList=t.data.toList):s=t:=by
 cases s;cases t;exact congrArg ByteArray.mk (Array.toList_inj.1 h)
theorem bCx{e n:Int}(h:¬e=0)(h2:¬e=0->n=0)(h1:1<n):False:=by have:=h2 h;omega
theorem bFc{e0 e n:Int}(h1:1<n)(h2:¬e=0->n=0)(h3:¬e0=0->¬e=0)(h4:¬e0=0):False:=by have:=h2 (h3 h4);omega
theorem bCu{e0 e1 e n:Int}(h1:1<n)(h2:¬e=0->n=0)(h3:¬e1=0->¬e=0)(h4:¬e0=0->¬e1=0)(h5:¬e0=0):False:=by have:=h2 (h3 (h4 h5));omega
def gBx(k:Nat)(fr:FR)(hp:HP)(K:SL->Prop):Prop:=match nF k fr hp with
 |some (.ptr i _)=>(match hget i hp with
  |some (.box _ cs)=>K cs
  |_=>False)
 |_=>False
def exC(js:NL):Nat->List SV->List SV->Prop
 |i,.int _ a::r,.int _ b::q=>(match aM i js with|true=>exC js (i+1) r q|false=>a=b/\exC js (i+1) r q)
 |i,.bool a::r,.bool b::q=>(match aM i js with|true=>exC js (i+1) r q|false=>a=b/\exC js (i+1) r q)
 |i,.str a::r,.str b::q=>(match aM i js with|true=>exC js (i+1) r q|false=>a=b/\exC js (i+1) r q)
 |i,.row _ _ a::r,.row _ _ b::q=>(match aM i js with|true=>exC js (i+1) r q|false=>a=b/\exC js (i+1) r q)
 |i,_::r,_::q=>exC js (i+1) r q
 |_,_,_=>True
def nM(l:LX):Prop:=l=(l.map mI).map unI
def nP(l:LX):Prop:=l=(l.map pI).map unP
section
variable {T:BA}{p e w h p1 e1 n:Int}{R l:LX}{rest:BL}
theorem QR.mask(q:QR eN unI okI T p e w h R p1 e1){w' h':Int}(hm:MOk w' h' l)(hn:nM l)(hr:RdB T p (eN w'++(eN h'++(iZ eN (l.map mI)++rest))))(he:e=0):w=w'/\h=h'/\R=l/\RdB T p1 rest/\e1=0:=by
 obtain⟨⟨a1,a2,a3,a4⟩,a5⟩:=hm
 obtain⟨k1,k2,k3,k4,k5⟩:=q w' h' _ rest ⟨⟨a1,a2⟩,a3,by rw[List.length_map];exact a4,fun x hx=>by
  obtain⟨y,hy,rfl⟩:=List.mem_map.1 hx;exact AllB.mem a5 hy,hr,he⟩
 exact⟨k1,k2,by rw[k4];exact hn.symm,k5,k3⟩
theorem QR.img(q:QR vF unP okQ T p e w h R p1 e1){w' h':Int}(hm:IOk w' h' l)(hn:nP l)(hr:RdB T p (eN w'++(eN h'++(iZ vF (l.map pI)++rest))))(he:e=0):w=w'/\h=h'/\R=l/\RdB T p1 rest/\e1=0:=by
 obtain⟨⟨a1,a2,a3,a4⟩,a5⟩:=hm
 obtain⟨k1,k2,k3,k4,k5⟩:=q w' h' _ rest ⟨⟨a1,a2⟩,a3,by rw[List.length_map];exact a4,fun x hx=>by
  obtain⟨y,hy,rfl⟩:=List.mem_map.1 hx;exact AllB.mem a5 hy,hr,he⟩
 exact⟨k1,k2,by rw[k4];exact hn.symm,k5,k3⟩
theorem TP.get{m:Int}{S s:BA}(q:TP T m p e S.data.toList p1 e1)(hm:((s.data.toList.length:Nat):Int)<=m)(hr:RdB T p (eT s.data.toList++rest))(he:e=0):S=s/\RdB T p1 rest/\e1=0:=by
 obtain⟨a,b,c⟩:=q _ _ hm hr he;exact⟨aWj a,b,c⟩
theorem LQ.of{val:CL->List UInt8}{ok:CL->Prop}{M p0 e0 t:Int}(h:LP val ok T p1 e1 n R t p e)(ht:n<=t)(c:CP T (max M 0) p0 e0 n p1 e1):LQ val ok M T p0 e0 R p e:=LQ.fine c h ht
theorem VC.bad{val:CL->List UInt8}{ok:CL->Prop}{c d:CL}(h1:¬e1=0)(h:VC val ok T p e c p1 e1):VC val ok T p e d p1 e1:=fun x rest hx hr he=>absurd (h x rest hx hr he).2.2 h1
end
def aOv(c:CL):Prop:=NOk c/\c=(bI kN c 0).map cSV/\(∀j,I64 (cI c j))/\nM (cR c 11)/\nP (cR c 21)/\(∀x∈cR c 27,okC 1 x)/\(∀x∈cR c 29,okC 5 x)/\(∀x∈cR c 30,okC 7 x)/\∀x∈cR c 42,okC 2 x
theorem aKa{T:BA}{i0 i1 i2 i7 i8 i9 i10 i12 i13 i14 i15 i16 i17 i18 i19 i20 i22 i23 i24 i25 i26 i28 i31 i32 i33 i34 i36 i37 i38 i39 i40 i41:Int}{S3 S35:BA}{b4 b5 b6:Bool}{R11 R21 R27 R29 R30 R42:LX}{p0 e0 p1 e1 p2 e2 p3 e3 p4 e4 p5 e5 p6 e6 p7 e7 p8 e8 p9 e9 p10 e10 p11 e11 p12 e12 p13 e13 p14 e14 p15 e15 p16 e16 p17 e17 p18 e18 p19 e19 p20 e20 p21 e21 p22 e22 p23 e23 p24 e24 p25 e25 p26 e26 p27 e27 p28 e28 p29 e29 p30 e30 p31 e31 p32 e32 p33 e33 p34 e34 p35 e35 p36 e36 p37 e37 p38 e38 p39 e39:Int}
 (h38:LQ fP (okC 2) 64 T p38 e38 R42 p39 e39)
 (h37:IP T p37 e37 i41 p38 e38)
 (h36:IP T p36 e36 i40 p37 e37)
 (h35:IP T p35 e35 i39 p36 e36)
 (h34:IP T p34 e34 i38 p35 e35)
 (h33:IP T p33 e33 i37 p34 e34)
 (h32:IP T p32 e32 i36 p33 e33)
 (h31:TP T (max 256 0) p31 e31 S35.data.toList p32 e32)
 (h30:IP T p30 e30 i34 p31 e31)
 (h29:IP T p29 e29 i33 p30 e30)
 (h28:IP T p28 e28 i32 p29 e29)
 (h27:IP T p27 e27 i31 p28 e28)
 (h26:LQ fG (okC 7) 128 T p26 e26 R30 p27 e27)
 (h25:LQ fS (okC 5) 16 T p25 e25 R29 p26 e26)
 (h24:IP T p24 e24 i28 p25 e25)
 (h23:LQ fI (okC 1) 16 T p23 e23 R27 p24 e24)
 (h22:IP T p22 e22 i26 p23 e23)
 (h21:IP T p21 e21 i25 p22 e22)
 (h20:IP T p20 e20 i24 p21 e21)
 (h19:IP T p19 e19 i23 p20 e20)
 (h18:IP T p18 e18 i22 p19 e19)
 (h17:QR vF unP okQ T p17 e17 i19 i20 R21 p18 e18)
 (h16:IP T p16 e16 i18 p17 e17)
 (al:IP T p15 e15 i17 p16 e16)
 (h14:IP T p14 e14 i16 p15 e15)
 (h13:IP T p13 e13 i15 p14 e14)
 (h12:IP T p12 e12 i14 p13 e13)
 (h11:IP T p11 e11 i13 p12 e12)
 (h10:IP T p10 e10 i12 p11 e11)
 (h9:QR eN unI okI T p9 e9 i9 i10 R11 p10 e10)
 (h8:IP T p8 e8 i8 p9 e9)
 (h7:IP T p7 e7 i7 p8 e8)
 (h6:FP T p6 e6 b6 p7 e7)
 (h5:FP T p5 e5 b5 p6 e6)
 (h4:FP T p4 e4 b4 p5 e5)
 (h3:TP T (max 256 0) p3 e3 S3.data.toList p4 e4)
 (h2:IP T p2 e2 i2 p3 e3)
 (h1:IP T p1 e1 i1 p2 e2)
 (h0:IP T p0 e0 i0 p1 e1):VC jZ aOv T p0 e0 [.v (.int .i64 i0),.v (.int .i64 i1),.v (.int .i64 i2),.v (.string S3),.v (.bool b4),.v (.bool b5),.v (.bool b6),.v (.int .i64 i7),.v (.int .i64 i8),.v (.int .i64 i9),.v (.int .i64 i10),.row R11,.v (.int .i64 i12),.v (.int .i64 i13),.v (.int .i64 i14),.v (.int .i64 i15),.v (.int .i64 i16),.v (.int .i64 i17),.v (.int .i64 i18),.v (.int .i64 i19),.v (.int .i64 i20),.row R21,.v (.int .i64 i22),.v (.int .i64 i23),.v (.int .i64 i24),.v (.int .i64 i25),.v (.int .i64 i26),.row R27,.v (.int .i64 i28),.row R29,.row R30,.v (.int .i64 i31),.v (.int .i64 i32),.v (.int .i64 i33),.v (.int .i64 i34),.v (.string S35),.v (.int .i64 i36),.v (.int .i64 i37),.v (.int .i64 i38),.v (.int .i64 i39),.v (.int .i64 i40),.v (.int .i64 i41),.row R42] p39 e39:=fun x rest hc r z=>by
 obtain⟨⟨⟨s3,l27,l29,l30,s35,l42⟩,m9,m19⟩,hk,hI,n11,n21,n27,n29,n30,n42⟩:=hc;simp only[jZ,eC,eB,wG,aHq,eSh,List.flatMap_cons,List.flatMap_nil,QA,List.nil_append,List.append_nil] at r;obtain⟨q,r,z⟩:=h0 _ _ (hI 0).1 (hI 0).2 r z;subst q;obtain⟨q,r,z⟩:=h1 _ _ (hI 1).1 (hI 1).2 r z;subst q;obtain⟨q,r,z⟩:=h2 _ _ (hI 2).1 (hI 2).2 r z;subst q;obtain⟨q,r,z⟩:=TP.get h3 (by omega) r z;subst q;obtain⟨q,r,z⟩:=h4 _ _ r z;subst q;obtain⟨q,r,z⟩:=h5 _ _ r z;subst q;obtain⟨q,r,z⟩:=h6 _ _ r z;subst q;obtain⟨q,r,z⟩:=h7 _ _ (hI 7).1 (hI 7).2 r z;subst q;obtain⟨q,r,z⟩:=h8 _ _ (hI 8).1 (hI 8).2 r z;subst q;obtain⟨q,q1,q2,r,z⟩:=QR.mask h9 m9 n11 r z;subst q;subst q1;subst q2;obtain⟨q,r,z⟩:=h10 _ _ (hI 12).1 (hI 12).2 r z;subst q;obtain⟨q,r,z⟩:=h11 _ _ (hI 13).1 (hI 13).2 r z;subst q;obtain⟨q,r,z⟩:=h12 _ _ (hI 14).1 (hI 14).2 r z;subst q;obtain⟨q,r,z⟩:=h13 _ _ (hI 15).1 (hI 15).2 r z;subst q;obtain⟨q,r,z⟩:=h14 _ _ (hI 16).1 (hI 16).2 r z;subst q;obtain⟨q,r,z⟩:=al _ _ (hI 17).1 (hI 17).2 r z;subst q;obtain⟨q,r,z⟩:=h16 _ _ (hI 18).1 (hI 18).2 r z;subst q;obtain⟨q,q1,q2,r,z⟩:=QR.img h17 m19 n21 r z;subst q;subst q1;subst q2;obtain⟨q,r,z⟩:=h18 _ _ (hI 22).1 (hI 22).2 r z;subst q;obtain⟨q,r,z⟩:=h19 _ _ (hI 23).1 (hI 23).2 r z;subst q;obtain⟨q,r,z⟩:=h20 _ _ (hI 24).1 (hI 24).2 r z;subst q;obtain⟨q,r,z⟩:=h21 _ _ (hI 25).1 (hI 25).2 r z;subst q;obtain⟨q,r,z⟩:=h22 _ _ (hI 26).1 (hI 26).2 r z;subst q;obtain⟨q,r,z⟩:=h23 _ _ (by omega) n27 r z;subst q;obtain⟨q,r,z⟩:=h24 _ _ (hI 28).1 (hI 28).2 r z;subst q;obtain⟨q,r,z⟩:=h25 _ _ (by omega) n29 r z;subst q;obtain⟨q,r,z⟩:=h26 _ _ (by omega) n30 r z;subst q;obtain⟨q,r,z⟩:=h27 _ _ (hI 31).1 (hI 31).2 r z;subst q;obtain⟨q,r,z⟩:=h28 _ _ (hI 32).1 (hI 32).2 r z;subst q;obtain⟨q,r,z⟩:=h29 _ _ (hI 33).1 (hI 33).2 r z;subst q;obtain⟨q,r,z⟩:=h30 _ _ (hI 34).1 (hI 34).2 r z;subst q;obtain⟨q,r,z⟩:=TP.get h31 (by omega) r z;subst q;obtain⟨q,r,z⟩:=h32 _ _ (hI 36).1 (hI 36).2 r z;subst q;obtain⟨q,r,z⟩:=h33 _ _ (hI 37).1 (hI 37).2 r z;subst q;obtain⟨q,r,z⟩:=h34 _ _ (hI 38).1 (hI 38).2 r z;subst q
 obtain⟨q,r,z⟩:=h35 _ _ (hI 39).1 (hI 39).2 r z;subst q;obtain⟨q,r,z⟩:=h36 _ _ (hI 40).1 (hI 40).2 r z;subst q;obtain⟨q,r,z⟩:=h37 _ _ (hI 41).1 (hI 41).2 r z;subst q;obtain⟨q,r,z⟩:=h38 _ _ (by omega) n42 r z;subst q;exact⟨hk.symm,r,z⟩
def bAs(c:CL):Prop:=aIb c/\c=(bI kM c 0).map cSV
def bAl(c:CL):Prop:=LOk c/\c=(bI kL c 0).map cSV/\(∀j,I64 (cI c j))/\nP (cR c 6)
def vM(c:CL):Prop:=DOk c/\c=(bI kD c 0).map cSV/\(∀j,I64 (cI c j))/\(∀x∈cR c 3,aOv x)/\nM (cR c 7)/\(∀x∈cR c 8,bAs x)/\∀x∈cR c 9,bAl x
theorem aZm{T:BA}{S0 S1:BA}{p0 e0 p1 e1 p2 e2:Int}
 (h1:TP T (max 256 0) p1 e1 S1.data.toList p2 e2)
 (h0:TP T (max 32 0) p0 e0 S0.data.toList p1 e1):VC fMt bAs T p0 e0 [.v (.string S0),.v (.string S1)] p2 e2:=fun x rest hc r z=>by
 obtain⟨⟨s0,s1⟩,hk⟩:=hc;simp only[fMt,List.flatMap_cons,List.flatMap_nil,QA,List.nil_append,List.append_nil] at r;obtain⟨q,r,z⟩:=TP.get h0 (by omega) r z;subst q;obtain⟨q,r,z⟩:=TP.get h1 (by omega) r z;subst q;exact⟨hk.symm,r,z⟩
theorem aZn{T:BA}{i0 i2 i3 i4 i5:Int}{S1:BA}{R6:LX}{p0 e0 p1 e1 p2 e2 p3 e3 p4 e4 p5 e5:Int}
 (h4:QR vF unP okQ T p4 e4 i4 i5 R6 p5 e5)
 (h3:IP T p3 e3 i3 p4 e4)
 (h2:IP T p2 e2 i2 p3 e3)
 (h1:TP T (max 32 0) p1 e1 S1.data.toList p2 e2)
 (h0:IP T p0 e0 i0 p1 e1):VC fLk bAl T p0 e0 [.v (.int .i64 i0),.v (.string S1),.v (.int .i64 i2),.v (.int .i64 i3),.v (.int .i64 i4),.v (.int .i64 i5),.row R6] p5 e5:=fun x rest hc r z=>by
 obtain⟨⟨s1,m4⟩,hk,hI,n6⟩:=hc;simp only[fLk,eC,aHq,List.flatMap_cons,List.flatMap_nil,QA,List.nil_append,List.append_nil] at r;obtain⟨q,r,z⟩:=h0 _ _ (hI 0).1 (hI 0).2 r z;subst q;obtain⟨q,r,z⟩:=TP.get h1 (by omega) r z;subst q;obtain⟨q,r,z⟩:=h2 _ _ (hI 2).1 (hI 2).2 r z;subst q;obtain⟨q,r,z⟩:=h3 _ _ (hI 3).1 (hI 3).2 r z;subst q;obtain⟨q,q1,q2,r,z⟩:=QR.img h4 m4 n6 r z;subst q;subst q1;subst q2;exact⟨hk.symm,r,z⟩
theorem bEm{T:BA}{i0 i1 i2 i4 i5 i6:Int}{R3 R7 R8 R9:LX}{p0 e0 p1 e1 p2 e2 p3 e3 p4 e4 p5 e5 p6 e6 p7 e7 p8 e8:Int}
 (h7:LQ fLk bAl 8 T p7 e7 R9 p8 e8)
 (h6:LQ fMt bAs 16 T p6 e6 R8 p7 e7)
 (h5:QR eN unI okI T p5 e5 i5 i6 R7 p6 e6)
 (h4:LQ jZ aOv 64 T p4 e4 R3 p5 e5)
 (h3:IP T p3 e3 i4 p4 e4)
 (h2:IP T p2 e2 i2 p3 e3)
 (h1:IP T p1 e1 i1 p2 e2)
 (h0:IP T p0 e0 i0 p1 e1):VC kU vM T p0 e0 [.v (.int .i64 i0),.v (.int .i64 i1),.v (.int .i64 i2),.row R3,.v (.int .i64 i4),.v (.int .i64 i5),.v (.int .i64 i6),.row R7,.row R8,.row R9] p8 e8:=fun x rest hc r z=>by
 obtain⟨⟨⟨l3,l8,l9⟩,_,m5,_,_⟩,hk,hI,n3,n7,n8,n9⟩:=hc;simp only[kU,eC,wG,List.flatMap_cons,List.flatMap_nil,QA,List.nil_append,List.append_nil] at r;obtain⟨q,r,z⟩:=h0 _ _ (hI 0).1 (hI 0).2 r z;subst q;obtain⟨q,r,z⟩:=h1 _ _ (hI 1).1 (hI 1).2 r z;subst q;obtain⟨q,r,z⟩:=h2 _ _ (hI 2).1 (hI 2).2 r z;subst q;obtain⟨q,r,z⟩:=h3 _ _ (hI 4).1 (hI 4).2 r z;subst q;obtain⟨q,r,z⟩:=h4 _ _ (by omega) n3 r z;subst q;obtain⟨q,q1,q2,r,z⟩:=QR.mask h5 m5 n7 r z;subst q;subst q1;subst q2;obtain⟨q,r,z⟩:=h6 _ _ (by omega) n8 r z;subst q;obtain⟨q,r,z⟩:=h7 _ _ (by omega) n9 r z;subst q;exact⟨hk.symm,r,z⟩
end Go.AM
namespace Go.AM
open Go.RowKit
def jJ(x:Nat):Nat:=bif Nat.beq (x%2) 1 then(x / 2) ^^^ 3988292384 else x / 2
def aDz(x:Nat):Nat:=jJ (jJ (jJ (jJ (jJ (jJ (jJ (jJ x)))))))
def aQp(c:Nat)(b:UInt8):Nat:=(c / 256) ^^^ aDz ((c%256) ^^^ b.toNat)
def aEv(l:BL):Nat:=l.foldl aQp 4294967295
def aFc(l:BL):Nat:=4294967295 - aEv l
theorem gO{x:Nat}(h:x<4294967296):jJ x<4294967296:=by
 unfold jJ;cases Nat.beq (x%2) 1 with
 |true=>exact Nat.xor_lt_two_pow (n:=32) (by omega) (by decide)
 |false=>show x / 2<_;omega
theorem aEi{x:Nat}(h:x<4294967296):aDz x<4294967296:=gO (gO (gO (gO (gO (gO (gO (gO h)))))))
theorem bBk{c:Nat}(h:c<4294967296)(b:UInt8):aQp c b<4294967296:=by
 have hb:=b.toNat_lt;have:(c%256) ^^^ b.toNat<2^8:=Nat.xor_lt_two_pow (by omega) (by omega);exact Nat.xor_lt_two_pow (n:=32) (by omega) (aEi (by omega))
theorem aJx:∀(l:BL) (c:Nat),c<4294967296->l.foldl aQp c<4294967296
 |[],c,h=>h
 |b::l,c,h=>aJx l _ (bBk h b)
theorem aKg(l:BL):aEv l<4294967296:=aJx l _ (by decide)
theorem aMl{l:BL}{k:Nat}{b:UInt8}(h:l[k]?=some b):aEv (l.take (k+1))=aQp (aEv (l.take k)) b:=by
 rw[List.take_succ_eq_append_getElem (lt_of_getElem? h),aEv,List.foldl_append];obtain⟨hk,rfl⟩:=List.getElem?_eq_some_iff.1 h;rfl
def aIp:VL:=(List.range 256).map fun i=>.int .u32 (aDz i:Int)
theorem bBh{j:Nat}(h:j<256):aIp[j]?=some (.int .u32 (aDz j:Int)):=by
 simp only[aIp,List.getElem?_map,List.getElem?_range h,Option.map_some]
def gQ:Nat->Nat->Nat
 |0,x=>x
 |k+1,x=>jJ (gQ k x)
theorem aFh{x:Nat}(h:x<4294967296):∀k,gQ k x<4294967296
 |0=>h
 |k+1=>gO (aFh h k)
theorem aOe{x k:Nat}(h:gQ k x%2=1):gQ (k+1) x=(gQ k x / 2) ^^^ 3988292384:=by
 show jJ _=_;unfold jJ;rw[h];rfl
theorem aJi{x k:Nat}(h:¬gQ k x%2=1):gQ (k+1) x=gQ k x / 2:=by
 show jJ _=_;unfold jJ;rw[show gQ k x%2=0 by omega];rfl
def fT(k:Nat)(j:Nat):Value:=.int .u32 ((bif Nat.blt j k then gQ 8 j else 0:Nat):Int)
theorem aVl{k:Nat}(h:k<256):(cellsOf 256 (fT k)).take k++([.int .u32 ((gQ 8 k:Nat):Int)]++(cellsOf 256 (fT k)).drop (k+1))=cellsOf 256 (fT (k+1)):=by
 rw[kB (by simp only[Nat.blt,Nat.ble_eq];omega)];congr 1;funext j;unfold aSt fT;cases e:Nat.beq j k with
 |true=>
  have:=QN e;subst this;have:Nat.blt j (j+1)=true:=by simp only[Nat.blt,Nat.ble_eq];omega
  rw[this];rfl
 |false=>
  have qn:j≠k:=fun q=>by rw[q] at e;simp at e
  have:Nat.blt j (k+1)=Nat.blt j k:=by
   rw[Bool.eq_iff_iff];simp only[Nat.blt,Nat.ble_eq];omega
  rw[this];rfl
theorem aVc:cellsOf 256 (fT 256)=aIp:=by
 unfold cellsOf aIp;apply List.map_congr_left;intro j hj;have:Nat.blt j 256=true:=by have:=List.mem_range.1 hj;simp only[Nat.blt,Nat.ble_eq];omega
 unfold fT;rw[this];rfl
theorem aSd:∀(n c:Nat),c<2^n->(2^n - 1) ^^^ c=2^n - 1 - c:=by
 intro n c h;apply Nat.eq_of_testBit_eq;intro i;rw[Nat.testBit_xor,Nat.testBit_two_pow_sub_one,show 2^n - 1 - c=2^n - (c+1) by omega,Nat.testBit_two_pow_sub_succ h];by_cases hi:i<n
 ·simp[hi]
 ·have:c.testBit i=false:=Nat.testBit_lt_two_pow (Nat.lt_of_lt_of_le h (Nat.pow_le_pow_right (by decide) (by omega)));simp[hi,this]
theorem aPp{c:Nat}(h:c<4294967296):4294967295 ^^^ c=4294967295 - c:=aSd 32 c h
def le4(n:Nat):BL:=[UInt8.ofNat n,UInt8.ofNat (n / 256),UInt8.ofNat (n / 65536),UInt8.ofNat (n / 16777216)]
def smV(l:BL):BL:=le4 (aFc l)
theorem sD(l:BL):(smV l).length=4:=rfl
def frV(s:BL):BL:=eT s++smV (eT s)
theorem fr_of{w x y s:BL}(hw:w=x++y)(hx:x=eT s)(hy:y=smV x):w=frV s:=by rw[hw,hy,hx];rfl
def OpP(s p:BL)(n e:Int):Prop:=∀t:BL,((t.length:Nat):Int)<=1048576->s=frV t->p=t/\n=((s.length:Nat):Int)/\e=0
section
variable {T u v:BA}{w p q:BL}{a e n e' z l:Int}
theorem OpP.rd{t:BL}(h:TP T (max 1048576 0) 0 0 w a e)(hl:((t.length:Nat):Int)<=1048576)(ht:T.data.toList=frV t):w=t/\RdB T a (smV (eT t))/\e=0:=h t (smV (eT t)) (by omega) (by unfold RdB;exact ht) rfl
theorem OpP.err(h:TP T (max 1048576 0) 0 0 w a e)(he:¬e=0):OpP T.data.toList p n e':=fun t hl ht=>absurd (OpP.rd h hl ht).2.2 he
theorem aJm{r:BL}(h:RdB T a r)(h0:0<=a)(h1:a<=((T.data.toList.length:Nat):Int)):((r.length:Nat):Int)=((T.data.toList.length:Nat):Int) - a:=by
 have:=congrArg List.length h;rw[List.length_drop] at this;omega
theorem OpP.short(h:TP T (max 1048576 0) 0 0 w a e)(h0:0<=a)(h1:a<=((T.data.toList.length:Nat):Int))(hz:((T.data.toList.length:Nat):Int) - a<4):OpP T.data.toList p n e':=fun t hl ht=>by
 have:=aJm (OpP.rd h hl ht).2.1 h0 h1;rw[sD] at this;omega
theorem OpP.sums{t:BL}(h:TP T (max 1048576 0) 0 0 w a e)(h0:0<=a)(h1:a<=((T.data.toList.length:Nat):Int))(hl:((t.length:Nat):Int)<=1048576)(ht:T.data.toList=frV t):a=((T.data.toList.length:Nat):Int) - 4/\(T.data.toList.take (a+4).toNat).drop a.toNat=smV (T.data.toList.take a.toNat):=by
 have hr:=(OpP.rd h hl ht).2.1;have he:=aJm hr h0 h1;rw[sD] at he;have e1:a=((T.data.toList.length:Nat):Int) - 4:=by omega
 refine⟨e1,?_⟩;have hT:(frV t).length=(eT t).length+4:=by simp only[frV,List.length_append,sD]
 have e2:a.toNat=(eT t).length:=by
  have:=congrArg List.length ht;omega
 have e3:(a+4).toNat=T.data.toList.length:=by omega
 rw[e3,List.take_length,show T.data.toList.drop a.toNat=smV (eT t) from hr,e2,ht,frV,List.take_left]
theorem OpP.bad{x:Int}(h:TP T (max 1048576 0) 0 0 w a e)(h0:0<=a)(h1:a<=((T.data.toList.length:Nat):Int))(hu:u.data.toList=(T.data.toList.take (x+4).toNat).drop x.toNat)(hv:v.data.toList=smV q)(hq:q=T.data.toList.take x.toNat)(qn:¬u=v)(hx:x=a):OpP T.data.toList p n e':=fun t hl ht=>by
 subst hx;refine absurd (aWj ?_) qn;rw[hu,hv,hq];exact(OpP.sums h h0 h1 hl ht).2
theorem OpP.ok(h:TP T (max 1048576 0) 0 0 w a e)(h0:0<=a)(h1:a<=((T.data.toList.length:Nat):Int))(hn:n=a+4):OpP T.data.toList w n 0:=fun t hl ht=>
 ⟨(OpP.rd h hl ht).1,by have:=(OpP.sums h h0 h1 hl ht).1;omega,rfl⟩
end
theorem pf_ok{a u b:BA}{n:Int}(hu:u.data.toList=a.data.toList.take n.toNat)(e:u=b):∃l,a.data.toList=b.data.toList++l:=⟨a.data.toList.drop n.toNat,by rw[<-e,hu,List.take_append_drop]⟩
theorem pf_no{a u b:BA}(hu:u.data.toList=a.data.toList.take (((b.data.toList.length:Nat):Int)).toNat)(e:¬u=b):∀l,¬a.data.toList=b.data.toList++l:=fun l h=>e (aWj (by rw[hu,h,Int.toNat_natCast,List.take_left]))
theorem pf_sh{a b:BA}(h:((a.data.toList.length:Nat):Int)<((b.data.toList.length:Nat):Int)):∀l,¬a.data.toList=b.data.toList++l:=fun l e=>by rw[e,List.length_append] at h;omega
def kI:KL:=[.int .i64,.int .i64,.row 32 [.int .i64,.int .i64,.int .i64,.int .i64]]
theorem aZz{k:Kd}{c d:CL}{i j:Nat}(h:cSV (kSV k c i)=cSV (kSV k d j)):kSV k c i=kSV k d j:=by
 cases k<;>simp only[kSV,cSV,CT.v.injEq,CT.row.injEq,Value.int.injEq,Value.bool.injEq,Value.string.injEq,true_and] at h<;>simp only[kSV,h]
theorem aMc:∀{ks:KL} {c d:CL} {j:Nat},(bI ks c j).map cSV=(bI ks d j).map cSV->bI ks c j=bI ks d j
 |[],_,_,_,_=>rfl
 |k::ks,c,d,j,h=>by
  simp only[bI,List.map_cons,List.cons.injEq] at h;simp only[bI,aZz h.1,aMc h.2]
theorem eP{ks:KL}{c d:CL}(h:(bI ks c 0).map cSV=(bI ks d 0).map cSV):bI ks c 0=bI ks d 0:=aMc h
section
variable [σ:Sg]
theorem aZe{P:PG}{tb:TBs}{g:FuncId}{f:BL->List UInt8}{m:Nat}(hm:m<=maxLen)(hf:∀l,(f l).length=m)(h:∀{S:AH} (q:BA),q.data.toList.length<=4611686018427387904->XCall P g [.string q] S fun v H'=>v=.string ⟨⟨f q.data.toList⟩⟩/\Kept S.nx S H'):
 CtrOk P tb g ⟨[.sc (.str)],[.sc (.str)],fun a=>rS 0 a fun sa0=>Pr (sa0<=1099511627776),fun a r=>rT 0 r fun Tr0=>rT 0 a fun Ta0=>rS 0 r fun sr0=>Pr (Tr0.data.toList=f Ta0.data.toList/\sr0=((m:Nat):Int)),0,none⟩:=by
 intro S H0 A0 A L0 ss vs zp ap hr qo H hH;cases ap with
 |cons hp ht=>
  cases ht;obtain⟨q,rfl⟩:=hp
  match vs,hr with
  |[v],hr=>
   simp only[Reps,Rep] at hr;obtain⟨⟨rfl,hq⟩,_⟩:=hr;have qo:=Pr.h qo;refine(h (S:=H) q (by omega)).mono ?_;rintro u H' _ ⟨rfl,hk⟩;refine⟨H0,A,Gr.refl _ _,hH.later hk,[.str ⟨⟨f q.data.toList⟩⟩],[.string ⟨⟨f q.data.toList⟩⟩],.cons ⟨_,rfl⟩ .nil,?_,rfl,Pr.mk ⟨rfl,?_⟩⟩
   ·simp only[Reps,Rep,and_true,true_and];show(f q.data.toList).length<=maxLen;rw[hf];exact hm
   ·show(((f q.data.toList).length:Nat):Int)=_;rw[hf]
  |[],hr=>simp only[Reps] at hr
  |_::_::_,hr=>simp only[Reps] at hr;exact hr.2.elim
end
end Go.AM
namespace Go.AM
open Go.RowKit
def mgB:BL:=[73,69,68,49]
def enV(c:CL):BL:=mgB++frV (kU c)
theorem en_of{u f w:BA}{t:BL}{c:CL}(hw:w.data.toList=u.data.toList++f.data.toList)(hu:u=⟨#[73,69,68,49]⟩)(hf:f.data.toList=frV t)(ht:t=kU c):w.data.toList=enV c:=by
 rw[hw,hu,hf,ht];rfl
theorem aZp(c:CL):(kU c).length+8<=(enV c).length:=by
 simp only[enV,mgB,frV,eT,List.length_append,sD,List.length_cons,List.length_nil];omega
def DcP(chi:CL->Int)(s:BL)(c:CL)(e:Int):Prop:=∀x,vM x->chi x=0->s=enV x->((s.length:Nat):Int)<=1048576->e=0/\c=x
section
variable {chi:CL->Int}{S u w T:BA}{c d:CL}{e e0 e1 e2 n p k:Int}
theorem DcP.big(h:1048576<((S.data.toList.length:Nat):Int)):DcP chi S.data.toList c e:=fun x _ _ _ h1=>absurd h (by omega)
theorem DcP.nop(h:∀l,¬S.data.toList=u.data.toList++l)(hu:u=⟨#[73,69,68,49]⟩):DcP chi S.data.toList c e:=fun x _ _ h2 _=>absurd h2 (by subst hu;exact h (frV (kU x)))
theorem aCa{x:CL}(hw:w.data.toList=S.data.toList.drop k.toNat)(hk:k=4)(ho:OpP w.data.toList T.data.toList n e0)(h2:S.data.toList=enV x)(h3:((S.data.toList.length:Nat):Int)<=1048576):T.data.toList=kU x/\n=((w.data.toList.length:Nat):Int)/\e0=0:=by
 have hl:=aZp x;refine ho (kU x) (by rw[h2] at h3;omega) ?_;rw[hw,h2,hk];rfl
theorem DcP.op(hw:w.data.toList=S.data.toList.drop k.toNat)(ho:OpP w.data.toList T.data.toList n e0)(he:¬e0=0)(hk:k=4):DcP chi S.data.toList c e:=fun x _ _ h2 h3=>absurd (aCa hw hk ho h2 h3).2.2 he
theorem DcP.ex(hw:w.data.toList=S.data.toList.drop k.toNat)(ho:OpP w.data.toList T.data.toList n e0)(hn:n<((w.data.toList.length:Nat):Int))(hk:k=4):DcP chi S.data.toList c e:=fun x _ _ h2 h3=>by
 have:=(aCa hw hk ho h2 h3).2.1;omega
theorem aKs{x:CL}(hw:w.data.toList=S.data.toList.drop k.toNat)(ho:OpP w.data.toList T.data.toList n e0)(hv:VC kU vM T 0 0 d p e1)(hk:k=4)(hx:vM x)(h2:S.data.toList=enV x)(h3:((S.data.toList.length:Nat):Int)<=1048576):d=x/\RdB T p []/\e1=0:=
 hv x [] hx (by unfold RdB;rw[List.append_nil];exact(aCa hw hk ho h2 h3).1) rfl
theorem DcP.rd(hw:w.data.toList=S.data.toList.drop k.toNat)(ho:OpP w.data.toList T.data.toList n e0)(hv:VC kU vM T 0 0 d p e1)(he:¬e1=0)(hk:k=4):DcP chi S.data.toList c e:=fun x hx _ h2 h3=>absurd (aKs hw ho hv hk hx h2 h3).2.2 he
theorem DcP.lf(hw:w.data.toList=S.data.toList.drop k.toNat)(ho:OpP w.data.toList T.data.toList n e0)(hv:VC kU vM T 0 0 d p e1)(h0:0<=p)(h1:p<((T.data.toList.length:Nat):Int))(hk:k=4):DcP chi S.data.toList c e:=fun x hx _ h2 h3=>by
 have:=aJm (aKs hw ho hv hk hx h2 h3).2.1 h0 (by omega);simp only[List.length_nil] at this;omega
theorem DcP.ck(hw:w.data.toList=S.data.toList.drop k.toNat)(ho:OpP w.data.toList T.data.toList n e0)(hv:VC kU vM T 0 0 d p e1)(hc:e2=chi d)(he:¬e2=0)(hk:k=4):DcP chi S.data.toList c e:=fun x hx h1 h2 h3=>by
 have:=(aKs hw ho hv hk hx h2 h3).1;rw[this] at hc;exact absurd (hc.trans h1) he
theorem DcP.ok(hw:w.data.toList=S.data.toList.drop k.toNat)(ho:OpP w.data.toList T.data.toList n e0)(hv:VC kU vM T 0 0 d p e1)(hk:k=4):DcP chi S.data.toList d 0:=fun x hx h1 h2 h3=>⟨rfl,(aKs hw ho hv hk hx h2 h3).1⟩
theorem aQo{x y:CL}{z:Int}(h:DcP chi S.data.toList y e)(ho:DOk x->vM x)(hE:z=0->(DOk x/\chi x=0)/\S.data.toList=enV x/\((S.data.toList.length:Nat):Int)<=1048576)(hz:z=0):e=0/\y=x:=
 h x (ho (hE hz).1.1) (hE hz).1.2 (hE hz).2.1 (hE hz).2.2
theorem bEb{x:CL}{z r:Int}(hd:∀c,S.data.toList=enV c->r=4)(hE:z=0->(DOk x/\chi x=0)/\S.data.toList=enV x/\((S.data.toList.length:Nat):Int)<=1048576)(hz:z=0):r=4:=hd x (hE hz).2.1
theorem tx_ne(h:S≠u)(hu:u=⟨#[]⟩)(hs:S=⟨#[]⟩):False:=h (hs.trans hu.symm)
theorem tx_nl(h:¬S.data.toList.length=u.data.toList.length)(hu:u=⟨#[]⟩)(hs:S=⟨#[]⟩):False:=h (by rw[hs,hu])
end
section
variable [σ:Sg]
end
end Go.AM
namespace Go.AM
open Go.RowKit
variable [σ:Sg]
def Ty(ks:KL)(c:CL):Prop:=∃(A:NQ) (H:AH) (xs:VL),CellsA A H ks xs c
theorem wD{A:NQ}{H:AH}{c:CL}:∀{ks:KL} {xs:VL} {cs:CL} {j:Nat},CellsA A H ks xs cs->c.drop j=cs->(bI ks c j).map cSV=cs
 |[],[],[],j,_,_=>rfl
 |k::ks,x::xs,d::cs,j,h,e=>by
  simp only[CellsA] at h;have hd:c[j]?=some d:=by
   have:(c.drop j)[0]?=some d:=by rw[e];rfl
   rwa [List.getElem?_drop,Nat.add_zero] at this
  simp only[bI,List.map_cons];rw[wD h.2 (show c.drop (j+1)=cs by rw[<-List.drop_drop,e];rfl)];congr 1;cases k with
  |int k=>obtain⟨n,_,rfl,_⟩:=h.1.int;simp only[kSV,cSV,cI,cV,hd]
  |bool=>obtain⟨n,_,rfl⟩:=h.1.bool;simp only[kSV,cSV,cB,cV,hd]
  |str=>obtain⟨n,_,rfl,_⟩:=h.1.str;simp only[kSV,cSV,cS,cV,hd]
  |row b q=>obtain⟨l,rfl,_⟩:=h.1.row;simp only[kSV,cSV,cR,hd]
 |[],_::_,_,_,h,_=>by simp[CellsA] at h
 |[],[],_::_,_,h,_=>by simp[CellsA] at h
 |_::_,[],_,_,h,_=>by simp[CellsA] at h
 |_::_,_::_,[],_,h,_=>by simp[CellsA] at h
section
variable {ks:KL}{c:CL}
theorem Ty.norm(h:Ty ks c):(bI ks c 0).map cSV=c:=by
 obtain⟨A,H,xs,h⟩:=h;exact wD h rfl
def aRq:Kd->Bool
 |.int .i64=>true
 |.int _=>false
 |_=>true
theorem Ty.i64(h:Ty ks c)(hk:ks.all aRq=true)(j:Nat):I64 (cI c j):=by
 obtain⟨A,H,xs,h⟩:=h;have z:I64 0:=by unfold I64;omega
 cases e:ks[j]? with
 |none=>
  have:c[j]?=none:=by
   rw[List.getElem?_eq_none_iff] at e ⊢;rw[h.len.2];exact e
  simp only[cI,cV,this];exact z
 |some k=>
  have hj:j<ks.length:=(List.getElem?_eq_some_iff.1 e).1;obtain⟨x,hx⟩:∃x,xs[j]?=some x:=⟨_,List.getElem?_eq_getElem (by rw[h.len.1];exact hj)⟩;obtain⟨d,hd⟩:∃d,c[j]?=some d:=⟨_,List.getElem?_eq_getElem (by rw[h.len.2];exact hj)⟩;have ha:=h.at e hx hd;have ho:aRq k=true:=List.all_eq_true.1 hk k (List.mem_of_getElem? e);cases k with
  |int k=>
   cases k<;>first|(cases ho;done)|skip
   exact h.rng_i64 e
  |bool=>obtain⟨n,_,rfl⟩:=ha.bool;simp only[cI,cV,hd];exact z
  |str=>obtain⟨n,_,rfl,_⟩:=ha.str;simp only[cI,cV,hd];exact z
  |row b q=>obtain⟨l,rfl,_⟩:=ha.row;simp only[cI,cV,hd];exact z
theorem Ty.row(h:Ty ks c){j b:Nat}{q:KL}(hk:ks[j]?=some (.row b q)):∀x∈cR c j,Ty q x:=by
 obtain⟨A,H,xs,h⟩:=h;have hj:j<ks.length:=(List.getElem?_eq_some_iff.1 hk).1;obtain⟨x,hx⟩:∃x,xs[j]?=some x:=⟨_,List.getElem?_eq_getElem (by rw[h.len.1];exact hj)⟩;obtain⟨d,hd⟩:∃d,c[j]?=some d:=⟨_,List.getElem?_eq_getElem (by rw[h.len.2];exact hj)⟩;obtain⟨l,a,cap,rfl,rfl,rx⟩:=(h.at hk hx hd).rowD;simp only[cR,hd];intro y hy;obtain⟨i,hi,rfl⟩:=List.getElem_of_mem hy;obtain⟨qx,us,d',_,_,hc,_,kx⟩:=rx.at' i hi;rw[List.getElem?_eq_getElem hi] at hc;cases hc;exact⟨_,_,_,kx⟩
end
theorem okC_1{x:CL}(h:Ty [.int .i64] x):okC 1 x:=⟨h.norm.symm,fun j _=>h.i64 rfl j⟩
theorem okC_2{x:CL}(h:Ty [.int .i64,.int .i64] x):okC 2 x:=⟨h.norm.symm,fun j _=>h.i64 rfl j⟩
theorem okC_5{x:CL}(h:Ty [.int .i64,.int .i64,.int .i64,.int .i64,.int .i64] x):okC 5 x:=⟨h.norm.symm,fun j _=>h.i64 rfl j⟩
theorem okC_7{x:CL}(h:Ty [.int .i64,.int .i64,.int .i64,.int .i64,.int .i64,.int .i64,.int .i64] x):okC 7 x:=⟨h.norm.symm,fun j _=>h.i64 rfl j⟩
theorem bCf{l:LX}(h:∀x∈l,Ty [.int .i64] x):nM l:=by
 unfold nM;rw[List.map_map]
 conv=>lhs;rw[<-List.map_id l]
 exact List.map_congr_left fun x hx=>(h x hx).norm.symm
theorem bBt{l:LX}(h:∀x∈l,Ty [.int .i64,.int .i64,.int .i64,.int .i64] x):nP l:=by
 unfold nP;rw[List.map_map]
 conv=>lhs;rw[<-List.map_id l]
 exact List.map_congr_left fun x hx=>(h x hx).norm.symm
theorem aZg{x:CL}(h:Ty kN x)(hN:NOk x):aOv x:=
 ⟨hN,h.norm.symm,h.i64 rfl,bCf (h.row (j:=11) rfl),bBt (h.row (j:=21) rfl),fun y hy=>okC_1 (h.row (j:=27) rfl y hy),fun y hy=>okC_5 (h.row (j:=29) rfl y hy),fun y hy=>okC_7 (h.row (j:=30) rfl y hy),fun y hy=>okC_2 (h.row (j:=42) rfl y hy)⟩
theorem aZc{c:CL}(h:Ty kD c)(hD:DOk ((bI kD c 0).map cSV)):vM ((bI kD c 0).map cSV):=by
 rw[h.norm] at hD ⊢;obtain⟨h1,h2,h3,h4,h5⟩:=hD
 exact⟨⟨h1,h2,h3,h4,h5⟩,h.norm.symm,h.i64 rfl,fun x hx=>aZg (h.row (j:=3) rfl x hx) (AllB.mem h2 hx),bCf (h.row (j:=7) rfl),fun x hx=>⟨AllB.mem h4 hx,(h.row (j:=8) rfl x hx).norm.symm⟩,
  fun x hx=>⟨AllB.mem h5 hx,(h.row (j:=9) rfl x hx).norm.symm,(h.row (j:=9) rfl x hx).i64 rfl,bBt ((h.row (j:=9) rfl x hx).row (j:=6) rfl)⟩⟩
theorem aQt{P:PG}{tb:TBs}{g:FuncId}{f:BA->Int}{post:BA->Int->Prop}(h:∀{S:AH} (q:BA),XCall P g [.string q] S fun v H'=>v=.int .i64 (f q)/\Kept S.nx S H')(hf:∀q,(Lit.int .i64 (f q)).wf=true)(hp:∀q,post q (f q)):
 CtrOk P tb g ⟨[.sc (.str)],[.sc (.int .i64)],fun _=>Pr True,fun a r=>rT 0 a fun Ta0=>rI 0 r fun r0=>Pr (post Ta0 r0),0,none⟩:=by
 intro S H0 A0 A L0 ss vs zp ap hr _ H hH;cases ap with
 |cons qc ht=>
  cases ht;obtain⟨q,rfl⟩:=qc
  match vs,hr with
  |[v],hr=>
   simp only[Reps,Rep] at hr;obtain⟨⟨rfl,hq⟩,_⟩:=hr;refine(h (S:=H) q).mono ?_;rintro u H' _ ⟨rfl,hk⟩;refine⟨H0,A,Gr.refl _ _,hH.later hk,[.int .i64 (f q)],[.int .i64 (f q)],.cons ⟨_,rfl⟩ .nil,?_,rfl,Pr.mk (hp q)⟩;simp only[Reps,Rep,hf,and_self]
  |[],hr=>simp only[Reps] at hr
  |_::_::_,hr=>simp only[Reps] at hr;exact hr.2.elim
theorem aUn{P:PG}{tb:TBs}{g:FuncId}(h:∀S:AH,XCall P g [] S fun v H'=>v=.bool true/\Kept S.nx S H'):
 CtrOk P tb g ⟨[],[.sc (.bool)],fun _=>Pr True,fun _ r=>match r with|[.bool true]=>Pr True|_=>Pr False,0,none⟩:=by
 intro S H0 A0 A L0 ss vs zp ap hr _ H hH;cases ap
 match vs,hr with
 |[],_=>
  refine(h H).mono ?_;rintro u H' _ ⟨rfl,hk⟩;refine⟨H0,A,Gr.refl _ _,hH.later hk,[.bool true],[.bool true],.cons ⟨_,rfl⟩ .nil,?_,rfl,Pr.mk trivial⟩;simp only[Reps,Rep,and_self]
 |_::_,hr=>simp only[Reps] at hr
end Go.AM
