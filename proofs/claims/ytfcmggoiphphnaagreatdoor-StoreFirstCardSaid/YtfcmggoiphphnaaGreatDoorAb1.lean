/-
  An abstract machine that runs a program of the given form, and its soundness, part 1.
-/
import Derived.Calls
import Derived.Orders
import Derived.Below
import Derived.Laws.Sem
import Derived.Laws.World
import Derived.Laws.Cells
import Derived.KernelRfl
import Derived.Laws.Rows
import Derived.Laws.Slices
import Derived.Laws.Append
import Derived.Laws.StructEq
import Derived.ChangeKeysEq
set_option linter.unusedVariables false
set_option linter.unusedSimpArgs false
set_option linter.unusedSectionVars false
noncomputable section
namespace Go.AM
theorem QA{α:Type _}(a b c:List α):a++b++c=a++(b++c):=List.append_assoc a b c
theorem QL{n m:Nat}(h:Nat.ble n m=true):n<=m:=Nat.le_of_ble_eq_true h
theorem QB(a b:Bool):((a&&b)=true)=(a=true/\b=true):=Bool.and_eq_true a b
theorem QN{n m:Nat}(h:Nat.beq n m=true):n=m:=Nat.eq_of_beq_eq_true h
theorem QF{α:Type _}(a b:α):(bif false then a else b)=b:=rfl
theorem QT{α:Type _}(a b:α):(bif true then a else b)=a:=rfl
open Go.RowKit
inductive Tr (α:Type) where
 |nil
 |node (v:Option α) (l r:Tr α)
def Tr.get{α:Type}(t:Tr α):Nat->Option α:=
 Tr.rec (motive:=fun _=>Nat->Option α) (fun _=>none) (fun v _ _ gl gr i=>cond (Nat.beq i 0) v (cond (Nat.beq (i%2) 1) (gl (i / 2)) (gr (i / 2 - 1)))) t
abbrev LV:=List (Nat×Value)
abbrev VL:=List Value
abbrev OA:=Array Oper
abbrev OB:=Option (Nat×Bool)
abbrev NQ:=Nat->Prop
abbrev NL:=List Nat
abbrev BL:=List UInt8
abbrev OL2:=List Oper
abbrev TY:=TypeId
abbrev BA:=ByteArray
abbrev PG:=Program
theorem Tr.get_nil{α:Type}(i:Nat):(Tr.nil:Tr α).get i=none:=rfl
theorem Tr.get_node{α:Type}(v:Option α)(l r:Tr α)(i:Nat):(Tr.node v l r).get i=bif Nat.beq i 0 then v else bif Nat.beq (i%2) 1 then l.get (i / 2) else r.get (i / 2 - 1):=rfl
def Tr.setN{α:Type}(n:Nat):Nat->Option α->Tr α:=
 Nat.rec (motive:=fun _=>Nat->Option α->Tr α) (fun _ _=>.nil) (fun _ sn i o=>cond (Nat.beq i 0) (.node o .nil .nil) (cond (Nat.beq (i%2) 1) (.node none (sn (i / 2) o) .nil) (.node none .nil (sn (i / 2 - 1) o)))) n
theorem Tr.setN_succ{α:Type}(n i:Nat)(o:Option α):Tr.setN (n+1) i o=bif Nat.beq i 0 then .node o .nil .nil else bif Nat.beq (i%2) 1 then .node none (Tr.setN n (i / 2) o) .nil else .node none .nil (Tr.setN n (i / 2 - 1) o):=rfl
def Tr.set{α:Type}(t:Tr α):Nat->Option α->Tr α:=
 Tr.rec (motive:=fun _=>Nat->Option α->Tr α) (fun i o=>Tr.setN (i+1) i o) (fun v l r sl sr i o=>cond (Nat.beq i 0) (.node o l r) (cond (Nat.beq (i%2) 1) (.node v (sl (i / 2) o) r) (.node v l (sr (i / 2 - 1) o)))) t
theorem Tr.set_nil{α:Type}(i:Nat)(o:Option α):(Tr.nil:Tr α).set i o=Tr.setN (i+1) i o:=rfl
theorem Tr.set_node{α:Type}(v:Option α)(l r:Tr α)(i:Nat)(o:Option α):(Tr.node v l r).set i o=bif Nat.beq i 0 then .node o l r else bif Nat.beq (i%2) 1 then .node v (l.set (i / 2) o) r else .node v l (r.set (i / 2 - 1) o):=rfl
theorem Tr.get_setN{α:Type}:∀(n i:Nat) (o:Option α) (j:Nat),i<n->(Tr.setN n i o).get j=if j=i then o else none:=by
 intro n
 induction n with
 |zero=>intro i o j h;omega
 |succ n ih=>
  intro i o j h;simp only[Tr.setN_succ,cond_eq_ite,Nat.beq_eq];split
  ·rename_i h0;subst h0;simp only[Tr.get_node,Tr.get_nil,cond_eq_ite,Nat.beq_eq];split<;>simp_all
  ·rename_i h0;split
   ·rename_i h1;simp only[Tr.get_node,Tr.get_nil,cond_eq_ite,Nat.beq_eq]
    grind
   ·rename_i h1;simp only[Tr.get_node,Tr.get_nil,cond_eq_ite,Nat.beq_eq]
    grind
theorem Tr.get_set{α:Type}(t:Tr α):∀(i:Nat) (o:Option α) (j:Nat),(t.set i o).get j=if j=i then o else t.get j:=by
 induction t with
 |nil=>intro i o j;rw[Tr.set_nil,Tr.get_setN _ _ _ _ (Nat.lt_succ_self i),Tr.get_nil]
 |node v l r ihl ihr=>
  intro i o j;simp only[Tr.set_node,cond_eq_ite,Nat.beq_eq];split
  ·rename_i h0;subst h0;simp only[Tr.get_node,cond_eq_ite,Nat.beq_eq];split<;>simp_all
  ·rename_i h0;split
   ·rename_i h1;simp only[Tr.get_node,cond_eq_ite,Nat.beq_eq]
    grind
   ·rename_i h1;simp only[Tr.get_node,cond_eq_ite,Nat.beq_eq]
    grind
theorem Tr.get_set_same{α:Type}(t:Tr α)(i:Nat)(o:Option α):(t.set i o).get i=o:=by rw[Tr.get_set,if_pos rfl]
theorem Tr.get_set_ne{α:Type}(t:Tr α){i j:Nat}(o:Option α)(h:j≠i):(t.set i o).get j=t.get j:=by rw[Tr.get_set,if_neg h]
structure Place where
 blk:Nat
 base:Nat
 tot:Nat
 sz:Nat
def bZ(a:Addr):Addr:={block:=2*a.block,off:=a.off,spot:=a.spot}
def fnE:Fn->Fn
 |.yield l=>.yield (2*l)
 |fn=>fn
def fnY:Fn->Bool
 |.yield _=>true
 |_=>false
mutual
def ext:Value->Value
 |.bool b=>.bool b
 |.int k n=>.int k n
 |.float k n=>.float k n
 |.complex k n m=>.complex k n m
 |.string s=>.string s
 |.pointer none=>.pointer none
 |.pointer (some a)=>.pointer (some (bZ a))
 |.slice none l c=>.slice none l c
 |.slice (some a) l c=>.slice (some (bZ a)) l c
 |.map none=>.map none
 |.map (some r)=>.map (some (2*r))
 |.chan none=>.chan none
 |.chan (some r)=>.chan (some (2*r))
 |.func fn ⟨a⟩ ⟨b⟩=>.func (fnE fn) ⟨extL a⟩ ⟨extL b⟩
 |.nilFunc=>.nilFunc
 |.iface t v=>.iface t (ext v)
 |.nilIface=>.nilIface
 |.agg ⟨cs⟩=>.agg ⟨extL cs⟩
 |.tuple ⟨cs⟩=>.tuple ⟨extL cs⟩
def extL:VL->List Value
 |[]=>[]
 |v::r=>ext v::extL r
end
def bF:Nat:=1099511627776
def esz(n:Nat):Nat:=if bF<=n then 1 else n
abbrev PL:=List Place
theorem cF{n:Nat}(h:n<bF):esz n=n:=if_neg (Nat.not_le_of_lt h)
theorem aLz{n:Nat}(h:bF<=n):esz n=1:=if_pos h
def SzE(sz:Nat)(e:TY):Prop:=bF<=sz->e+bF=sz
def SzT(p:Place)(sz:Nat)(e:TY):Prop:=p.sz=sz/\SzE sz e/\(bF+5<sz->p.base=0)
theorem SzE.small{sz:Nat}{e:TY}(h:sz<bF):SzE sz e:=fun q=>absurd q (Nat.not_le_of_lt h)
theorem SzE.tag(e:TY):SzE (e+bF) e:=fun _=>rfl
structure Sub where
 e:Nat->Value
 ok:∀k,(∃c n,e k=.int c n)\/∃s,e k=.string s
abbrev Sg:Type:=Inhabited Sub
def Sg.at(σ:Sg)(k:Nat):Value:=(@default Sub σ).e k
theorem Sg.kind(σ:Sg)(k:Nat):(∃c n,σ.at k=.int c n)\/∃s,σ.at k=.string s:=(@default Sub σ).ok k
instance noSg:Sg:=⟨⟨fun _=>.int .i64 0,fun _=>.inl ⟨_,_,rfl⟩⟩⟩
variable [σ:Sg]
def ARel(φ:PL)(a a':Addr):Prop:=
 (a.block%2=0/\a'.block=a.block / 2/\a'.off=a.off/\a'.spot=a.spot)\/
 (a.block%2=1/\a.spot=none/\a'.spot=none/\∃p,φ[a.block / 2]?=some p/\a'.block=p.blk/\a'.off=p.base+a.off)
def SRel(φ:PL)(a a':Addr)(l c c':Nat):Prop:=
 (a.block%2=0/\c'=c/\ARel φ a a')\/
 (a.block%2=1/\l<=c/\c<=c'/\(c'=0\/(ARel φ a a'/\∀p,φ[a.block / 2]?=some p->p.base+a.off+c'*esz p.sz<=p.tot)))
def BRel(φ:PL)(r r':Nat):Prop:=
 (r%2=0/\r'=r / 2)\/(r%2=1/\∃p,φ[r / 2]?=some p/\r'=p.blk)
def YRel(φ:PL)(r r':Nat):Prop:=
 (r%2=0/\r'=r / 2)\/(r%2=1/\∃p,φ[r / 2]?=some p/\r'=p.tot)
def EmpV(x:Value):Prop:=∃a c,x=.slice a 0 c
inductive VR [σ:Sg] (φ:PL):Value->Value->Prop
 |bool (b:Bool):VR φ (.bool b) (.bool b)
 |int (k:IntKind) (n:Int):VR φ (.int k n) (.int k n)
 |float (k:FloatKind) (n:Nat):VR φ (.float k n) (.float k n)
 |complex (k:FloatKind) (n m:Nat):VR φ (.complex k n m) (.complex k n m)
 |string (s:BA):VR φ (.string s) (.string s)
 |pnil:VR φ (.pointer none) (.pointer none)
 |ptr {a a':Addr} (h:ARel φ a a'):VR φ (.pointer (some a)) (.pointer (some a'))
 |snil (l c:Nat):VR φ (.slice none l c) (.slice none l c)
 |emp {x':Value} (h:EmpV x'):VR φ (.slice none 0 1) x'
 |slc {a a':Addr} {l c c':Nat} (h:SRel φ a a' l c c'):VR φ (.slice (some a) l c) (.slice (some a') l c')
 |mnil:VR φ (.map none) (.map none)
 |mp {r r':Nat} (h:BRel φ r r'):VR φ (.map (some r)) (.map (some r'))
 |cnil:VR φ (.chan none) (.chan none)
 |ch {r r':Nat} (h:r%2=0/\r'=r / 2):VR φ (.chan (some r)) (.chan (some r'))
 |ph (k:Nat):VR φ (.chan (some (2*k+1))) (σ.at k)
 |func (fn:Fn) (hy:fnY fn=false) {a a' b b':VL} (ha:a.length=a'.length) (hb:b.length=b'.length)
  (va:∀(i:Nat) v v',a[i]?=some v->a'[i]?=some v'->VR φ v v') (vb:∀(i:Nat) v v',b[i]?=some v->b'[i]?=some v'->VR φ v v'):VR φ (.func fn ⟨a⟩ ⟨b⟩) (.func fn ⟨a'⟩ ⟨b'⟩)
 |yl {r r':Nat} (h:YRel φ r r') {a a' b b':VL} (ha:a.length=a'.length) (hb:b.length=b'.length)
  (va:∀(i:Nat) v v',a[i]?=some v->a'[i]?=some v'->VR φ v v') (vb:∀(i:Nat) v v',b[i]?=some v->b'[i]?=some v'->VR φ v v'):VR φ (.func (.yield r) ⟨a⟩ ⟨b⟩) (.func (.yield r') ⟨a'⟩ ⟨b'⟩)
 |nilFunc:VR φ .nilFunc .nilFunc
 |iface (t:TY) {v v':Value} (h:VR φ v v'):VR φ (.iface t v) (.iface t v')
 |nilIface:VR φ .nilIface .nilIface
 |agg {a a':VL} (ha:a.length=a'.length) (va:∀(i:Nat) v v',a[i]?=some v->a'[i]?=some v'->VR φ v v'):VR φ (.agg ⟨a⟩) (.agg ⟨a'⟩)
 |tuple {a a':VL} (ha:a.length=a'.length) (va:∀(i:Nat) v v',a[i]?=some v->a'[i]?=some v'->VR φ v v'):VR φ (.tuple ⟨a⟩) (.tuple ⟨a'⟩)
def VRs(φ:PL)(a a':VL):Prop:=a.length=a'.length/\∀(i:Nat) v v',a[i]?=some v->a'[i]?=some v'->VR φ v v'
theorem VRs.nil(φ:PL):VRs φ [] []:=⟨rfl,fun i v v' h=>by simp at h⟩
theorem VRs.cons{φ:PL}{v v':Value}{l l':VL}(h:VR φ v v')(hl:VRs φ l l'):VRs φ (v::l) (v'::l'):=by
 refine⟨by simp[hl.1],fun i u u' hu xf=>?_⟩;cases i with
 |zero=>simp_all
 |succ i=>simp at hu xf;exact hl.2 i u u' hu xf
theorem VRs.head{φ:PL}{v v':Value}{l l':VL}(h:VRs φ (v::l) (v'::l')):VR φ v v':=h.2 0 v v' rfl rfl
theorem VRs.tail{φ:PL}{v v':Value}{l l':VL}(h:VRs φ (v::l) (v'::l')):VRs φ l l':=
 ⟨by have:=h.1;simpa using this,fun i u u' hu xf=>h.2 (i+1) u u' (by simpa using hu) (by simpa using xf)⟩
theorem VRs.append{φ:PL}{a a' b b':VL}(h:VRs φ a a')(k:VRs φ b b'):VRs φ (a++b) (a'++b'):=by
 refine⟨by simp[h.1,k.1],fun i u u' hu xf=>?_⟩;by_cases hi:i<a.length
 ·rw[List.getElem?_append_left hi] at hu;rw[List.getElem?_append_left (h.1▸hi)] at xf;exact h.2 i u u' hu xf
 ·rw[List.getElem?_append_right (by omega)] at hu;rw[List.getElem?_append_right (by have:=h.1;omega)] at xf;rw[<-h.1] at xf;exact k.2 _ u u' hu xf
theorem VRs.get{φ:PL}{a a':VL}(h:VRs φ a a'){i:Nat}{v:Value}(hv:a[i]?=some v):∃v',a'[i]?=some v'/\VR φ v v':=by
 have hi:i<a.length:=by
  grind
 have qi:i<a'.length:=h.1▸hi;exact⟨a'[i],by simp[qi],h.2 i v _ hv (by simp[qi])⟩
theorem VRs.drop{φ:PL}{a a':VL}(h:VRs φ a a')(n:Nat):VRs φ (a.drop n) (a'.drop n):=
 ⟨by simp[h.1],fun i u u' hu xf=>h.2 (n+i) u u' (by simpa using hu) (by simpa using xf)⟩
theorem VRs.take{φ:PL}{a a':VL}(h:VRs φ a a')(n:Nat):VRs φ (a.take n) (a'.take n):=by
 refine⟨by simp[h.1],fun i u u' hu xf=>?_⟩;rw[List.getElem?_take] at hu xf;split at hu
 ·rename_i hi;rw[if_pos hi] at xf;exact h.2 i u u' hu xf
 ·simp at hu
theorem VR.agg'{φ:PL}{a a':VL}(h:VRs φ a a'):VR φ (.agg ⟨a⟩) (.agg ⟨a'⟩):=.agg h.1 h.2
theorem VR.tuple'{φ:PL}{a a':VL}(h:VRs φ a a'):VR φ (.tuple ⟨a⟩) (.tuple ⟨a'⟩):=.tuple h.1 h.2
theorem VR.undef(φ:PL):VR φ undef undef:=VR.tuple' (VRs.nil φ)
theorem getElem?_prefix{α:Type}{l l':List α}(h:l <+: l'){i:Nat}{x:α}(hx:l[i]?=some x):l'[i]?=some x:=by
 obtain⟨t,rfl⟩:=h
 grind
theorem ARel.mono{φ φ':PL}(h:φ <+: φ'){a a':Addr}(r:ARel φ a a'):ARel φ' a a':=by
 rcases r with r|⟨r1,r2,r3,p,hp,r4⟩
 ·exact .inl r
 ·exact .inr ⟨r1,r2,r3,p,getElem?_prefix h hp,r4⟩
theorem BRel.mono{φ φ':PL}(h:φ <+: φ'){a a':Nat}(r:BRel φ a a'):BRel φ' a a':=by
 rcases r with r|⟨r1,p,hp,r4⟩
 ·exact .inl r
 ·exact .inr ⟨r1,p,getElem?_prefix h hp,r4⟩
theorem YRel.mono{φ φ':PL}(h:φ <+: φ'){a a':Nat}(r:YRel φ a a'):YRel φ' a a':=by
 rcases r with r|⟨r1,p,hp,r4⟩
 ·exact .inl r
 ·exact .inr ⟨r1,p,getElem?_prefix h hp,r4⟩
theorem SRel.mono{φ φ':PL}(h:φ <+: φ'){a a':Addr}{l c c':Nat}(r:SRel φ a a' l c c'):SRel φ' a a' l c c':=by
 rcases r with⟨r1,r2,r3⟩|⟨r1,r2,r3,r4⟩
 ·exact .inl ⟨r1,r2,r3.mono h⟩
 ·refine .inr ⟨r1,r2,r3,r4.imp id fun⟨r5,r6⟩=>⟨r5.mono h,fun p hp=>?_⟩⟩;rcases r5 with r5|⟨_,_,_,q,hq,_⟩
  ·omega
  grind [getElem?_prefix]
theorem VR.mono{φ φ':PL}(h:φ <+: φ'){v v':Value}(r:VR φ v v'):VR φ' v v':=by
 induction r with
 |bool b=>exact .bool b
 |int k n=>exact .int k n
 |float k n=>exact .float k n
 |complex k n m=>exact .complex k n m
 |string s=>exact .string s
 |pnil=>exact .pnil
 |ptr r=>exact .ptr (r.mono h)
 |snil l c=>exact .snil l c
 |emp h=>exact .emp h
 |slc r=>exact .slc (r.mono h)
 |mnil=>exact .mnil
 |mp r=>exact .mp (r.mono h)
 |cnil=>exact .cnil
 |ch r=>exact .ch r
 |ph k=>exact .ph k
 |func fn hy ha hb _ _ iha ihb=>grind [func]
 |yl r ha hb _ _ iha ihb=>exact .yl (r.mono h) ha hb iha ihb
 |nilFunc=>exact .nilFunc
 |iface t _ ih=>exact .iface t ih
 |nilIface=>exact .nilIface
 |agg ha _ ih=>exact .agg ha ih
 |tuple ha _ ih=>exact .tuple ha ih
theorem VRs.mono{φ φ':PL}(h:φ <+: φ'){a a':VL}(r:VRs φ a a'):VRs φ' a a':=⟨r.1,fun i v v' hv mr=>(r.2 i v v' hv mr).mono h⟩
theorem ARel.ext(φ:PL)(a:Addr):ARel φ (bZ a) a:=.inl ⟨by simp[bZ],by simp[bZ],rfl,rfl⟩
mutual
theorem VR.ext(φ:PL):∀v:Value,VR φ (ext v) v
 |.bool b=>by rw[AM.ext];exact .bool b
 |.int k n=>by rw[AM.ext];exact .int k n
 |.float k n=>by rw[AM.ext];exact .float k n
 |.complex k n m=>by rw[AM.ext];exact .complex k n m
 |.string s=>by rw[AM.ext];exact .string s
 |.pointer none=>by rw[AM.ext];exact .pnil
 |.pointer (some a)=>by rw[AM.ext];exact .ptr (.ext φ a)
 |.slice none l c=>by rw[AM.ext];exact .snil l c
 |.slice (some a) l c=>by rw[AM.ext];exact .slc (.inl ⟨by simp[bZ],rfl,.ext φ a⟩)
 |.map none=>by rw[AM.ext];exact .mnil
 |.map (some r)=>by rw[AM.ext];exact .mp (.inl ⟨by omega,by omega⟩)
 |.chan none=>by rw[AM.ext];exact .cnil
 |.chan (some r)=>by rw[AM.ext];exact .ch ⟨by omega,by omega⟩
 |.func fn ⟨a⟩ ⟨b⟩=>by
  rw[AM.ext];cases fn with
  |yield l=>exact .yl (.inl ⟨by omega,by omega⟩) (VRs.ext φ a).1 (VRs.ext φ b).1 (VRs.ext φ a).2 (VRs.ext φ b).2
  |_=>exact .func _ rfl (VRs.ext φ a).1 (VRs.ext φ b).1 (VRs.ext φ a).2 (VRs.ext φ b).2
 |.nilFunc=>by rw[AM.ext];exact .nilFunc
 |.iface t v=>by rw[AM.ext];exact .iface t (VR.ext φ v)
 |.nilIface=>by rw[AM.ext];exact .nilIface
 |.agg ⟨a⟩=>by rw[AM.ext];exact VR.agg' (VRs.ext φ a)
 |.tuple ⟨a⟩=>by rw[AM.ext];exact VR.tuple' (VRs.ext φ a)
theorem VRs.ext(φ:PL):∀l:VL,VRs φ (extL l) l
 |[]=>by rw[extL];exact VRs.nil φ
 |v::r=>by rw[extL];exact VRs.cons (VR.ext φ v) (VRs.ext φ r)
end
inductive AObj where
 |cells (cs:VL) (sz:Nat) (ex:Bool)
 |map (es:List (Value×Value×Nat)) (clock:Nat)
 |iter (s:BA) (pos:Nat)
structure Base extends World where
 rd:Nat->Option (List Value×Nat)
 /-- may slices without elements be of any kind? -/
 em:Bool
structure AH where
 w0:Base
 nx:Nat
 tr:Tr AObj
def yL(φ:PL)(es:List (Value×Value×Nat))(es':List MapEntry):Prop:=
 es.length=es'.length/\∀(i:Nat) k v b e,es[i]?=some (k,v,b)->es'[i]?=some e->VR φ k e.key/\VR φ v e.val/\b=e.born
def ORel(φ:PL)(p:Place)(o:AObj)(x:Option Obj):Prop:=
 match o with
 |.cells cs sz ex=>∃(C:Array Value) (e:TY) (lo hi:Nat),x=some (.cells C e (lo,hi))/\(∀k,k<C.size->lo<=k->lo=hi)/\p.tot=C.size/\SzT p sz e/\p.base+cs.length<=C.size/\
  (ex=true->p.base+cs.length=C.size)/\VRs φ cs ((C.toList.drop p.base).take cs.length)
 |.map es clock=>∃es':Array MapEntry,x=some (.map es' clock)/\yL φ es es'.toList
 |.iter s pos=>x=some (.stringIter s pos)
def RoR(φ:PL)(p:Place)(c:List Value×Nat)(x:Obj):Prop:=
 ∃(C:Array Value) (e:TY) (lo hi:Nat),x=.cells C e (lo,hi)/\p.sz=c.2/\VRs φ c.1 ((C.toList.drop p.base).take c.1.length)
theorem RoR.mono{φ φ':PL}(h:φ <+: φ'){p:Place}{c:List Value×Nat}{x:Obj}(r:RoR φ p c x):RoR φ' p c x:=by
 obtain⟨C,e,lo,hi,h1,h2,h3⟩:=r;exact⟨C,e,lo,hi,h1,h2,h3.mono h⟩
structure Pin where
 f:Nat->Option Obj
 ds:List Deferred
abbrev Pins:Type:=Inhabited Pin
def Pins.pin(π:Pins)(b:Nat):Option Obj:=(@default Pin π).f b
def Pins.ds(π:Pins):List Deferred:=(@default Pin π).ds
structure Rel [π:Pins] (φ:PL) (H:AH) (w:World):Prop where
 below:Below H.w0.heap.size H.w0.toWorld w
 len:φ.length=H.nx
 obj:∀i o,H.tr.get i=some o->∃p,φ[i]?=some p/\H.w0.heap.size<=p.blk/\ORel φ p o w.heap[p.blk]?
 inj:∀i j o o' p q,H.tr.get i=some o->H.tr.get j=some o'->φ[i]?=some p->φ[j]?=some q->p.blk=q.blk->i=j
 pin:∀b x,π.pin b=some x->w.heap[b]?=some x/\∀(i:Nat) p,φ[i]?=some p->H.w0.rd i=none->p.blk≠b
 lt:∀(i:Nat) p,φ[i]?=some p->p.blk<w.heap.size
 ro:∀(i:Nat) c,H.w0.rd i=some c->H.tr.get i=none/\∃p x,φ[i]?=some p/\π.pin p.blk=some x/\RoR φ p c x
theorem Rel.rdN [π:Pins]{φ:PL}{H:AH}{w:World}(R:Rel φ H w){i:Nat}{o:AObj}(h:H.tr.get i=some o):H.w0.rd i=none:=by
 cases e:H.w0.rd i with
 |none=>rfl
 |some c=>rw[(R.ro i c e).1] at h;cases h
theorem Rel.ro' [π:Pins]{φ φ':PL}{H H':AH}{w:World}(R:Rel φ H w)(h0:H'.w0=H.w0)(hφ:φ <+: φ')(ht:∀i,i<φ.length->H.tr.get i=none->H'.tr.get i=none):
 ∀(i:Nat) c,H'.w0.rd i=some c->H'.tr.get i=none/\∃p x,φ'[i]?=some p/\π.pin p.blk=some x/\RoR φ' p c x:=by
 intro i c h;rw[h0] at h;obtain⟨h1,p,x,h2,h3,h4⟩:=R.ro i c h;refine⟨ht i ?_ h1,p,x,getElem?_prefix hφ h2,h3,h4.mono hφ⟩
 grind
end Go.AM
namespace Go.AM
open Go.RowKit
variable [σ:Sg]
theorem lt_of_getElem?{α:Type}{l:List α}{i:Nat}{x:α}(h:l[i]?=some x):i<l.length:=by
 grind
theorem alt_of_getElem?{α:Type}{l:Array α}{i:Nat}{x:α}(h:l[i]?=some x):i<l.size:=by
 grind
def aX(w:World)(a:Addr):Nat->Nat->Option VL
 |_,0=>some []
 |i,n+1=>
  match w.cell? (a.add i) with
  |some v=>(match aX w a (i+1) n with
   |some r=>some (ext v::r)
   |none=>none)
  |none=>none
def aload(H:AH)(a:Addr):Option Value:=
 bif Nat.beq (a.block%2) 0 then
  (match H.w0.cell? ⟨a.block / 2,a.off,a.spot⟩ with
  |some v=>some (ext v)
  |none=>none)
 else match H.tr.get (a.block / 2) with
  |some (.cells cs _ _)=>cs[a.off]?
  |none=>(match H.w0.rd (a.block / 2) with
   |some c=>c.1[a.off]?
   |none=>none)
  |_=>none
def aloads(H:AH)(a:Addr)(n:Nat):Option VL:=
 bif Nat.beq n 0 then some [] else
 bif Nat.beq (a.block%2) 0 then aX H.w0.toWorld ⟨a.block / 2,a.off,a.spot⟩ 0 n
 else match H.tr.get (a.block / 2) with
  |some (.cells cs _ _)=>bif Nat.ble (a.off+n) cs.length then some ((cs.drop a.off).take n) else none
  |none=>(match H.w0.rd (a.block / 2) with
   |some c=>bif Nat.ble (a.off+n) c.1.length then some ((c.1.drop a.off).take n) else none
   |none=>none)
  |_=>none
def aZ:VL->Bool
 |[]=>true
 |v::r=>v.oneCell'&&aZ r
def fJ(H:AH)(a:Addr)(vs:VL):Option AH:=
 bif Nat.beq (a.block%2) 0 then none
 else match H.tr.get (a.block / 2) with
  |some (.cells cs sz ex)=>
   bif Nat.ble (a.off+vs.length) cs.length&&aZ vs then
    some {H with tr:=H.tr.set (a.block / 2) (some (.cells (cs.take a.off++(vs++cs.drop (a.off+vs.length))) sz ex))}
   else none
  |_=>none
def dC(H:AH)(o:AObj):AH:={H with nx:=H.nx+1,tr:=H.tr.set H.nx (some o)}
theorem aGd{w0 w:World}(hb:Below w0.heap.size w0 w)(φ:PL)(a:Addr):∀(n i:Nat) (l:VL),aX w0 a i n=some l->
 ∃l',VRs φ l l'/\l'.length=n/\∀j v',l'[j]?=some v'->w.cell? (a.add (i+j))=some v':=by
 intro n
 induction n with
 |zero=>intro i l h;simp[aX] at h;subst h;exact⟨[],VRs.nil φ,rfl,fun j v' h=>by simp at h⟩
 |succ n ih=>
  intro i l h;simp only[aX] at h;split at h
  ·rename_i v hv;split at h
   ·rename_i r hr;cases h;obtain⟨l',h1,h2,h3⟩:=ih _ _ hr;refine⟨v::l',VRs.cons (VR.ext φ v) h1,by simp[h2],fun j v' hj=>?_⟩;cases j with
    |zero=>
     simp at hj;subst hj;rw[Nat.add_zero,hb.cell (World.block_lt_of_cell? w0 _ hv)];exact hv
    |succ j=>
     grind
   ·cases h
  ·cases h
theorem aUm{φ:PL}{p:Place}{cs:VL}{sz:Nat}{ex:Bool}{w:World}(h:ORel φ p (.cells cs sz ex) w.heap[p.blk]?){k:Nat}{v:Value}(hv:cs[k]?=some v):
 ∃v',w.cell? ⟨p.blk,p.base+k,none⟩=some v'/\VR φ v v':=by
 obtain⟨C,e,lo,hi,hx,hf,ht,hs,qf,yz,hr⟩:=h;obtain⟨v',h1,h2⟩:=hr.get hv;refine⟨v',?_,h2⟩;rw[List.getElem?_take] at h1;split at h1
 ·rw[List.getElem?_drop] at h1;simp only[World.cell?,hx,Option.isSome_none,Bool.false_eq_true,if_false]
  simp_all
 ·cases h1
theorem aZg [π:Pins]{φ:PL}{H:AH}{w:World}(R:Rel φ H w){i:Nat}{c:List Value×Nat}(hc:H.w0.rd i=some c){p:Place}(hp:φ[i]?=some p){k:Nat}{v:Value}(hv:c.1[k]?=some v):
 ∃v',w.cell? ⟨p.blk,p.base+k,none⟩=some v'/\VR φ v v':=by
 obtain⟨_,q,x,hq,hx,C,e,lo,hi,rfl,_,hr⟩:=R.ro i c hc;rw[hp] at hq;cases hq;have hx:=(R.pin _ _ hx).1;obtain⟨v',h1,h2⟩:=hr.get hv;refine⟨v',?_,h2⟩;rw[List.getElem?_take] at h1;split at h1
 ·rw[List.getElem?_drop] at h1;simp only[World.cell?,hx,Option.isSome_none,Bool.false_eq_true,if_false]
  simp_all
 ·cases h1
theorem aPw [Pins]{φ:PL}{H:AH}{w:World}(R:Rel φ H w){a a':Addr}(ha:ARel φ a a'){v:Value}(h:aload H a=some v):
 ∃v',w.cell? a'=some v'/\VR φ v v':=by
 unfold aload at h;rcases ha with⟨h0,h1,h2,h3⟩|⟨h0,hs,wq,p,hp,hb,ho⟩
 ·rw[show Nat.beq (a.block%2) 0=true by rw[h0];rfl,QT] at h;split at h
  ·rename_i v' hv;cases h;obtain rfl:a'=⟨a.block / 2,a.off,a.spot⟩:=by cases a';simp_all
   exact⟨v',by rw[R.below.cell (World.block_lt_of_cell? _ _ hv)];exact hv,VR.ext φ v'⟩
  ·cases h
 ·rw[show Nat.beq (a.block%2) 0=false by rw[h0];rfl,QF] at h;split at h
  ·rename_i cs sz ex hg;obtain⟨q,hq,hN,hO⟩:=R.obj _ _ hg;rw[hp] at hq;cases hq;obtain⟨v',h4,h5⟩:=aUm hO h;refine⟨v',?_,h5⟩;obtain rfl:a'=⟨p.blk,p.base+a.off,none⟩:=by cases a';simp_all
   exact h4
  ·split at h
   ·rename_i c hc;obtain⟨v',h4,h5⟩:=aZg R hc hp h;refine⟨v',?_,h5⟩;obtain rfl:a'=⟨p.blk,p.base+a.off,none⟩:=by cases a';simp_all
    exact h4
   ·cases h
  ·cases h
theorem gP(a:Addr)(h:a.spot=none)(n:Nat):a.add n=⟨a.block,a.off+n,none⟩:=by
 obtain⟨b,o,s⟩:=a
 grind [Addr.add]
theorem iJ [Pins]{φ:PL}{H:AH}{w:World}(R:Rel φ H w){a a':Addr}{n:Nat}(ha:n=0\/ARel φ a a'){l:VL}(h:aloads H a n=some l):
 ∃l',VRs φ l l'/\l'.length=n/\∀j v',l'[j]?=some v'->w.cell? (a'.add j)=some v':=by
 unfold aloads at h;by_cases hn:n=0
 ·subst hn;simp at h;subst h;exact⟨[],VRs.nil φ,rfl,fun j v' h=>by simp at h⟩
 ·rw[show Nat.beq n 0=false by(cases n with|zero=>exact absurd rfl hn|succ n=>rfl),QF] at h;have ha:=ha.resolve_left hn;rcases ha with⟨h0,h1,h2,h3⟩|⟨h0,hs,wq,p,hp,hb,ho⟩
  ·rw[show Nat.beq (a.block%2) 0=true by rw[h0];rfl,QT] at h;obtain rfl:a'=⟨a.block / 2,a.off,a.spot⟩:=by cases a';simp_all
   obtain⟨l',h4,h5,h6⟩:=aGd R.below φ _ n 0 l h
   grind
  ·rw[show Nat.beq (a.block%2) 0=false by rw[h0];rfl,QF] at h;split at h
   ·rename_i cs sz ex hg;cases qf:Nat.ble (a.off+n) cs.length with
    |false=>rw[qf] at h;cases h
    |true=>
     rw[qf,QT] at h;cases h;have vz:=QL qf;obtain⟨q,hq,hN,hO⟩:=R.obj _ _ hg;rw[hp] at hq;cases hq;obtain⟨C,e,lo,hi,hx,hf,ht,yw,yb,yz,hr⟩:=hO;refine⟨(((C.toList.drop p.base).take cs.length).drop a.off).take n,(hr.drop _).take _,?_,fun j v' hj=>?_⟩
     ·simp;omega
     ·rw[List.getElem?_take] at hj;split at hj
      ·rw[List.getElem?_drop,List.getElem?_take] at hj;split at hj
       ·rw[List.getElem?_drop] at hj;obtain rfl:a'=⟨p.blk,p.base+a.off,none⟩:=by cases a';simp_all
        rw[gP _ rfl];simp only[World.cell?,hx,Option.isSome_none,Bool.false_eq_true,if_false]
        grind
       ·cases hj
      ·cases hj
   ·split at h
    ·rename_i c hc;cases qf:Nat.ble (a.off+n) c.1.length with
     |false=>rw[qf] at h;cases h
     |true=>
      rw[qf,QT] at h;cases h;have vz:=QL qf;obtain⟨_,q,x,hq,hx,C,e,lo,hi,rfl,_,hr⟩:=R.ro _ _ hc;rw[hp] at hq;cases hq;have hx:=(R.pin _ _ hx).1;refine⟨(((C.toList.drop p.base).take c.1.length).drop a.off).take n,(hr.drop _).take _,?_,fun j v' hj=>?_⟩
      ·have:=hr.1
       grind
      ·rw[List.getElem?_take] at hj;split at hj
       ·rw[List.getElem?_drop,List.getElem?_take] at hj;split at hj
        ·rw[List.getElem?_drop] at hj;obtain rfl:a'=⟨p.blk,p.base+a.off,none⟩:=by cases a';simp_all
         rw[gP _ rfl];simp only[World.cell?,hx,Option.isSome_none,Bool.false_eq_true,if_false]
         grind
        ·cases hj
       ·cases hj
    ·cases h
   ·cases h
theorem oV [π:Pins]{φ:PL}{H:AH}{w:World}(R:Rel φ H w){q:Place}(b:Nat)(x:Obj)(hb:π.pin b=some x)(hq:q.blk≠b):∀(i:Nat) p,(φ++[q])[i]?=some p->H.w0.rd i=none->p.blk≠b:=fun i p hp hn=>by
 rcases Nat.lt_or_ge i φ.length with h|h
 ·rw[List.getElem?_append_left h] at hp;exact(R.pin b x hb).2 i p hp hn
 grind
theorem sG{φ:PL}{n m:Nat}(h:∀(i:Nat) p,φ[i]?=some p->p.blk<n)(hn:n<=m){q:Place}(hq:q.blk<m):∀(i:Nat) p,(φ++[q])[i]?=some p->p.blk<m:=fun i p hp=>by
 grind
theorem aYa [π:Pins]{φ:PL}{H:AH}{w:World}(R:Rel φ H w)(x:Obj)(tot sz:Nat):∀b y,π.pin b=some y->(w.alloc x).heap[b]?=some y/\∀(i:Nat) p,(φ++[⟨w.heap.size,0,tot,sz⟩])[i]?=some p->H.w0.rd i=none->p.blk≠b:=fun b y hb=>by
 have qm:=alt_of_getElem? (R.pin b y hb).1;exact⟨(Below.heap_alloc w x b qm).trans (R.pin b y hb).1,oV R b y hb (by grind)⟩
theorem aCw [π:Pins]{φ:PL}{H:AH}{w:World}(R:Rel φ H w){i:Nat}{p:Place}(hp:φ[i]?=some p)(hn:H.w0.rd i=none)(y:Obj):∀b x,π.pin b=some x->(w.heap.setIfInBounds p.blk y)[b]?=some x/\∀(i:Nat) p,φ[i]?=some p->H.w0.rd i=none->p.blk≠b:=fun b x hb=>by
 refine⟨?_,(R.pin b x hb).2⟩;rw[Array.getElem?_setIfInBounds,if_neg ((R.pin b x hb).2 i p hp hn)];exact(R.pin b x hb).1
theorem Rel.new [Pins]{φ:PL}{H:AH}{w:World}(R:Rel φ H w)(o:AObj)(x:Obj)(tot sz:Nat)
 (h:ORel (φ++[⟨w.heap.size,0,tot,sz⟩]) ⟨w.heap.size,0,tot,sz⟩ o (some x)):Rel (φ++[⟨w.heap.size,0,tot,sz⟩]) (dC H o) (w.alloc x):=by
 have qp:φ <+: φ++[⟨w.heap.size,0,tot,sz⟩]:=⟨_,rfl⟩;have qm:∀i o,H.tr.get i=some o->∀p,φ[i]?=some p->p.blk<w.heap.size:=by
  intro i o hi p hp;obtain⟨q,hq,hN,hO⟩:=R.obj i o hi;rw[hp] at hq;cases hq;cases o with
  |cells cs s e=>obtain⟨C,e,lo,hi,hx,_⟩:=hO;grind
  |map es c=>obtain⟨es',hx,_⟩:=hO;grind
  |iter s q=>exact alt_of_getElem? hO
 have z4:∀i o,H.tr.get i=some o->i<H.nx:=by
  intro i o hi;obtain⟨q,hq,_⟩:=R.obj i o hi;rw[<-R.len];exact lt_of_getElem? hq
 have ai:∀p o y,ORel φ p o y->ORel (φ++[⟨w.heap.size,0,tot,sz⟩]) p o y:=by
  intro p o y hO;cases o with
  |cells cs s e=>obtain⟨C,e,lo,hi,hx,h1,h2,h3,h4,h5,h6⟩:=hO;exact⟨C,e,lo,hi,hx,h1,h2,h3,h4,h5,h6.mono qp⟩
  |map es c=>
   obtain⟨es',hx,h1,h2⟩:=hO;exact⟨es',hx,h1,fun i k v b e he fh=>let ⟨a1,a2,a3⟩:=h2 i k v b e he fh;⟨a1.mono qp,a2.mono qp,a3⟩⟩
  |iter s q=>exact hO
 refine⟨R.below.alloc R.below.size x,by simp[dC,R.len],fun i o' hi=>?_,fun i j o1 o2 p q hi hj hp hq e=>?_,aYa R x tot sz,sG R.lt (by simp) (by simp),R.ro' rfl qp fun i hi h=>by
  have:i≠H.nx:=by have:=R.len;omega
  grind [dC,Tr.get_set_ne]⟩
 ·by_cases zy:i=H.nx
  ·subst zy;simp only[dC,Tr.get_set_same] at hi;cases hi;refine⟨⟨w.heap.size,0,tot,sz⟩,by rw[<-R.len];simp,R.below.size,?_⟩
   grind [ORel,heap_alloc_new]
  ·simp only[dC,Tr.get_set_ne _ _ zy] at hi;obtain⟨p,hp,hN,hO⟩:=R.obj i o' hi;refine⟨p,getElem?_prefix qp hp,hN,?_⟩
   grind [Below.heap_alloc]
 ·have back:∀i o',(H.tr.set H.nx (some o)).get i=some o'->i≠H.nx->H.tr.get i=some o':=fun i o' h qr=>by grind [Tr.get_set_ne]
  have pl:∀i p,i≠H.nx->i<H.nx->(φ++[⟨w.heap.size,0,tot,sz⟩])[i]?=some p->φ[i]?=some p:=by
   intro i p qr hl hp
   rwa [List.getElem?_append_left (by rw[R.len];exact hl)] at hp
  have pn:∀p,(φ++[(⟨w.heap.size,0,tot,sz⟩:Place)])[H.nx]?=some p->p.blk=w.heap.size:=by
   intro p hp;rw[<-R.len] at hp;grind
  by_cases h1:i=H.nx<;>by_cases h2:j=H.nx
  ·omega
  ·have xy:=back j o2 hj h2
   grind
  ·have qi:=back i o1 hi h1
   grind
  ·have qi:=back i o1 hi h1;have xy:=back j o2 hj h2;exact R.inj i j o1 o2 p q qi xy (pl i p h1 (z4 i o1 qi) hp) (pl j q h2 (z4 j o2 xy) hq) e
theorem Rel.drew [Pins]{φ:PL}{H:AH}{w:World}(R:Rel φ H w):Rel φ H w.drew:=⟨R.below.drew,R.len,R.obj,R.inj,R.pin,R.lt,R.ro⟩
theorem Rel.newCells [Pins]{φ:PL}{H:AH}{w:World}(R:Rel φ H w){cs cs':VL}(hc:VRs φ cs cs')(e:TY)(sz:Nat)(ht:SzE sz e):
 Rel (φ++[⟨w.heap.size,0,cs'.length,sz⟩]) (dC H (.cells cs sz true)) (w.alloc (.cells cs'.toArray e)):=by
 refine R.new _ _ _ _ ⟨cs'.toArray,e,0,0,rfl,fun k _=>by omega,by simp,⟨rfl,ht,fun _=>rfl⟩,by simp[hc.1],fun _=>by simp[hc.1],?_⟩;rw[hc.1];simpa using hc.mono ⟨_,rfl⟩
theorem Rel.newSpare [Pins]{φ:PL}{H:AH}{w:World}(R:Rel φ H w){cs cs' more:VL}(hc:VRs φ cs cs')(e:TY)(sz:Nat)(ht:SzE sz e):
 Rel (φ++[⟨w.heap.size,0,(cs'++more).length,sz⟩]) (dC H (.cells cs sz false)) (w.alloc (.cells (cs'++more).toArray e)):=by
 refine R.new _ _ _ _ ⟨(cs'++more).toArray,e,0,0,rfl,fun k _=>by omega,by simp,⟨rfl,ht,fun _=>rfl⟩,by simp[hc.1],fun h=>by simp at h,?_⟩;rw[hc.1];simpa using hc.mono ⟨_,rfl⟩
theorem ARel.new(φ:PL)(n:Nat)(hn:φ.length=n)(p:Place)(hp:p.base=0):ARel (φ++[p]) ⟨2*n+1,0,none⟩ ⟨p.blk,0,none⟩:=by
 refine .inr ⟨by simp only;omega,rfl,rfl,p,?_,rfl,by simp[hp]⟩
 grind
def splice(C:VL)(o:Nat)(vs:VL):VL:=C.take o++(vs++C.drop (o+vs.length))
theorem eE{C vs:VL}{o:Nat}(h:o+vs.length<=C.length):(splice C o vs).length=C.length:=by
 simp[splice];omega
theorem pB{C vs:VL}{o:Nat}(h:o<=C.length)(n:Nat):(splice C o vs)[n]?=if n<o then C[n]? else if n<o+vs.length then vs[n - o]? else C[n]?:=by
 unfold splice
 grind
theorem tO(C:VL)(o:Nat)(v:Value)(vs:VL)(h:o+(vs.length+1)<=C.length):splice (C.set o v) (o+1) vs=splice C o (v::vs):=by
 grind [splice,List.take_succ_eq_append_getElem,List.take_set_of_le,List.drop_set_of_lt,Nat.add_assoc,Nat.add_comm]
theorem mU(P:PG):∀(vs:VL) (i:Nat) (w:World) (a:Addr) (C:VL) (e:TY) (lo hi:Nat),w.heap[a.block]?=some (.cells C.toArray e (lo,hi))->a.spot=none->
 (∀k,k<C.length->lo<=k->lo=hi)->a.off+i+vs.length<=C.length->aZ vs=true->
 (storeCells a vs i).run P w=.ok () {w with heap:=w.heap.setIfInBounds a.block (.cells (splice C (a.off+i) vs).toArray e (lo,hi))}:=by
 intro vs
 induction vs with
 |nil=>
  intro i w a C e lo hi hb hs hf qf h1;have:splice C (a.off+i) []=C:=by simp[splice]
  rw[this];have v4:w.heap.setIfInBounds a.block (.cells C.toArray e (lo,hi))=w.heap:=by
   grind
  rw[v4];simp[storeCells]
 |cons v vs ih=>
  intro i w a C e lo hi hb hs hf qf h1;simp only[aZ,QB] at h1;simp only[List.length_cons] at qf;have qm:a.off+i<C.length:=by omega
  have fi:=gP a hs i;have hc:w.cell? (a.add i)=some C[a.off+i]:=by
   grind [World.cell?]
  have fj:w.frozen? (a.add i)=false:=by
   grind [World.frozen?,Bool.and_eq_false_iff,decide_eq_false_iff_not]
  simp only[storeCells,Sem.run_bind,run_store P w (a.add i) v .plain h1.1,hc,fj,Bool.false_eq_true,if_false,Result.andThen_ok];have v4:w.setCell (a.add i) v={w with heap:=w.heap.setIfInBounds a.block (.cells (C.set (a.off+i) v).toArray e (lo,hi))}:=by
   rw[fi];simp only[World.setCell];congr 1
   grind
  rw[v4];have xu:({w with heap:=w.heap.setIfInBounds a.block (.cells (C.set (a.off+i) v).toArray e (lo,hi))}:World).heap[a.block]?=some (.cells (C.set (a.off+i) v).toArray e (lo,hi)):=by
   grind
  rw[ih (i+1) _ a (C.set (a.off+i) v) e lo hi xu hs (by simpa using hf) (by simp;omega) h1.2];have:=tO C (a.off+i) v vs (by omega);rw[Nat.add_assoc] at this
  simp_all
theorem VRs.splice{φ:PL}{C C' vs vs':VL}(h:VRs φ C C')(k:VRs φ vs vs')(o:Nat):VRs φ (splice C o vs) (AM.splice C' o vs'):=by
 unfold AM.splice;rw[<-k.1];exact(h.take o).append (k.append (h.drop _))
theorem pE{φ:PL}:∀{l l':VL},VRs φ l l'->aZ l=true->aZ l'=true
 |[],[],_,_=>rfl
 |[],_::_,h,_=>by have:=h.1;simp at this
 |_::_,[],h,_=>by have:=h.1;simp at this
 |v::l,v'::l',h,h1=>by
  simp only[aZ,QB] at h1 ⊢;refine⟨?_,pE h.tail h1.2⟩;have hv:=h.head;cases hv<;>first|rfl|(have:=h1.1;simp[Value.oneCell'] at this;done)|(rename_i e;obtain⟨_,_,rfl⟩:=e;rfl)|(rename_i k;rcases σ.kind k with⟨c,n,e⟩|⟨s,e⟩<;>rw[e]<;>rfl)
theorem Rel.setCells [Pins]{φ:PL}{H:AH}{w:World}(R:Rel φ H w){i:Nat}{cs:VL}{sz:Nat}{ex:Bool}(hg:H.tr.get i=some (.cells cs sz ex)){p:Place}(hp:φ[i]?=some p)
 {o:Nat}{vs vs':VL}(hv:VRs φ vs vs')(qf:o+vs.length<=cs.length){C:VL}{e:TY}{lo hi:Nat}(hC:w.heap[p.blk]?=some (.cells C.toArray e (lo,hi))):
 Rel φ {H with tr:=H.tr.set i (some (.cells (splice cs o vs) sz ex))} {w with heap:=w.heap.setIfInBounds p.blk (.cells (splice C (p.base+o) vs').toArray e (lo,hi))}:=by
 obtain⟨q,hq,hN,hO⟩:=R.obj _ _ hg;rw[hp] at hq;cases hq;obtain⟨C2,e2,lo2,v5,hx,hf,ht,hs,yb,yz,hr⟩:=hO;rw[hC] at hx;cases hx;simp only[List.size_toArray] at hf ht yb yz hr;have zr:=alt_of_getElem? hC;have hlC:(splice C (p.base+o) vs').length=C.length:=eE (by have:=hv.1;omega);have other:∀k,k≠p.blk->({w with heap:=w.heap.setIfInBounds p.blk (.cells (splice C (p.base+o) vs').toArray e (lo,hi))}:World).heap[k]?=w.heap[k]?:=by
  grind
 refine⟨⟨R.below.os,R.below.tape,R.below.output,by grind,fun k hk=>?_⟩,R.len,fun j o' hj=>?_,fun j k o1 o2 p1 p2 hj hk zx ze hE=>?_,aCw R hp (R.rdN hg) _,fun i p hp=>by simpa using R.lt i p hp,R.ro' rfl (List.prefix_refl _) fun j _ h=>by
  grind [Tr.get_set_ne]⟩
 ·have tn:k<H.w0.heap.size:=hk;rw[other k (by omega)];exact R.below.block k hk
 ·by_cases yx:j=i
  ·subst yx;simp only[Tr.get_set_same] at hj;cases hj;refine⟨p,hp,hN,(splice C (p.base+o) vs').toArray,e,lo,hi,by simp[zr],?_,?_,hs,?_,?_,?_⟩
   ·grind
   ·simp_all
   ·grind [List.size_toArray,eE]
   ·grind [List.size_toArray,eE]
   ·rw[eE qf];have h1:=VRs.splice hr hv o;have h2:((splice C (p.base+o) vs').drop p.base).take cs.length=splice ((C.drop p.base).take cs.length) o vs':=by
     have hl:vs'.length=vs.length:=hv.1.symm;apply List.ext_getElem?;intro n;rw[List.getElem?_take,pB (by simp;omega),List.getElem?_drop,pB (by omega)]
     grind
    simp_all
  ·simp only[Tr.get_set_ne _ _ yx] at hj;obtain⟨q,hq,tu,o7⟩:=R.obj _ _ hj;refine⟨q,hq,tu,?_⟩;have qr:q.blk≠p.blk:=fun hE=>yx (R.inj j i _ _ q p hj hg hq hp hE)
   simp_all
 ·have back:∀j o',(H.tr.set i (some (AObj.cells (splice cs o vs) sz ex))).get j=some o'->∃o'',H.tr.get j=some o'':=by
   grind [Tr.get_set_ne]
  obtain⟨o1',h1⟩:=back _ _ hj;obtain⟨o2',h2⟩:=back _ _ hk;exact R.inj j k _ _ p1 p2 h1 h2 zx ze hE
theorem pG [Pins](P:PG){φ:PL}{H H':AH}{w:World}(R:Rel φ H w){a a':Addr}(ha:ARel φ a a'){vs vs':VL}(hv:VRs φ vs vs')(h:fJ H a vs=some H'):
 ∃w',(storeCells a' vs' 0).run P w=.ok () w'/\Rel φ H' w':=by
 unfold fJ at h;rcases ha with⟨h0,h1,h2,h3⟩|⟨h0,hs,wq,p,hp,hb,ho⟩
 ·simp_all
 ·rw[show Nat.beq (a.block%2) 0=false by rw[h0];rfl,QF] at h;split at h
  ·rename_i cs sz ex hg;cases qf:(Nat.ble (a.off+vs.length) cs.length&&aZ vs) with
   |false=>rw[qf] at h;cases h
   |true=>
    rw[qf,QT] at h;cases h;simp only[QB] at qf;have vz:=QL qf.1;obtain⟨q,hq,hN,hO⟩:=R.obj _ _ hg;rw[hp] at hq;cases hq;obtain⟨C,e,lo,hi,hx,hf,ht,yw,yb,yz,hr⟩:=hO;have zc:w.heap[p.blk]?=some (.cells C.toList.toArray e (lo,hi)):=by simpa using hx
    have run:=mU P vs' 0 w a' C.toList e lo hi (by rw[hb];exact zc) wq (by simpa using hf) (by rw[ho,<-hv.1];simp;omega) (pE hv qf.2);refine⟨_,run,?_⟩;rw[hb,ho,Nat.add_zero];exact R.setCells hg hp hv vz zc
  ·cases h
end Go.AM
namespace Go.AM
open Go.RowKit
variable [σ:Sg]
structure TI where
 size:Nat
 bytes:Nat
 zero:Option Value
structure AFn where
 ntmps:Nat
 results:List ResultVar
 body:Code
structure Env (P:PG) where
 fn:Nat->Option AFn
 fn_ok:∀f x,fn f=some x->∃F,P.funcs[f]?=some F/\F.body=some x.body/\F.ntmps=x.ntmps/\F.results.toList=x.results/\(F.name== "runtime.NumGoroutine")=false
 und:Nat->Option TypeDesc
 und_ok:∀t d,und t=some d->P.underlying t=some d
 inf:Nat->Option TI
 inf_ok:∀t x,inf t=some x->∃i,P.info? t=some i/\i.size=x.size/\i.bytes=x.bytes/\i.zero=x.zero
 sz_lt:∀t x,inf t=some x->x.size<bF
 zs_ok:∀t x z,inf t=some x->x.zero=some z->z.cells.size=x.size
 eqT:Nat->Bool
 eqT_ok:∀t,eqT t=true->P.stoodInHeld t=false/\P.eqGuardType P.depth t=false
 /-- what is known of operations on placeholders -/
 ob:BinOp->TypeId->Value->Value->Option Value
 ob_ok:∀(φ:PL) op t x y v x' y',ob op t x y=some v->VR φ x x'->VR φ y y'->∀(p q:Operand) (w:World),∃v',VR φ v v'/\(do eqGuard op t p q x' y';binOp op t x' y').run P w=.ok v' w
 ou:UnOp->Value->Option Value
 ou_ok:∀(φ:PL) op x v x',ou op x=some v->VR φ x x'->∀(w:World),∃v',VR φ v v'/\(Op.unary op x').run P w=.ok v' w
def pZ(i:TypeInfo):Bool:=
 match i.zero with
 |some z=>Nat.beq z.cells.size i.size
 |none=>true
def Env.own(P:PG)(names:∀(f:Nat) (F:Func),P.funcs[f]?=some F->(F.name== "runtime.NumGoroutine")=false)(eqT:Nat->Bool)(h:∀t,eqT t=true->P.stoodInHeld t=false/\P.eqGuardType P.depth t=false):Env P where
 fn f:=match P.funcs[f]? with
  |some F=>(match F.body with
   |some c=>some ⟨F.ntmps,F.results.toList,c⟩
   |none=>none)
  |none=>none
 fn_ok f x h:=by
  grind
 und:=P.underlying
 und_ok _ _ h:=h
 inf t:=match P.info? t with
  |some i=>bif pZ i&&Nat.blt i.size bF then some ⟨i.size,i.bytes,i.zero⟩ else none
  |none=>none
 inf_ok t x h:=by
  grind
 sz_lt t x h:=by
  split at h
  ·rename_i i hi;cases hz:(pZ i&&Nat.blt i.size bF) with
   |false=>rw[hz] at h;cases h
   |true=>
    rw[hz,QT] at h;cases h
    simp_all
  ·cases h
 zs_ok t x z h hz:=by
  split at h
  ·rename_i i hi;cases hf:(pZ i&&Nat.blt i.size bF) with
   |false=>rw[hf] at h;cases h
   |true=>
    rw[hf,QT] at h;cases h;simp only at hz;rw[QB] at hf
    grind [pZ,QN]
  ·cases h
 eqT:=eqT
 eqT_ok:=h
 ob _ _ _ _:=none
 ob_ok _ _ _ _ _ _ _ _ h:=by cases h
 ou _ _:=none
 ou_ok _ _ _ _ _ h:=by cases h
section
variable {P:PG}
theorem aH(E:Env P){t:TY}{x:TI}(h:E.inf t=some x)(w:World):(sizeOf t).run P w=.ok x.size w:=by
 obtain⟨i,hi,h1,_⟩:=E.inf_ok t x h;simp[sizeOf,typeInfo,hi,h1]
theorem yV(E:Env P){t:TY}{x:TI}(h:E.inf t=some x)(w:World):∃i,(typeInfo t).run P w=.ok i w/\i.size=x.size/\i.bytes=x.bytes/\i.zero=x.zero:=by
 obtain⟨i,hi,h1⟩:=E.inf_ok t x h;exact⟨i,by simp[typeInfo,hi],h1⟩
theorem bE(E:Env P){t:TY}{x:TI}{z:Value}(h:E.inf t=some x)(hz:x.zero=some z)(w:World):(zeroValue t).run P w=.ok z w:=by
 obtain⟨i,hi,h1,h2,h3⟩:=E.inf_ok t x h;simp[zeroValue,typeInfo,hi,h3,hz]
theorem aE(E:Env P){t:TY}{d:TypeDesc}(h:E.und t=some d)(w:World):(underlying t).run P w=.ok d w:=run_underlying (E.und_ok t d h) w
end
def SOk [Pins](P:PG)(s:Sem Value)(φ:PL)(w:World)(v:Value)(H':AH):Prop:=
 ∃φ' v' w',φ <+: φ'/\Rel φ' H' w'/\VR φ' v v'/\s.run P w=.ok v' w'
theorem SOk.here [Pins]{P:PG}{s:Sem Value}{φ:PL}{w:World}{v v':Value}{H:AH}(R:Rel φ H w)(hv:VR φ v v')(h:s.run P w=.ok v' w):SOk P s φ w v H:=
 ⟨φ,v',w,List.prefix_refl _,R,hv,h⟩
def rV:Value->Bool
 |.bool _|.int _ _|.string _=>true
 |_=>false
def kO:VL->Bool
 |[]=>true
 |v::r=>rV v&&kO r
def flat:Value->Bool
 |.agg ⟨cs⟩=>kO cs
 |v=>rV v
theorem aDy{φ:PL}{v v':Value}(h:VR φ v v')(hf:rV v=true):v'=v:=by
 cases h<;>first|rfl|(simp[rV] at hf)
theorem jB{φ:PL}:∀{l l':VL},VRs φ l l'->kO l=true->l'=l
 |[],[],_,_=>rfl
 |[],_::_,h,_=>by have:=h.1;simp at this
 |_::_,[],h,_=>by have:=h.1;simp at this
 |v::l,v'::l',h,hf=>by
  simp only[kO,QB] at hf;rw[aDy h.head hf.1,jB h.tail hf.2]
theorem aBe{φ:PL}{v v':Value}(h:VR φ v v')(hf:flat v=true):v'=v:=by
 cases h with
 |agg ha hv=>rw[jB ⟨ha,hv⟩ hf]
 |_=>first|rfl|(simp[flat,rV] at hf)
theorem VR.cells{φ:PL}{v v':Value}(h:VR φ v v'):VRs φ v.cells.toList v'.cells.toList:=by
 cases h with
 |agg ha hv=>exact⟨ha,hv⟩
 |func fn hy ha hb va vb=>exact VRs.cons (.func fn hy ha hb va vb) (VRs.nil φ)
 |yl r ha hb va vb=>exact VRs.cons (.yl r ha hb va vb) (VRs.nil φ)
 |tuple ha hv=>exact VRs.cons (.tuple ha hv) (VRs.nil φ)
 |bool b=>exact VRs.cons (.bool b) (VRs.nil φ)
 |int k n=>exact VRs.cons (.int k n) (VRs.nil φ)
 |float k n=>exact VRs.cons (.float k n) (VRs.nil φ)
 |complex k n m=>exact VRs.cons (.complex k n m) (VRs.nil φ)
 |string s=>exact VRs.cons (.string s) (VRs.nil φ)
 |pnil=>exact VRs.cons .pnil (VRs.nil φ)
 |ptr r=>exact VRs.cons (.ptr r) (VRs.nil φ)
 |snil l c=>exact VRs.cons (.snil l c) (VRs.nil φ)
 |emp h=>obtain⟨_,_,rfl⟩:=h;exact VRs.cons (.emp ⟨_,_,rfl⟩) (VRs.nil φ)
 |slc r=>exact VRs.cons (.slc r) (VRs.nil φ)
 |mnil=>exact VRs.cons .mnil (VRs.nil φ)
 |mp r=>exact VRs.cons (.mp r) (VRs.nil φ)
 |cnil=>exact VRs.cons .cnil (VRs.nil φ)
 |ch r=>exact VRs.cons (.ch r) (VRs.nil φ)
 |ph k=>
  have hc:(σ.at k).cells.toList=[σ.at k]:=by rcases σ.kind k with⟨c,n,e⟩|⟨s,e⟩<;>rw[e]<;>rfl
  rw[hc];exact VRs.cons (.ph k) (VRs.nil φ)
 |nilFunc=>exact VRs.cons .nilFunc (VRs.nil φ)
 |iface t h=>exact VRs.cons (.iface t h) (VRs.nil φ)
 |nilIface=>exact VRs.cons .nilIface (VRs.nil φ)
def cW:TypeDesc->Bool
 |.struct _|.array _ _=>true
 |_=>false
def apart{P:PG}(E:Env P)(t:TY)(cs:VL)(off:Nat):Option Value:=
 match E.und t with
 |some d=>
  bif cW d then
   (match E.inf t with
   |some i=>bif Nat.ble (off+i.size) cs.length then some (.agg ⟨(cs.drop off).take i.size⟩) else none
   |none=>none)
  else cs[off]?
 |none=>none
theorem iO{P:PG}(E:Env P){t:TY}{d:TypeDesc}(h:E.und t=some d)(w:World):(isAgg t).run P w=.ok (cW d) w:=by
 simp only[isAgg,Sem.run_bind,aE E h,Result.andThen_ok];cases d<;>rfl
theorem aEv{P:PG}(E:Env P){φ:PL}{t:TY}{cs cs':VL}{off:Nat}{v:Value}(hc:VRs φ cs cs')(h:apart E t cs off=some v)(w:World):
 ∃v',(part t ⟨cs'⟩ off).run P w=.ok v' w/\VR φ v v':=by
 unfold apart at h;split at h
 ·rename_i d hd;cases yn:cW d with
  |true=>
   rw[yn,QT] at h;split at h
   ·rename_i i hi;cases qf:Nat.ble (off+i.size) cs.length with
    |false=>rw[qf] at h;cases h
    |true=>
     rw[qf,QT] at h;cases h;refine⟨.agg ⟨(cs'.drop off).take i.size⟩,?_,VR.agg' ((hc.drop off).take i.size)⟩;simp only[part,Sem.run_bind,iO E hd,yn,Result.andThen_ok,if_true,aH E hi,Sem.run_pure]
     simp_all
   ·cases h
  |false=>
   rw[yn,QF] at h;obtain⟨v',h1,h2⟩:=hc.get h;refine⟨v',?_,h2⟩;simp only[part,Sem.run_bind,iO E hd,yn,Result.andThen_ok,Bool.false_eq_true,if_false,List.getElem?_toArray,h1,Sem.run_pure]
 ·cases h
def dZ(f:Nat->Option Bool):Nat->Nat->Option Bool
 |_,0=>some true
 |i,n+1=>match f i with
  |some true=>dZ f (i+1) n
  |some false=>some false
  |none=>none
def bU{P:PG}(E:Env P)(f:TY->Value->Value->Option Bool)(xs ys:VL):List Field->Option Bool
 |[]=>some true
 |fd::fs=>
  bif fd.name== "_" then bU E f xs ys fs else
  match apart E fd.type xs fd.offset,apart E fd.type ys fd.offset with
  |some a,some b=>(match f fd.type a b with
   |some true=>bU E f xs ys fs
   |some false=>some false
   |none=>none)
  |_,_=>none
def aeq{P:PG}(E:Env P):Nat->TypeId->Value->Value->Option Bool
 |0,_,_,_=>none
 |d+1,t,x,y=>
  match E.und t,x,y with
  |some (.int _),.int k a,.int k' b=>if k=k' then some (a==b) else none
  |some .bool,.bool a,.bool b=>some (a==b)
  |some .string,.string a,.string b=>some (a.data.toList==b.data.toList)
  |some (.struct fs),.agg ⟨xs⟩,.agg ⟨ys⟩=>bif E.eqT t then bU E (aeq E d) xs ys fs.toList else none
  |some (.array n e),.agg ⟨xs⟩,.agg ⟨ys⟩=>(match E.inf e with
   |some i=>dZ (fun j=>match apart E e xs (j*i.size),apart E e ys (j*i.size) with
    |some a,some b=>aeq E d e a b
    |_,_=>none) 0 n
   |none=>none)
  |_,_,_=>none
theorem jX{P:PG}(E:Env P){t:TY}{cs:VL}{off:Nat}{v:Value}(h:apart E t cs off=some v)(w:World):(part t ⟨cs⟩ off).run P w=.ok v w:=by
 unfold apart at h;split at h
 ·rename_i d hd;cases yn:cW d with
  |true=>
   rw[yn,QT] at h;split at h
   ·rename_i i hi;cases qf:Nat.ble (off+i.size) cs.length with
    |false=>rw[qf] at h;cases h
    |true=>
     rw[qf,QT] at h;cases h;simp only[part,Sem.run_bind,iO E hd,yn,Result.andThen_ok,if_true,aH E hi,Sem.run_pure]
     simp_all
   ·cases h
  |false=>
   rw[yn,QF] at h;simp only[part,Sem.run_bind,iO E hd,yn,Result.andThen_ok,Bool.false_eq_true,if_false,List.getElem?_toArray,h,Sem.run_pure]
 ·cases h
theorem aCb{P:PG}(E:Env P){f:TY->Value->Value->Option Bool}{d:Nat}(hf:∀t x y b w,f t x y=some b->(Op.equalIn d t x y).run P w=.ok b w)(xs ys:VL):
 ∀(fs:List Field) (b:Bool) (w:World),bU E f xs ys fs=some b->(Op.eqFields d ⟨xs⟩ ⟨ys⟩ fs).run P w=.ok b w:=by
 intro fs
 induction fs with
 |nil=>intro b w h;simp[bU] at h;subst h;simp[Op.eqFields]
 |cons fd fs ih=>
  intro b w h;simp only[bU] at h;cases hn:(fd.name== "_") with
  |true=>
   rw[hn,QT] at h;simp only[Op.eqFields]
   grind
  |false=>
   rw[hn,QF] at h;have rc:fd.name≠ "_":=by simpa using hn
   split at h
   ·rename_i a c ha hc;simp only[Op.eqFields,if_pos rc,Sem.run_bind,jX E ha,jX E hc,Result.andThen_ok];split at h
    ·rename_i hr;simp only[hf _ _ _ _ w hr,Result.andThen_ok,Bool.not_true,Bool.false_eq_true,if_false];exact ih b w h
    ·simp_all
    ·cases h
   ·cases h
theorem aEh{P:PG}{f:Nat->Option Bool}{d:Nat}{e:TY}{size:Nat}{xs ys:VL}
 (hf:∀j b w,f j=some b->∃u v,(part e ⟨xs⟩ (j*size)).run P w=.ok u w/\(part e ⟨ys⟩ (j*size)).run P w=.ok v w/\(Op.equalIn d e u v).run P w=.ok b w):
 ∀(n i:Nat) (b:Bool) (w:World),dZ f i n=some b->(Op.eqItems d e size ⟨xs⟩ ⟨ys⟩ (List.range' i n)).run P w=.ok b w:=by
 intro n
 induction n with
 |zero=>intro i b w h;simp[dZ] at h;subst h;simp[Op.eqItems]
 |succ n ih=>
  intro i b w h;simp only[dZ] at h;rw[List.range'_succ];simp only[Op.eqItems,Sem.run_bind];split at h
  ·rename_i hr;obtain⟨u,v,h1,h2,h3⟩:=hf i _ w hr;simp only[h1,h2,h3,Result.andThen_ok,Bool.not_true,Bool.false_eq_true,if_false];exact ih (i+1) b w h
  ·rename_i hr;cases h;obtain⟨u,v,h1,h2,h3⟩:=hf i _ w hr
   simp_all
  ·cases h
theorem aHt{P:PG}(E:Env P)(m:Nat):∀(d:Nat) (t:TY) (x y:Value) (b:Bool) (w:World),aeq E d t x y=some b->(Op.equalIn (d+m) t x y).run P w=.ok b w:=by
 intro d
 induction d with
 |zero=>intro t x y b w h;simp[aeq] at h
 |succ d ih=>
  intro t x y b w h;rw[show d+1+m=(d+m)+1 by omega];simp only[aeq] at h;split at h
  ·rename_i hu;split at h
   ·rename_i hk;subst hk;cases h;exact run_equalIn_int w _ t _ _ _ _ (E.und_ok _ _ hu)
   ·cases h
  ·rename_i hu;cases h;exact run_equalIn_bool w _ t _ _ (E.und_ok _ _ hu)
  ·rename_i hu;cases h;rw[run_equalIn_string w _ t _ _ (E.und_ok _ _ hu),ByteArray.toList_eq,ByteArray.toList_eq]
  ·rename_i fs xs ys hu;cases he:E.eqT t with
   |false=>rw[he] at h;cases h
   |true=>
    rw[he,QT] at h;have aj:P.fieldsOf t=fs:=by simp[Program.fieldsOf,E.und_ok _ _ hu]
    rw[run_equalIn_struct w _ t _ _ (by rw[aj];exact E.und_ok _ _ hu) (E.eqT_ok t he).1,aj]
    grind [aCb]
  ·rename_i n e xs ys hu;split at h
   ·rename_i i hi;obtain⟨i',qi,h1,_⟩:=E.inf_ok e i hi;have z9:P.cellsOf e=i.size:=by grind [Program.cellsOf]
    rw[run_equalIn_array (w:=w) _ _ _ (E.und_ok _ _ hu) qi,z9,List.range_eq_range'];refine aEh (fun j b w hj=>?_) n 0 b w h;split at hj
    ·rename_i a c ha hc;exact⟨a,c,jX E ha w,jX E hc w,ih _ _ _ _ w hj⟩
    ·cases hj
   ·cases h
  ·cases h
def cC(op:BinOp)(k:IntKind)(a b:Int):Option Value:=
 match op with
 |.add=>some (.int k (k.wrap (a+b)))
 |.sub=>some (.int k (k.wrap (a - b)))
 |.mul=>some (.int k (k.wrap (a*b)))
 |.quo=>if b=0 then none else some (.int k (k.wrap (a.tdiv b)))
 |.rem=>if b=0 then none else some (.int k (a.tmod b))
 |.and=>some (.int k (bits .and k a b))
 |.or=>some (.int k (bits .or k a b))
 |.xor=>some (.int k (bits .xor k a b))
 |.andNot=>some (.int k (bits .andNot k a b))
 |.eql=>some (.bool (a==b))
 |.neq=>some (.bool (a !=b))
 |.lss=>some (.bool (decide (a<b)))
 |.leq=>some (.bool (decide (a<=b)))
 |.gtr=>some (.bool (decide (a>b)))
 |.geq=>some (.bool (decide (a≥b)))
 |_=>none
def aBs(op:BinOp)(a b:BA):Option Value:=
 match op with
 |.add=>if a.size+b.size<=9223372036854775807 then some (.string ⟨⟨a.data.toList++b.data.toList⟩⟩) else none
 |.eql=>some (.bool (a.data.toList==b.data.toList))
 |.neq=>some (.bool !(a.data.toList==b.data.toList))
 |.lss=>some (.bool (Op.bytesLess a.data.toList b.data.toList))
 |.leq=>some (.bool (Op.bytesLess a.data.toList b.data.toList||a.data.toList==b.data.toList))
 |.gtr=>some (.bool !(Op.bytesLess a.data.toList b.data.toList||a.data.toList==b.data.toList))
 |.geq=>some (.bool !(Op.bytesLess a.data.toList b.data.toList))
 |_=>none
def dK(op:BinOp)(b:Bool):Option Value:=
 match op with
 |.eql=>some (.bool b)
 |.neq=>some (.bool !b)
 |_=>none
def tE(a b:Addr):Bool:=Nat.beq a.block b.block&&(Nat.beq a.off b.off&&(a.spot.isNone&&b.spot.isNone))
theorem aNx{a b:Addr}(h:tE a b=true):a=b:=by
 unfold tE at h;simp only[QB] at h;obtain⟨h1,h2,h3,h4⟩:=h;have h1:=QN h1;have h2:=QN h2;obtain⟨b1,o1,s1⟩:=a;obtain⟨b2,o2,s2⟩:=b
 simp_all
theorem ARel.inj{φ:PL}{a b c:Addr}(h1:ARel φ a b)(h2:ARel φ a c):b=c:=by
 obtain⟨b1,o1,s1⟩:=b;obtain⟨b2,o2,s2⟩:=c;rcases h1 with⟨q1,q2,q3,q4⟩|⟨q1,_,q4,p,q5,q2,q3⟩<;>rcases h2 with⟨r1,r2,r3,r4⟩|⟨r1,_,r4,q,r5,r2,r3⟩
 ·simp_all
 ·omega
 ·omega
 simp_all
def aQ{P:PG}(E:Env P)(op:BinOp)(t:TY)(x y:Value):Option Value:=
 match x,y with
 |.int k a,.int k' b=>
  (match op with
  |.shl=>if b<0 then none else some (.int k (k.wrap (a*2^(min b.toNat k.bits))))
  |.shr=>if b<0 then none else some (.int k (a.fdiv (2^(min b.toNat k.bits))))
  |_=>if k=k' then cC op k a b else none)
 |.string a,.string b=>aBs op a b
 |.bool a,.bool b=>(match E.und t with
  |some .bool=>dK op (a==b)
  |_=>none)
 |.agg ⟨xs⟩,.agg ⟨ys⟩=>
  bif kO xs&&(kO ys&&E.eqT t) then(match aeq E 9 t x y with
   |some b=>dK op b
   |none=>none)
  else none
 |.slice a _ c,.slice none _ c2=>bif (a.isNone&&Nat.beq c 1)||Nat.beq c2 1 then none else(match E.und t with
  |some (.slice _)=>dK op a.isNone
  |_=>none)
 |.pointer a,.pointer none=>(match E.und t with
  |some (.pointer _)=>dK op a.isNone
  |_=>none)
 |.pointer (some a),.pointer (some b)=>(match E.und t with
  |some (.pointer e)=>(match E.inf e with
   |some i=>bif !(Nat.beq i.size 0)&&tE a b then dK op true else none
   |none=>none)
  |_=>none)
 |.map a,.map none=>(match E.und t with
  |some (.map _ _)=>dK op a.isNone
  |_=>none)
 |.nilFunc,.nilFunc=>(match E.und t with
  |some (.func _ _ _)=>dK op true
  |_=>none)
 |.func _ _ _,.nilFunc=>(match E.und t with
  |some (.func _ _ _)=>dK op false
  |_=>none)
 |x,y=>E.ob op t x y
theorem dI{P:PG}{op:BinOp}{t:TY}{x y v:Value}{b:Bool}{w:World}(h:dK op b=some v)(he:(Op.equal t x y).run P w=.ok b w)
 (hx:binOp .eql t x y=(do pure (.bool (<-Op.equal t x y))))(hy:binOp .neq t x y=(do pure (.bool (!(<-Op.equal t x y))))):(binOp op t x y).run P w=.ok v w:=by
 cases op<;>simp[dK] at h<;>subst h
 ·rw[hx];simp[he]
 ·rw[hy];simp[he]
section
variable {P:PG}(w:World)(d:Nat){t:TY}
theorem jO{e:TY}(hu:P.underlying t=some (.slice e))(a:Option Addr)(l c l2 c2:Nat):(Op.equalIn (d+1) t (.slice a l c) (.slice none l2 c2)).run P w=.ok a.isNone w:=by
 cases a<;>simp[Op.equalIn,run_underlying hu]
theorem iA{e:TY}(hu:P.underlying t=some (.pointer e))(a:Option Addr):(Op.equalIn (d+1) t (.pointer a) (.pointer none)).run P w=.ok a.isNone w:=by
 cases a<;>simp[Op.equalIn,run_underlying hu]
theorem mV(E:Env P){e:TY}{i:TI}(hu:P.underlying t=some (.pointer e))(hi:E.inf e=some i)(hz:¬i.size=0)(a:Addr):(Op.equalIn (d+1) t (.pointer (some a)) (.pointer (some a))).run P w=.ok true w:=by
 simp[Op.equalIn,run_underlying hu,aH E hi,hz,sameAddr]
theorem lM{k e:TY}(hu:P.underlying t=some (.map k e))(a:Option Nat):(Op.equalIn (d+1) t (.map a) (.map none)).run P w=.ok a.isNone w:=by
 cases a<;>simp[Op.equalIn,run_underlying hu]
theorem uB{k e:Array TypeId}{b:Bool}(hu:P.underlying t=some (.func k e b)):(Op.equalIn (d+1) t .nilFunc .nilFunc).run P w=.ok true w:=by
 simp[Op.equalIn,run_underlying hu]
theorem sN{k e:Array TypeId}{b:Bool}(hu:P.underlying t=some (.func k e b))(f:Fn)(x y:Array Value):(Op.equalIn (d+1) t (.func f x y) .nilFunc).run P w=.ok false w:=by
 simp[Op.equalIn,run_underlying hu]
end
theorem aMu{P:PG}(E:Env P){φ:PL}{op:BinOp}{t:TY}{x y x' y' v:Value}(hx:VR φ x x')(hy:VR φ y y')(h:aQ E op t x y=some v)(p q:Operand)(w:World):
 ∃v',VR φ v v'/\(do eqGuard op t p q x' y';binOp op t x' y').run P w=.ok v' w:=by
 unfold aQ at h;split at h
 ·-- ints
  cases hx;cases hy;rename_i k a k' b;simp only[Sem.run_bind,eqGuard_at_int,Sem.run_pure,Result.andThen_ok];split at h
  ·split at h
   ·cases h
   ·rename_i hb;cases h;refine⟨_,.int _ _,?_⟩;rw[binOp_shl];simp[Op.shift,hb]
  ·split at h
   ·cases h
   ·rename_i hb;cases h;refine⟨_,.int _ _,?_⟩;rw[binOp_shr];simp[Op.shift,hb]
  ·split at h
   ·rename_i hk;subst hk;cases op<;>simp only[cC] at h
    case add=>cases h;exact⟨_,.int _ _,by rw[binOp_add];rfl⟩
    case sub=>cases h;exact⟨_,.int _ _,by rw[binOp_sub];rfl⟩
    case mul=>cases h;exact⟨_,.int _ _,by rw[binOp_mul];rfl⟩
    case quo=>
     split at h
     ·cases h
     ·rename_i hb;cases h;exact⟨_,.int _ _,by rw[binOp_quo];simp[Op.intDiv,hb]⟩
    case rem=>
     split at h
     ·cases h
     ·rename_i hb;cases h;exact⟨_,.int _ _,by rw[binOp_rem];simp[Op.intDiv,hb]⟩
    case and=>cases h;exact⟨_,.int _ _,by rw[binOp_and,intBits_and];rfl⟩
    case or=>cases h;exact⟨_,.int _ _,by rw[binOp_or,intBits_or];rfl⟩
    case xor=>cases h;exact⟨_,.int _ _,by rw[binOp_xor,intBits_xor];rfl⟩
    case andNot=>cases h;exact⟨_,.int _ _,by rw[binOp_andNot,intBits_andNot];rfl⟩
    case eql=>cases h;exact⟨_,.bool _,by rw[binOp_eql];rfl⟩
    case neq=>cases h;exact⟨_,.bool _,by rw[binOp_neq];rfl⟩
    case lss=>cases h;exact⟨_,.bool _,by rw[binOp_lss];rfl⟩
    case leq=>cases h;exact⟨_,.bool _,by rw[binOp_leq];rfl⟩
    case gtr=>cases h;exact⟨_,.bool _,by rw[binOp_gtr];rfl⟩
    case geq=>cases h;exact⟨_,.bool _,by rw[binOp_geq];rfl⟩
    all_goals cases h
   ·cases h
 ·-- strings
  cases hx;cases hy;rename_i a b;simp only[Sem.run_bind,eqGuard_at_string,Sem.run_pure,Result.andThen_ok];have hb:binOp op t (.string a) (.string b)=Op.stringOp op a b:=by cases op<;>rfl
  rw[hb];cases op<;>simp only[aBs] at h
  case add=>
   split at h
   ·rename_i qf;cases h;refine⟨_,.string _,?_⟩;simp only[Op.stringOp,IntKind.max_i64];rw[if_neg (by omega)];have:a++b=⟨⟨a.data.toList++b.data.toList⟩⟩:=by
     apply ByteArray.ext
     simp_all
    rw[this];rfl
   ·cases h
  case eql=>cases h;exact⟨_,.bool _,by simp[Op.stringOp,ByteArray.toList_eq]⟩
  case neq=>cases h;exact⟨_,.bool _,by simp[Op.stringOp,ByteArray.toList_eq]⟩
  case lss=>cases h;exact⟨_,.bool _,by simp[Op.stringOp,ByteArray.toList_eq]⟩
  case leq=>cases h;exact⟨_,.bool _,by simp[Op.stringOp,ByteArray.toList_eq]⟩
  case gtr=>cases h;exact⟨_,.bool _,by simp[Op.stringOp,ByteArray.toList_eq]⟩
  case geq=>cases h;exact⟨_,.bool _,by simp[Op.stringOp,ByteArray.toList_eq]⟩
  all_goals cases h
 ·-- bools
  cases hx;cases hy;rename_i a b;simp only[Sem.run_bind,eqGuard_at_bool,Sem.run_pure,Result.andThen_ok];split at h
  ·rename_i hu;have hv:∃c,v=.bool c:=by cases op<;>simp[dK] at h<;>exact⟨_,h.symm⟩
   obtain⟨c,rfl⟩:=hv;exact⟨_,.bool _,dI h (run_equal_bool w t _ _ (E.und_ok _ _ hu)) (by cases a<;>rfl) (by cases a<;>rfl)⟩
  ·cases h
 ·-- aggregates
  rename_i xs ys;cases hf:(kO xs&&(kO ys&&E.eqT t)) with
  |false=>rw[hf] at h;cases h
  |true=>
   rw[hf,QT] at h;simp only[QB] at hf;obtain rfl:=aBe hx hf.1;obtain rfl:=aBe hy hf.2.1;split at h
   ·rename_i b hb;have hv:∃c,v=.bool c:=by cases op<;>simp[dK] at h<;>exact⟨_,h.symm⟩
    obtain⟨c,rfl⟩:=hv;refine⟨_,.bool _,?_⟩;simp only[Sem.run_bind,run_eqGuard_agg w op t p q _ _ (E.eqT_ok t hf.2.2).2,Result.andThen_ok];exact dI h (aHt E 9991 9 t _ _ b w hb) rfl rfl
   ·cases h
 ·-- slices
  rename_i a l c l2 c2;have v6:((a.isNone&&Nat.beq c 1)||Nat.beq c2 1)=false:=by
   grind
  rw[v6,QF] at h;rw[Bool.or_eq_false_iff] at v6;have hv:∀d,dK op d=some v->∃c,v=.bool c:=by intro d h;cases op<;>simp[dK] at h<;>exact⟨_,h.symm⟩
  cases hy with
  |emp _=>simp_all
  |snil _ _=>
  split at h
  ·rename_i e hu;obtain⟨cc,rfl⟩:=hv _ h;cases hx with
   |snil l c=>
    refine⟨_,.bool _,?_⟩;simp only[Sem.run_bind,eqGuard_at_slice,Sem.run_pure,Result.andThen_ok];exact dI h (jO w 9999 (E.und_ok _ _ hu) _ _ _ _ _) rfl rfl
   |emp _=>simp_all
   |slc r=>
    refine⟨_,.bool _,?_⟩;simp only[Sem.run_bind,eqGuard_at_slice,Sem.run_pure,Result.andThen_ok];exact dI h (jO w 9999 (E.und_ok _ _ hu) _ _ _ _ _) rfl rfl
  ·cases h
 ·-- pointers
  cases hy;have hv:∀d,dK op d=some v->∃c,v=.bool c:=by intro d h;cases op<;>simp[dK] at h<;>exact⟨_,h.symm⟩
  split at h
  ·rename_i e hu;obtain⟨cc,rfl⟩:=hv _ h;cases hx with
   |pnil=>
    refine⟨_,.bool _,?_⟩;simp only[Sem.run_bind,eqGuard_at_pointer,Sem.run_pure,Result.andThen_ok];exact dI h (iA w 9999 (E.und_ok _ _ hu) _) rfl rfl
   |ptr r=>
    refine⟨_,.bool _,?_⟩;simp only[Sem.run_bind,eqGuard_at_pointer,Sem.run_pure,Result.andThen_ok];exact dI h (iA w 9999 (E.und_ok _ _ hu) _) rfl rfl
  ·cases h
 ·-- two pointers
  rename_i a b;have hv:∀d,dK op d=some v->∃c,v=.bool c:=by intro d h;cases op<;>simp[dK] at h<;>exact⟨_,h.symm⟩
  split at h
  ·rename_i e hu;split at h
   ·rename_i i hi;cases hb:(!(Nat.beq i.size 0)&&tE a b) with
    |false=>rw[hb] at h;cases h
    |true=>
     rw[hb,QT] at h;simp only[QB,Bool.not_eq_true'] at hb;obtain rfl:=aNx hb.2;have hz:¬i.size=0:=fun q=>by simp_all
     obtain⟨cc,rfl⟩:=hv _ h;cases hx with
     |ptr r=>
      cases hy with
      |ptr r2=>
       obtain rfl:=ARel.inj r r2;refine⟨_,.bool _,?_⟩;simp only[Sem.run_bind,eqGuard_at_pointer,Sem.run_pure,Result.andThen_ok];exact dI h (mV w 9999 E (E.und_ok _ _ hu) hi hz _) rfl rfl
   ·cases h
  ·cases h
 ·-- maps
  cases hy;have hv:∀d,dK op d=some v->∃c,v=.bool c:=by intro d h;cases op<;>simp[dK] at h<;>exact⟨_,h.symm⟩
  split at h
  ·rename_i e hu;obtain⟨cc,rfl⟩:=hv _ h;cases hx with
   |mnil=>
    refine⟨_,.bool _,?_⟩;simp only[Sem.run_bind,eqGuard_at_map,Sem.run_pure,Result.andThen_ok];exact dI h (lM w 9999 (E.und_ok _ _ hu) _) rfl rfl
   |mp r=>
    refine⟨_,.bool _,?_⟩;simp only[Sem.run_bind,eqGuard_at_map,Sem.run_pure,Result.andThen_ok];exact dI h (lM w 9999 (E.und_ok _ _ hu) _) rfl rfl
  ·cases h
 ·-- nil functions
  cases hx;cases hy;have hv:∀d,dK op d=some v->∃c,v=.bool c:=by intro d h;cases op<;>simp[dK] at h<;>exact⟨_,h.symm⟩
  split at h
  ·rename_i hu;obtain⟨cc,rfl⟩:=hv _ h;refine⟨_,.bool _,?_⟩;simp only[Sem.run_bind,eqGuard_at_nilFunc,Sem.run_pure,Result.andThen_ok];exact dI h (uB w 9999 (E.und_ok _ _ hu)) rfl rfl
  ·cases h
 ·-- functions against nil
  cases hx
  all_goals
   cases hy;have hv:∀d,dK op d=some v->∃c,v=.bool c:=by intro d h;cases op<;>simp[dK] at h<;>exact⟨_,h.symm⟩
   split at h
   ·rename_i hu;obtain⟨cc,rfl⟩:=hv _ h;refine⟨_,.bool _,?_⟩;simp only[Sem.run_bind,eqGuard_at_func,Sem.run_pure,Result.andThen_ok];exact dI h (sN w 9999 (E.und_ok _ _ hu) _ _ _) rfl rfl
   ·cases h
 ·obtain⟨v',h1,h2⟩:=E.ob_ok φ op t _ _ _ _ _ h hx hy p q w;exact⟨v',h1,h2⟩
end Go.AM
namespace Go.AM
open Go.RowKit
variable [σ:Sg]
section
variable {P:PG}(E:Env P)
def eA(t:TY)(a:Addr)(H:AH):Option Value:=
 match E.und t with
 |some d=>
  bif cW d then
   (match E.inf t with
   |some i=>(match aloads H a i.size with
    |some l=>some (.agg ⟨l⟩)
    |none=>none)
   |none=>none)
  else aload H a
 |none=>none
def iK(t:TY)(a:Addr)(v:Value)(H:AH):Option AH:=
 match E.inf t with
 |some i=>bif Nat.beq v.cells.toList.length i.size then fJ H a v.cells.toList else none
 |none=>none
def dV(t:TY):Nat:=
 match E.und t with
 |some (.array _ e)=>(match E.inf e with
  |some i=>i.size
  |none=>0)
 |some (.struct _)=>t+bF
 |_=>0
theorem aLa(t:TY):SzE (dV E t) t:=by
 unfold dV;split
 ·split
  ·rename_i i hi;exact SzE.small (E.sz_lt _ _ hi)
  ·exact SzE.small (by decide)
 ·exact SzE.tag t
 ·exact SzE.small (by decide)
def aJe(H:AH):Value:=.pointer (some ⟨2*H.nx+1,0,none⟩)
def aEp(t:TY)(v:Value)(H:AH):Value×AH:=(aJe H,dC H (.cells v.cells.toList (dV E t) true))
def sK(t:TY)(H:AH):Option (Value×AH):=
 match E.inf t with
 |some i=>(match i.zero with
  |some z=>some (aEp E t (ext z) H)
  |none=>none)
 |none=>none
theorem lZ [Pins]{φ:PL}{H:AH}{w:World}(R:Rel φ H w){a a':Addr}(ha:ARel φ a a'){t:TY}{v:Value}(h:eA E t a H=some v):
 ∃v',(loadVar t a').run P w=.ok v' w/\VR φ v v':=by
 unfold eA at h;split at h
 ·rename_i d hd;cases yn:cW d with
  |true=>
   rw[yn,QT] at h;split at h
   ·rename_i i hi;split at h
    ·rename_i l hl;cases h;obtain⟨l',h1,h2,h3⟩:=iJ R (.inr ha) hl;refine⟨.agg ⟨l'⟩,?_,VR.agg' h1⟩;have:=run_loadCells_list (P:=P) w a' l' h3;rw[h2] at this;simp only[loadVar,Sem.run_bind,iO E hd,yn,Result.andThen_ok,if_true,aH E hi,this,Sem.run_pure]
    ·cases h
   ·cases h
  |false=>
   rw[yn,QF] at h;obtain⟨v',h1,h2⟩:=aPw R ha h;refine⟨v',?_,h2⟩;simp only[loadVar,Sem.run_bind,iO E hd,yn,Result.andThen_ok,Bool.false_eq_true,if_false,run_load,h1]
 ·cases h
theorem aDo [Pins]{φ:PL}{H H':AH}{w:World}(R:Rel φ H w){a a':Addr}(ha:ARel φ a a'){t:TY}{v v':Value}(hv:VR φ v v')(h:iK E t a v H=some H'):
 ∃w',(storeVar t a' v').run P w=.ok () w'/\Rel φ H' w':=by
 unfold iK at h;split at h
 ·rename_i i hi;cases hb:Nat.beq v.cells.toList.length i.size with
  |false=>rw[hb] at h;cases h
  |true=>
   rw[hb,QT] at h;obtain⟨w',h1,h2⟩:=pG P R ha hv.cells h;refine⟨w',?_,h2⟩;have hs:v'.cells.size=i.size:=by
    have e1:=hv.cells.1
    simp_all
   simp only[storeVar,Sem.run_bind,aH E hi,Result.andThen_ok,hs,ne_eq,not_true,if_false];exact h1
 ·cases h
theorem aKl [Pins]{φ:PL}{H:AH}{w:World}(R:Rel φ H w)(t:TY){v v':Value}(hv:VR φ v v'):
 ∃φ' w' b,φ <+: φ'/\Rel φ' (aEp E t v H).2 w'/\VR φ' (aEp E t v H).1 (.pointer (some b))/\(newVar t v').run P w=.ok b w':=by
 have hc:=hv.cells;refine⟨_,_,⟨w.heap.size,0,none⟩,⟨_,rfl⟩,R.newCells hc t (dV E t) (aLa E t),.ptr (ARel.new φ H.nx R.len _ rfl),?_⟩;simp[newVar,newRow]
theorem ARel.add{φ:PL}{a a':Addr}(h:ARel φ a a')(n:Nat):ARel φ (a.add n) (a'.add n):=by
 unfold Addr.add;split
 ·exact h
 ·rcases h with⟨h0,h1,h2,h3⟩|⟨h0,hs,wq,p,hp,hb,ho⟩
  ·exact .inl ⟨h0,h1,by simp[h2],rfl⟩
  ·exact .inr ⟨h0,rfl,rfl,p,hp,hb,by simp[ho];omega⟩
def eQ(s:TY)(x:Value)(f:Nat):Option Value:=
 match x with
 |.pointer (some a)=>(match E.und s with
  |some (.struct fs)=>(match fs[f]? with
   |some fd=>(match E.inf fd.type with
    |some i=>bif Nat.beq i.size 0 then none else some (.pointer (some (a.add fd.offset)))
    |none=>none)
   |none=>none)
  |_=>none)
 |_=>none
theorem oO{φ:PL}{s:TY}{x x':Value}{f:Nat}{v:Value}(hx:VR φ x x')(h:eQ E s x f=some v)(w:World):
 ∃v',VR φ v v'/\(Instr.fieldAt s x' f).run P w=.ok v' w:=by
 unfold eQ at h;split at h
 ·cases hx with
  |ptr ha=>
   split at h
   ·rename_i fs hu;split at h
    ·rename_i fd hf;split at h
     ·rename_i i hi;cases hz:Nat.beq i.size 0 with
      |true=>rw[hz] at h;cases h
      |false=>
       rw[hz,QF] at h;cases h;refine⟨_,.ptr (ha.add fd.offset),?_⟩;have qr:¬i.size=0:=fun e=>by rw[e] at hz;cases hz
       simp[Instr.fieldAt,aE E hu,hf,Instr.sureAddr,fieldPlace,aH E hi,qr]
     ·cases h
    ·cases h
   ·cases h
 ·cases h
def aIf(t:TY)(x:Value)(f:Nat):Option Value:=
 match x with
 |.agg ⟨cs⟩=>(match E.und t with
  |some (.struct fs)=>(match fs[f]? with
   |some fd=>apart E fd.type cs fd.offset
   |none=>none)
  |_=>none)
 |_=>none
theorem aAg{φ:PL}{t:TY}{x x':Value}{f:Nat}{v:Value}(hx:VR φ x x')(h:aIf E t x f=some v)(w:World):
 ∃v',VR φ v v'/\(Instr.field t x' f).run P w=.ok v' w:=by
 unfold aIf at h;split at h
 ·cases hx with
  |agg ha hv=>
   split at h
   ·rename_i fs hu;split at h
    ·rename_i fd hf;obtain⟨v',h1,h2⟩:=aEv E ⟨ha,hv⟩ h w;exact⟨v',h2,by simp[Instr.field,aE E hu,hf,asAgg,h1]⟩
    ·cases h
   ·cases h
 ·cases h
def nZ(ix:Value)(n:Nat):Option Nat:=
 match ix with
 |.int _ i=>if 0<=i/\i<n then some i.toNat else none
 |_=>none
def bJ(t:TY)(x ix:Value):Option Value:=
 match E.und t,x with
 |some (.slice e),.slice (some a) len _=>(match E.inf e,nZ ix len with
  |some i,some j=>some (.pointer (some (a.add (j*i.size))))
  |_,_=>none)
 |some (.array n e),.pointer (some a)=>(match E.inf e,nZ ix n with
  |some i,some j=>some (.pointer (some (a.add (j*i.size))))
  |_,_=>none)
 |_,_=>none
theorem oQ{φ:PL}{t:TY}{x x' ix ix':Value}{v:Value}(hx:VR φ x x')(hi:VR φ ix ix')(h:bJ E t x ix=some v)(w:World):
 ∃v',VR φ v v'/\(Instr.indexAt t x' ix').run P w=.ok v' w:=by
 unfold bJ at h;split at h
 ·rename_i e a len c hu;cases hx with
  | @slc _ a' _ _ c' hs=>
    split at h
    ·rename_i i j y0 hj;cases h;unfold nZ at hj;split at hj
     ·rename_i k n;split at hj
      ·rename_i hn;cases hj;cases hi;have hA:ARel φ a a':=by
        rcases hs with⟨_,_,hA⟩|⟨_,h1,h2,h3|⟨hA,_⟩⟩
        ·exact hA
        ·omega
        ·exact hA
       refine⟨_,.ptr (hA.add _),?_⟩;simp[Instr.indexAt,asIntOf,aE E hu,hn,aH E y0]
      ·cases hj
     ·cases hj
    ·cases h
 ·rename_i n e a hu;cases hx with
  |ptr hA=>
   split at h
   ·rename_i i j y0 hj;cases h;unfold nZ at hj;split at hj
    ·rename_i k m;split at hj
     ·rename_i hn;cases hj;cases hi;refine⟨_,.ptr (hA.add _),?_⟩;simp[Instr.indexAt,asIntOf,aE E hu,hn,aH E y0,Instr.sureAddr]
     ·cases hj
    ·cases hj
   ·cases h
 ·cases h
def jU(t:TY)(x ix:Value):Option Value:=
 match E.und t,x with
 |some (.array n e),.agg ⟨cs⟩=>(match E.inf e,nZ ix n with
  |some i,some j=>apart E e cs (j*i.size)
  |_,_=>none)
 |some .string,.string s=>(match nZ ix s.data.toList.length with
  |some j=>(match s.data.toList[j]? with
   |some b=>some (.int .u8 b.toNat)
   |none=>none)
  |none=>none)
 |_,_=>none
theorem zI{φ:PL}{t:TY}{x x' ix ix':Value}{v:Value}(hx:VR φ x x')(hi:VR φ ix ix')(h:jU E t x ix=some v)(w:World):
 ∃v',VR φ v v'/\(Instr.index t x' ix').run P w=.ok v' w:=by
 unfold jU at h;split at h
 ·rename_i n e cs hu;cases hx with
  |agg ha hv=>
   split at h
   ·rename_i i j y0 hj;unfold nZ at hj;split at hj
    ·rename_i k m;split at hj
     ·rename_i hn;cases hj;cases hi;obtain⟨v',h1,h2⟩:=aEv E ⟨ha,hv⟩ h w;refine⟨v',h2,?_⟩;simp[Instr.index,asIntOf,aE E hu,hn,aH E y0,h1]
     ·cases hj
    ·cases hj
   ·cases h
 ·rename_i s hu;cases hx;split at h
  ·rename_i j hj;unfold nZ at hj;split at hj
   ·rename_i k m;split at hj
    ·rename_i hn;cases hj;cases hi;split at h
     ·rename_i b hb;cases h;refine⟨_,.int _ _,?_⟩;have hg:s[m.toNat]?=some b:=by
       have qm:m.toNat<s.size:=by simp_all
       rw[getElem?_pos s m.toNat qm];rw[List.getElem?_eq_some_iff] at hb;obtain⟨_,hb⟩:=hb;rw[<-hb];rfl
      simp[Instr.index,asIntOf,aE E hu,hn.1,hg]
     ·cases h
    ·cases hj
   ·cases hj
  ·cases h
 ·cases h
def qR(x:Value)(i:Nat):Option Value:=
 match x with
 |.tuple ⟨vs⟩=>vs[i]?
 |_=>none
theorem tX{φ:PL}{x x':Value}{i:Nat}{v:Value}(hx:VR φ x x')(h:qR x i=some v)(w:World):
 ∃v',VR φ v v'/\(Instr.extract x' i).run P w=.ok v' w:=by
 unfold qR at h;split at h
 ·cases hx with
  |tuple ha hv=>
   obtain⟨v',h1,h2⟩:=(show VRs φ _ _ from⟨ha,hv⟩).get h;exact⟨v',h2,by simp[Instr.extract,h1]⟩
 ·cases h
def oN(place:Nat->Option (Nat×Nat)):VL->List (Nat×Value)->Option VL
 |cells,[]=>some cells
 |cells,(i,v)::rest=>
  match place i with
  |none=>none
  |some (off,size)=>
   bif Nat.beq v.cells.toList.length size&&Nat.ble (off+v.cells.toList.length) cells.length then oN place (splice cells off v.cells.toList) rest else none
theorem aCv:∀(vs:VL) (k off:Nat) (C:Array Value),off+k+vs.length<=C.size->
 (vs.zipIdx k).foldl (fun(cs:Array Value) (x:Value×Nat)=>cs.setIfInBounds (off+x.2) x.1) C=⟨splice C.toList (off+k) vs⟩:=by
 intro vs
 induction vs with
 |nil=>intro k off C h;simp[splice]
 |cons v vs ih=>
  intro k off C h;simp only[List.length_cons] at h;simp only[List.zipIdx_cons,List.foldl_cons];rw[ih (k+1) off _ (by simp;omega)]
  grind [tO,Nat.add_assoc]
theorem mQ{φ:PL}(place:Nat->Option (Nat×Nat)):∀(parts parts':LV) (cells cells' out:VL),VRs φ cells cells'->
 parts.length=parts'.length->(∀(i:Nat) n v n' v',parts[i]?=some (n,v)->parts'[i]?=some (n',v')->n=n'/\VR φ v v')->oN place cells parts=some out->
 ∃out',Instr.fill place ⟨cells'⟩ parts'=some ⟨out'⟩/\VRs φ out out':=by
 intro parts
 induction parts with
 |nil=>
  intro parts' cells cells' out hc hl hp h;cases parts' with
  |nil=>simp[oN] at h;subst h;exact⟨cells',rfl,hc⟩
  |cons _ _=>simp at hl
 |cons x parts ih=>
  intro parts' cells cells' out hc hl hp h;cases parts' with
  |nil=>simp at hl
  |cons x' parts'=>
   obtain⟨n,v⟩:=x;obtain⟨n',v'⟩:=x';obtain⟨rfl,hv⟩:=hp 0 n v n' v' rfl rfl;simp only[oN] at h;split at h
   ·cases h
   ·rename_i off size r9;cases hb:(Nat.beq v.cells.toList.length size&&Nat.ble (off+v.cells.toList.length) cells.length) with
    |false=>rw[hb] at h;cases h
    |true=>
     rw[hb,QT] at h;simp only[QB] at hb;have e1:=QN hb.1;have e2:=QL hb.2;have o8:=hv.cells;have e3:v'.cells.size=size:=by rw[<-Array.length_toList];have:=o8.1;omega
     obtain⟨out',h1,h2⟩:=ih parts' (splice cells off v.cells.toList) (splice cells' off v'.cells.toList) out (VRs.splice hc o8 off) (by simpa using hl)
      (fun i n v n' v' ha hb=>hp (i+1) n v n' v' (by simpa using ha) (by simpa using hb)) h
     refine⟨out',?_,h2⟩;simp only[Instr.fill,r9];have qe:cells'.length=cells.length:=hc.1.symm;have e4:v'.cells.toList.length=v.cells.toList.length:=o8.1.symm;rw[if_neg (by simp_all)];rw[<-h1];congr 1;have:=aCv v'.cells.toList 0 off ⟨cells'⟩ (by simp_all);simp only[Nat.add_zero] at this
     grind [Array.toList_zipIdx]
def wJ(t:TY):Option (List (Nat×Nat)):=
 match E.und t with
 |some (.struct fs)=>fs.toList.mapM fun f=>match E.inf f.type with
  |some i=>some (f.offset,i.size)
  |none=>none
 |_=>none
def pQ(t:TY)(parts:LV):Option Value:=
 match E.inf t with
 |some ti=>(match ti.zero with
  |some z=>(match E.und t with
   |some (.struct _)=>(match wJ E t with
    |some l=>(match oN (fun i=>l[i]?) (ext z).cells.toList parts with
     |some out=>some (.agg ⟨out⟩)
     |none=>none)
    |none=>none)
   |some (.array _ e)=>(match E.inf e with
    |some i=>(match oN (fun j=>some (j*i.size,i.size)) (ext z).cells.toList parts with
     |some out=>some (.agg ⟨out⟩)
     |none=>none)
    |none=>none)
   |_=>none)
  |none=>none)
 |none=>none
theorem aHz{t:TY}{fs:Array Field}{l:List (Nat×Nat)}(hu:E.und t=some (.struct fs))(h:wJ E t=some l)(w:World):
 (fs.mapM fun f=>do pure (f.offset,<-sizeOf f.type):Sem (Array (Nat×Nat))).run P w=.ok ⟨l⟩ w:=by
 simp only[wJ,hu] at h
 have key:∀(fs:List Field) (l:List (Nat×Nat)),(fs.mapM fun f=>match E.inf f.type with|some i=>some (f.offset,i.size)|none=>none)=some l->
  (fs.mapM fun f=>do pure (f.offset,<-sizeOf f.type):Sem (List (Nat×Nat))).run P w=.ok l w:=by
  intro fs
  induction fs with
  |nil=>simp_all
  |cons f fs ih=>
   intro l h;simp only[List.mapM_cons,Option.bind_eq_bind,Option.pure_def] at h;cases hi:E.inf f.type with
   |none=>simp[hi] at h
   |some i=>
    simp only[hi,Option.bind_some] at h;cases hr:(fs.mapM fun f=>match E.inf f.type with|some i=>some (f.offset,i.size)|none=>none) with
    |none=>rw[hr] at h;simp at h
    |some r=>
     rw[hr] at h;simp at h;subst h;simp only[List.mapM_cons,Sem.run_bind,aH E hi,Result.andThen_ok,Sem.run_pure,ih r hr]
 rw[Array.mapM_eq_mapM_toList]
 simp_all
theorem zQ{φ:PL}{t:TY}{parts parts':LV}{v:Value}(hl:parts.length=parts'.length)
 (hp:∀(i:Nat) n v n' v',parts[i]?=some (n,v)->parts'[i]?=some (n',v')->n=n'/\VR φ v v')(h:pQ E t parts=some v)(w:World):
 ∃v',VR φ v v'/\(Instr.build t ⟨parts'⟩).run P w=.ok v' w:=by
 unfold pQ at h;split at h
 ·rename_i ti qs;split at h
  ·rename_i z hz;split at h
   ·rename_i fs hu;split at h
    ·rename_i l r9;split at h
     ·rename_i out hf;cases h;obtain⟨out',h1,h2⟩:=mQ (fun i=>l[i]?) parts parts' _ z.cells.toList out ((VR.ext φ z).cells) hl hp hf;refine⟨_,VR.agg' h2,?_⟩;simp only[Array.toArray_toList] at h1;simp only[Instr.build,Sem.run_bind,bE E qs hz,aE E hu,aHz E hu r9,Result.andThen_ok,List.getElem?_toArray,h1,Sem.run_pure]
     ·cases h
    ·cases h
   ·rename_i n e hu;split at h
    ·rename_i i hi;split at h
     ·rename_i out hf;cases h;obtain⟨out',h1,h2⟩:=mQ _ parts parts' _ z.cells.toList out ((VR.ext φ z).cells) hl hp hf;refine⟨_,VR.agg' h2,?_⟩;simp only[Array.toArray_toList] at h1;simp[Instr.build,bE E qs hz,aE E hu,aH E hi,h1]
     ·cases h
    ·cases h
   ·cases h
  ·cases h
 ·cases h
def cP(zero:Array Value)(n:Nat):VL:=((Array.range n).map (fun i=>zero[i%zero.size]!)).toList
def cG(H:AH)(n c:Nat):Value:=.slice (some ⟨2*H.nx+1,0,none⟩) n c
def dL(t:TY)(len:Nat)(parts:LV)(H:AH):Option (Value×AH):=
 match E.und t with
 |some (.slice e)=>(match E.inf e with
  |some i=>
   bif Nat.ble (len*i.size) 16777216&&!(Nat.beq i.size 0) then
    (match i.zero with
    |some z=>(match oN (fun j=>some (j*i.size,i.size)) (extL (cP (if len*i.size=0 then #[] else z.cells) (len*i.size))) parts with
     |some out=>bif Nat.beq out.length (len*i.size) then some (cG H len len,dC H (.cells out i.size true)) else none
     |none=>none)
    |none=>none)
   else none
  |none=>none)
 |_=>none
theorem SRel.new{φ:PL}{n:Nat}(hn:φ.length=n)(p:Place)(hp:p.base=0){l c c':Nat}(h1:l<=c)(h2:c<=c')(h3:c'*esz p.sz<=p.tot):
 SRel (φ++[p]) ⟨2*n+1,0,none⟩ ⟨p.blk,0,none⟩ l c c':=by
 refine .inr ⟨by simp only;omega,h1,h2,.inr ⟨ARel.new φ n hn p hp,fun q hq=>?_⟩⟩
 grind
theorem wC [Pins]{φ:PL}{H H':AH}{w:World}(R:Rel φ H w){t:TY}{len:Nat}{parts parts':LV}{v:Value}(hl:parts.length=parts'.length)
 (hp:∀(i:Nat) n v n' v',parts[i]?=some (n,v)->parts'[i]?=some (n',v')->n=n'/\VR φ v v')(h:dL E t len parts H=some (v,H')):
 SOk P (Instr.buildSlice t len ⟨parts'⟩) φ w v H':=by
 unfold dL at h;split at h
 ·rename_i e hu;split at h
  ·rename_i i hi;cases hb:(Nat.ble (len*i.size) 16777216&&!(Nat.beq i.size 0)) with
   |false=>rw[hb] at h;cases h
   |true=>
    rw[hb,QT] at h;simp only[QB] at hb;have qf:=QL hb.1;split at h
    ·rename_i z hz;split at h
     ·rename_i out hf;cases qe:Nat.beq out.length (len*i.size) with
      |false=>rw[qe] at h;cases h
      |true=>
       rw[qe,QT] at h;cases h;have xl:=QN qe;obtain⟨out',h1,h2⟩:=mQ _ parts parts' _ _ out (VRs.ext φ (cP (if len*i.size=0 then #[] else z.cells) (len*i.size))) hl hp hf;refine⟨_,_,_,⟨_,rfl⟩,R.newCells h2 e i.size (SzE.small (E.sz_lt _ _ (by assumption))),.slc (SRel.new R.len _ rfl (Nat.le_refl _) (Nat.le_refl len) (by simp only;rw[cF (E.sz_lt _ _ (by assumption))];have:=h2.1;omega)),?_⟩;have qr:¬(16777216<len*i.size):=by omega
       simp only[cP,Array.toArray_toList] at h1;by_cases xz:len*i.size=0
       ·rw[if_pos xz] at h1;simp[Instr.buildSlice,aE E hu,aH E hi,xz,newRow] at h1 ⊢;simp[h1]
       ·rw[if_neg xz] at h1;simp[Instr.buildSlice,aE E hu,aH E hi,qr,xz,bE E hi hz,h1,newRow]
     ·cases h
    ·cases h
  ·cases h
 ·cases h
end
end Go.AM
