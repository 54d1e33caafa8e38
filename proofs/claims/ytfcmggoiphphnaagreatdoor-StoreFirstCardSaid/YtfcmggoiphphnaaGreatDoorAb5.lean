/-
  An abstract machine that runs a program of the given form, and its soundness, part 5.
-/
import Derived.Test.YtfcmggoiphphnaaGreatDoorAb4
set_option linter.unusedVariables false
set_option linter.unusedSimpArgs false
set_option linter.unusedSectionVars false
noncomputable section
namespace Go.AM
open Go.RowKit
variable [σ:Sg]
variable [γ:Gam]
theorem gJ(b off k:Nat):(⟨b,off,none⟩:Addr).add k=⟨b,off+k,none⟩:=gP _ rfl k
theorem InA.add{A:NQ}{a:Addr}(h:InA A a.block){k:Nat}:InA A (a.add k).block:=by rw[bT];exact h
section
variable {P:PG}{E:Env P}{G:RG}{i n d:Nat}{r:OL2}{Q:FQ}{t:Tr Value}{l:LV}{S H0:AH}{A0 A:NQ}{L L':OL}{v u:Value}
 {ty:TY}{ps:String}{af:Array Edge}{gd:OB}{x y z:Operand}
theorem aI(hw:gok G.ops l gd=true)(qd:Nat.ble (d+1) n=true)(hx:opv l x=some v)(h:SO E G (i+1) r Q (fr n t ((d,v)::l)) H0 A L):SO E G i (⟨some d,.move x,ty,ps,af,gd⟩::r) Q (fr n t l) H0 A L:=
 bL hw rfl qd rfl (fun H=>by simp only[aop,aG hx]) h
theorem aW(hw:gok G.ops l gd=true)(qd:Nat.ble (d+1) n=true)(hx:opv l x=some v)(h:SO E G (i+1) r Q (fr n t ((d,v)::l)) H0 A L):SO E G i (⟨some d,.assign x,ty,ps,af,gd⟩::r) Q (fr n t l) H0 A L:=
 bL hw rfl qd rfl (fun H=>by simp only[aop,aG hx]) h
theorem aOs(hw:gok G.ops l gd=true)(qd:Nat.ble (d+1) n=true)(hz:opv l z=some (.bool true))(hx:opv l x=some v)(h:SO E G (i+1) r Q (fr n t ((d,v)::l)) H0 A L):SO E G i (⟨some d,.pick z x y,ty,ps,af,gd⟩::r) Q (fr n t l) H0 A L:=
 bL hw rfl qd rfl (fun H=>by grind [aop,aG]) h
theorem aOp(hw:gok G.ops l gd=true)(qd:Nat.ble (d+1) n=true)(hz:opv l z=some (.bool false))(hx:opv l y=some v)(h:SO E G (i+1) r Q (fr n t ((d,v)::l)) H0 A L):SO E G i (⟨some d,.pick z x y,ty,ps,af,gd⟩::r) Q (fr n t l) H0 A L:=
 bL hw rfl qd rfl (fun H=>by grind [aop,aG]) h
theorem bQ{op:BinOp}{ta tb:TY}{a b:Value}(hw:gok G.ops l gd=true)(qd:Nat.ble (d+1) n=true)(hx:opv l x=some a)(hy:opv l y=some b)(hb:aQ E op ta a b=some v)(h:SO E G (i+1) r Q (fr n t ((d,v)::l)) H0 A L):
 SO E G i (⟨some d,.binOp op ta x y tb,ty,ps,af,gd⟩::r) Q (fr n t l) H0 A L:=
 bL hw rfl qd rfl (fun H=>by grind [aop,aG,aL]) h
theorem aXh{ta:TY}{b b':Bool}(hw:gok G.ops l gd=true)(qd:Nat.ble (d+1) n=true)(hx:opv l x=some (.bool b))(hb:(!b)=b')(h:SO E G (i+1) r Q (fr n t ((d,.bool b')::l)) H0 A L):
 SO E G i (⟨some d,.unOp .not ta x,ty,ps,af,gd⟩::r) Q (fr n t l) H0 A L:=
 bL hw rfl qd rfl (fun H=>by grind [aop,aG,aTv,aun,aL]) h
theorem aIs{vs:VL}{k:Nat}(hw:gok G.ops l gd=true)(qd:Nat.ble (d+1) n=true)(hx:opv l x=some (.tuple ⟨vs⟩))(hv:vs[k]?=some v)(h:SO E G (i+1) r Q (fr n t ((d,v)::l)) H0 A L):SO E G i (⟨some d,.extract x k,ty,ps,af,gd⟩::r) Q (fr n t l) H0 A L:=
 bL hw rfl qd rfl (fun H=>by grind [aop,aG,qR,aL]) h
theorem bH{a:Addr}(hw:gok G.ops l gd=true)(qd:Nat.ble (d+1) n=true)(hx:opv l x=some (.pointer (some a)))(h:SO E G (i+1) r Q (fr n t ((d,.pointer (some a))::l)) H0 A L):SO E G i (⟨some d,.nilCheck x,ty,ps,af,gd⟩::r) Q (fr n t l) H0 A L:=
 bL hw rfl qd rfl (fun H=>by simp only[aop,aG hx]) h
theorem bR{g:FuncId}{a b:Array Value}(hw:gok G.ops l gd=true)(qd:Nat.ble (d+1) n=true)(hx:opv l x=some (.func (.func g) a b))(h:SO E G (i+1) r Q (fr n t ((d,.func (.func g) a b)::l)) H0 A L):SO E G i (⟨some d,.nilCheck x,ty,ps,af,gd⟩::r) Q (fr n t l) H0 A L:=
 bL hw rfl qd rfl (fun H=>by simp only[aop,aG hx]) h
theorem iE{a:Addr}(hw:gok G.ops l gd=true)(hx:opv l x=some (.pointer (some a)))(h:SO E G (i+1) r Q (fr n t l) H0 A L):SO E G i (⟨none,.nilCheck x,ty,ps,af,gd⟩::r) Q (fr n t l) H0 A L:=by
 intro hD H hH;obtain⟨Ls,g,K,hr,hq⟩:=h hD H hH;exact⟨_,g,K,.cons (v:=.pointer (some a)) (.inr (.inl ⟨cT hw,rfl,rfl,⟨rfl,by simp only[aop,aG hx]⟩,fun _=>.inl rfl⟩)) rfl hr,hq⟩
theorem aFp{fn:Fn}{a b:Array Operand}{va vb:VL}(hw:gok G.ops l gd=true)(qd:Nat.ble (d+1) n=true)(ha:Opvs l a.toList va)(hb:Opvs l b.toList vb)(h:SO E G (i+1) r Q (fr n t ((d,.func fn ⟨va⟩ ⟨vb⟩)::l)) H0 A L)(hy:fnY fn=false:=by rfl):
 SO E G i (⟨some d,.makeFunc fn a b,ty,ps,af,gd⟩::r) Q (fr n t l) H0 A L:=
 bL hw rfl qd rfl (fun H=>by simp only[aop,hy,QF,ha.ok,hb.ok]) h
theorem dE{s:TY}{f:Nat}{b off o':Nat}{fs:Array Field}{fd:Field}{ii:TI}(hw:gok G.ops l gd=true)(qd:Nat.ble (d+1) n=true)(hx:opv l x=some (.pointer (some ⟨b,off,none⟩)))(hu:E.und s=some (.struct fs))(hf:fs[f]?=some fd)(hi:E.inf fd.type=some ii)
 (hz:Nat.beq ii.size 0=false)(ho:off+fd.offset=o')(h:SO E G (i+1) r Q (fr n t ((d,.pointer (some ⟨b,o',none⟩))::l)) H0 A L):SO E G i (⟨some d,.fieldAddr s x f,ty,ps,af,gd⟩::r) Q (fr n t l) H0 A L:=
 bL hw rfl qd rfl (fun H=>by simp only[aop,aG hx,eQ,hu,hf,hi,hz,QF,aL,gJ,ho]) h
theorem aSj{kk:IntKind}{s:BA}{j:Nat}{b:UInt8}{ta:TY}(hw:gok G.ops l gd=true)(qd:Nat.ble (d+1) n=true)(hx:opv l x=some (.string s))(hy:opv l y=some (.int kk ((j:Nat):Int)))(hu:E.und ta=some .string)(hb:s.data.toList[j]?=some b)
 (h:SO E G (i+1) r Q (fr n t ((d,.int .u8 b.toNat)::l)) H0 A L):SO E G i (⟨some d,.index ta x y,ty,ps,af,gd⟩::r) Q (fr n t l) H0 A L:=
 bL hw rfl qd rfl (fun H=>by
  have hj:=lt_of_getElem? hb;have:nZ (.int kk ((j:Nat):Int)) s.data.toList.length=some j:=by simp only[nZ];simp_all
  simp only[aop,aG hx,aG hy,jU,hu,this,aL,hb]) h
theorem sB{c:Call}{ta e:TY}{a:Option Addr}{m k:Nat}(hw:gok G.ops l gd=true)(qd:Nat.ble (d+1) n=true)(hc:c.callee=.builtin .len)(ha:c.args.toList=[x])(ht:c.argTypes.toList=[ta])(hx:opv l x=some (.slice a m k))(hu:E.und ta=some (.slice e))
 (h:SO E G (i+1) r Q (fr n t ((d,.int .i64 ((m:Nat):Int))::l)) H0 A L):SO E G i (⟨some d,.call c,ty,ps,af,gd⟩::r) Q (fr n t l) H0 A L:=
 bL hw rfl qd (by grind [dS]) (fun H=>by simp only[aop,hc,ha,ht,aG hx,aGi,hu,aL]) h
theorem uM{c:Call}{ta:TY}{s:BA}(hw:gok G.ops l gd=true)(qd:Nat.ble (d+1) n=true)(hc:c.callee=.builtin .len)(ha:c.args.toList=[x])(ht:c.argTypes.toList=[ta])(hx:opv l x=some (.string s))(hu:E.und ta=some .string)
 (h:SO E G (i+1) r Q (fr n t ((d,.int .i64 ((s.data.toList.length:Nat):Int))::l)) H0 A L):SO E G i (⟨some d,.call c,ty,ps,af,gd⟩::r) Q (fr n t l) H0 A L:=
 bL hw rfl qd (by grind [dS]) (fun H=>by simp only[aop,hc,ha,ht,aG hx,aGi,hu,aL]) h
theorem aUj{parts:Array (Nat×Operand)}{vs:LV}{ta:TY}(hw:gok G.ops l gd=true)(qd:Nat.ble (d+1) n=true)(hp:Opps l parts.toList vs)(hb:pQ E ta vs=some v)(h:SO E G (i+1) r Q (fr n t ((d,v)::l)) H0 A L):
 SO E G i (⟨some d,.build ta parts,ty,ps,af,gd⟩::r) Q (fr n t l) H0 A L:=
 bL hw rfl qd rfl (fun H=>by simp only[aop,hp.ok,hb,aL]) h
theorem iT{sT dT:TY}{ds:TypeDesc}{k k':IntKind}{a b:Int}(hw:gok G.ops l gd=true)(qd:Nat.ble (d+1) n=true)(hx:opv l x=some (.int k' a))(hs:E.und sT=some ds)(hd:E.und dT=some (.int k))(hb:k.wrap a=b)(h:SO E G (i+1) r Q (fr n t ((d,.int k b)::l)) H0 A L):
 SO E G i (⟨some d,.convert sT dT x,ty,ps,af,gd⟩::r) Q (fr n t l) H0 A L:=
 bL hw rfl qd (by simp only[dS,hd]) (fun H=>by simp only[aop,aG hx,jE,hs,hd,hb]) h
omit [γ:Gam] in
def cZ(E:Env P)(S H0:AH)(A0 A:NQ)(L:OL)(ty:TY)(a:Addr)(v:Value):Prop:=∀H,HS S H0 A0 A L H->eA E ty a H=some v
theorem lJ{N off sz:Nat}{cs:VL}{ex:Bool}{dd:TypeDesc}(hu:E.und ty=some dd)(hd:cW dd=false)(hm:(N,AObj.cells cs sz ex)∈L)(hv:cs[off]?=some v):cZ E S H0 A0 A L ty ⟨2*N+1,off,none⟩ v:=fun H hH=>by
 simp only[eA,hu,hd,QF];rw[aOh (hH.own _ hm).1,hv]
theorem aBg{N off sz s:Nat}{cs xs:VL}{ex:Bool}{dd:TypeDesc}{ii:TI}(hu:E.und ty=some dd)(hd:cW dd=true)(hi:E.inf ty=some ii)(hs:ii.size=s)(hm:(N,AObj.cells cs sz ex)∈L)(qf:off+s<=cs.length)(hv:(cs.drop off).take s=xs):cZ E S H0 A0 A L ty ⟨2*N+1,off,none⟩ (.agg ⟨xs⟩):=fun H hH=>by
 simp only[eA,hu,hd,QT,hi,hs];rw[dH (hH.own _ hm).1 off s none qf,hv]
theorem jH{a:Addr}{dd:TypeDesc}(hu:E.und ty=some dd)(hd:cW dd=false)(hA:InA A a.block)(hl:aload H0 a=some v):cZ E S H0 A0 A L ty a v:=fun H hH=>by
 simp only[eA,hu,hd,QF];rw[hH.gr.aload hA,hl]
theorem vR{a:Addr}{dd:TypeDesc}{ii:TI}{s:Nat}{xs:VL}(hu:E.und ty=some dd)(hd:cW dd=true)(hi:E.inf ty=some ii)(hs:ii.size=s)(hA:InA A a.block)(hl:aloads H0 a s=some xs):cZ E S H0 A0 A L ty a (.agg ⟨xs⟩):=fun H hH=>by
 simp only[eA,hu,hd,QT,hi,hs];rw[hH.gr.aloads hA,hl]
theorem gK{a:Addr}{ta:TY}(hw:gok G.ops l gd=true)(qd:Nat.ble (d+1) n=true)(hx:opv l x=some (.pointer (some a)))(hl:cZ E G.S (qH G H0) G.A0 (qA G A) (qL G L) ta a v)(h:SO E G (i+1) r Q (fr n t ((d,v)::l)) H0 A L):
 SO E G i (⟨some d,.load ta x,ty,ps,af,gd⟩::r) Q (fr n t l) H0 A L:=
 iU rfl hw rfl qd (fun H hH=>by simp only[aop,aG hx,hl H hH,aL]) h
theorem aQj{a:Addr}{ta:TY}(hw:gok G.ops l gd=true)(qd:Nat.ble (d+1) n=true)(hx:opv l x=some (.pointer (some a)))(ho:fF (bef G.ops) G.ms i=true)(hl:cZ E G.S H0 G.A0 A L ta a v)(h:SO E G (i+1) r Q (fr n t ((d,v)::l)) H0 A L):
 SO E G i (⟨some d,.load ta x,ty,ps,af,gd⟩::r) Q (fr n t l) H0 A L:=
 vE rfl hw rfl qd ho (fun H hH=>by simp only[aop,aG hx,hl H hH,aL]) h
theorem aPh{ta:TY}{lo hi mx:Option Operand}{s:BA}{p q m:Nat}(hw:gok G.ops l gd=true)(qd:Nat.ble (d+1) n=true)(hx:opv l x=some (.string s))(hu:E.und ta=some .string)(vo:mx=none)
 (hb:bD s.data.toList.length s.data.toList.length (lo.map (aK (fr n t l))) (hi.map (aK (fr n t l))) none=some (p,q,m))
 (h:SO E G (i+1) r Q (fr n t ((d,.string ⟨⟨(s.data.toList.take q).drop p⟩⟩)::l)) H0 A L):SO E G i (⟨some d,.slice ta x lo hi mx,ty,ps,af,gd⟩::r) Q (fr n t l) H0 A L:=
 iU rfl hw rfl qd (fun H hH=>by subst vo;simp only[aop,aG hx,lD,hu,Option.map_none,hb,aL]) h
theorem zT{ta e:TY}{lo hi mx:Option Operand}{ii:TI}{b:Nat×Nat×Nat}(hw:gok G.ops l gd=true)(qd:Nat.ble (d+1) n=true)(hx:opv l x=some (.slice none 0 0))(hu:E.und ta=some (.slice e))(qi:E.inf e=some ii)
 (hb:bD 0 0 (lo.map (aK (fr n t l))) (hi.map (aK (fr n t l))) (mx.map (aK (fr n t l)))=some b)
 (h:SO E G (i+1) r Q (fr n t ((d,.slice none 0 0)::l)) H0 A L):SO E G i (⟨some d,.slice ta x lo hi mx,ty,ps,af,gd⟩::r) Q (fr n t l) H0 A L:=
 iU rfl hw rfl qd (fun H hH=>by simp only[aop,aG hx,lD,hu,qi,hb,aL]) h
theorem zX{ta e:TY}{lo hi mx:Option Operand}{ii:TI}{b:Nat×Nat×Nat}(hw:gok G.ops l gd=true)(qd:Nat.ble (d+1) n=true)(hx:opv l x=some (.slice none 0 1))(hu:E.und ta=some (.slice e))(qi:E.inf e=some ii)
 (hb:bD 0 0 (lo.map (aK (fr n t l))) (hi.map (aK (fr n t l))) (mx.map (aK (fr n t l)))=some b)
 (h:SO E G (i+1) r Q (fr n t ((d,.slice none 0 1)::l)) H0 A L):SO E G i (⟨some d,.slice ta x lo hi mx,ty,ps,af,gd⟩::r) Q (fr n t l) H0 A L:=
 iU rfl hw rfl qd (fun H hH=>by simp only[aop,aG hx,lD,hu,qi,hb,aL]) h
theorem zW{ta e:TY}{lo hi mx:Option Operand}{ii:TI}{a:Addr}{len cap p q m:Nat}(hw:gok G.ops l gd=true)(qd:Nat.ble (d+1) n=true)(hx:opv l x=some (.slice (some a) len cap))(hu:E.und ta=some (.slice e))(qi:E.inf e=some ii)
 (wu:len<=cap)(qu:a.block%2=0)(hb:bD len cap (lo.map (aK (fr n t l))) (hi.map (aK (fr n t l))) (mx.map (aK (fr n t l)))=some (p,q,m))
 (h:SO E G (i+1) r Q (fr n t ((d,.slice (some (if m=p then a else a.add (p*ii.size))) (q - p) (m - p))::l)) H0 A L):SO E G i (⟨some d,.slice ta x lo hi mx,ty,ps,af,gd⟩::r) Q (fr n t l) H0 A L:=
 iU rfl hw rfl qd (fun H hH=>by
  have e1:Nat.ble len cap=true:=Nat.ble_eq_true_of_le wu;have e2:Nat.beq (a.block%2) 0=true:=by rw[qu];rfl
  simp only[aop,aG hx,lD,hu,qi,e1,QT,hb,e2,aL]) h
theorem aAb{ta e:TY}{lo hi mx:Option Operand}{ii:TI}{a:Addr}{len cap p q m:Nat}(hw:gok G.ops l gd=true)(qd:Nat.ble (d+1) n=true)(hx:opv l x=some (.slice (some a) len cap))(hu:E.und ta=some (.slice e))(qi:E.inf e=some ii)
 (wu:len<=cap)(qu:a.block%2=1)(hA:qA G A (a.block / 2))(zi:SzA (qH G H0) a ii.size)(hb:bD len cap (lo.map (aK (fr n t l))) (hi.map (aK (fr n t l))) (mx.map (aK (fr n t l)))=some (p,q,m))
 (h:SO E G (i+1) r Q (fr n t ((d,.slice (some (a.add (p*ii.size))) (q - p) (m - p))::l)) H0 A L):SO E G i (⟨some d,.slice ta x lo hi mx,ty,ps,af,gd⟩::r) Q (fr n t l) H0 A L:=
 iU rfl hw rfl qd (fun H hH=>by
  have e1:Nat.ble len cap=true:=Nat.ble_eq_true_of_le wu;have e2:Nat.beq (a.block%2) 0=false:=by rw[qu];rfl
  have e4:=hH.base _ hA;rcases zi qu with⟨cs,ex,hm⟩|⟨hm,cs,az⟩
  ·rw[hm] at e4;simp only[aop,aG hx,lD,hu,qi,e1,QT,hb,e2,QF,e4,Nat.beq_refl,aL]
  ·rw[hm] at e4;rw[hH.w0] at az;simp only[aop,aG hx,lD,hu,qi,e1,QT,hb,e2,QF,e4,az,Nat.beq_refl,aL]) h
theorem nJ{o:Oper}{f:Nat->Value}{ob:AObj}(hw:gok G.ops l o.guard=true)(hd:o.dst=some d)(qd:Nat.ble (d+1) n=true)(hm:G.D=true->i∈G.ms)(qg:∀H,HS G.S H0 G.A0 A L H->aop E (aK (fr n t l)) o.op H=some (f H.nx,dC H ob))
 (h:∀N,SO E G (i+1) r Q (fr n t ((d,f N)::l)) H0 A ((N,ob)::L)):SO E G i (o::r) Q (fr n t l) H0 A L:=
 dM hw hd qd hm fun hD H hH=>⟨_,_,H0,A,(H.nx,ob)::L,.inl (qg H hH),hH.push ob,hD.push _,h H.nx⟩
theorem bFn{ta:TY}{cs:VL}(hw:gok G.ops l gd=true)(qd:Nat.ble (d+1) n=true)(hm:G.D=true->i∈G.ms)(hx:opv l x=some v)(hc:v.cells.toList=cs)(h:∀N,SO E G (i+1) r Q (fr n t ((d,.pointer (some ⟨2*N+1,0,none⟩))::l)) H0 A ((N,.cells cs (dV E ta) true)::L)):
 SO E G i (⟨some d,.box ta x,ty,ps,af,gd⟩::r) Q (fr n t l) H0 A L:=
 nJ (f:=fun N=>.pointer (some ⟨2*N+1,0,none⟩)) hw rfl qd hm (fun H hH=>by grind [aop,aG,aEp,aJe]) h
theorem lX{ta:TY}{ii:TI}{zv:Value}{cs:VL}(hw:gok G.ops l gd=true)(qd:Nat.ble (d+1) n=true)(hm:G.D=true->i∈G.ms)(hi:E.inf ta=some ii)(hz:ii.zero=some zv)(hc:(ext zv).cells.toList=cs)(h:∀N,SO E G (i+1) r Q (fr n t ((d,.pointer (some ⟨2*N+1,0,none⟩))::l)) H0 A ((N,.cells cs (dV E ta) true)::L)):
 SO E G i (⟨some d,.alloc ta,ty,ps,af,gd⟩::r) Q (fr n t l) H0 A L:=
 nJ (f:=fun N=>.pointer (some ⟨2*N+1,0,none⟩)) hw rfl qd hm (fun H hH=>by grind [aop,sK,aEp,aJe]) h
theorem jT{ta e:TY}{len:Nat}{parts:Array (Nat×Operand)}{vs:LV}{ii:TI}{zv:Value}{out:VL}(hw:gok G.ops l gd=true)(qd:Nat.ble (d+1) n=true)(hm:G.D=true->i∈G.ms)(hp:Opps l parts.toList vs)(hu:E.und ta=some (.slice e))(hi:E.inf e=some ii)
 (hb:(Nat.ble (len*ii.size) 16777216&&!(Nat.beq ii.size 0))=true)(hz:ii.zero=some zv)(hf:oN (fun j=>some (j*ii.size,ii.size)) (extL (cP (if len*ii.size=0 then #[] else zv.cells) (len*ii.size))) vs=some out)(hl:Nat.beq out.length (len*ii.size)=true){s:Nat}(hs:ii.size=s)
 (h:∀N,SO E G (i+1) r Q (fr n t ((d,.slice (some ⟨2*N+1,0,none⟩) len len)::l)) H0 A ((N,.cells out s true)::L)):SO E G i (⟨some d,.buildSlice ta len parts,ty,ps,af,gd⟩::r) Q (fr n t l) H0 A L:=
 nJ (f:=fun N=>.slice (some ⟨2*N+1,0,none⟩) len len) hw rfl qd hm (fun H hH=>by subst hs;simp only[aop,hp.ok,dL,hu,hi,hb,QT,hz,hf,hl,cG]) h
theorem aZx{ta e:TY}{k k':IntKind}{a c:Nat}{ii:TI}{zv:Value}{cs:VL}(hw:gok G.ops l gd=true)(qd:Nat.ble (d+1) n=true)(hm:G.D=true->i∈G.ms)(hx:opv l x=some (.int k ((a:Nat):Int)))(hy:opv l y=some (.int k' ((c:Nat):Int)))(hu:E.und ta=some (.slice e))(hi:E.inf e=some ii)
 (hz:ii.zero=some zv)(hac:a<=c)(hc:c<=140737488355328)(hcb:ii.bytes*c<=281474976710656)(ya:extL (cP (if c*ii.size=0 then #[] else zv.cells) (c*ii.size))=cs){s:Nat}(hs:ii.size=s)
 (h:∀N,SO E G (i+1) r Q (fr n t ((d,.slice (some ⟨2*N+1,0,none⟩) a c)::l)) H0 A ((N,.cells cs s true)::L)):SO E G i (⟨some d,.makeSlice ta x y,ty,ps,af,gd⟩::r) Q (fr n t l) H0 A L:=
 nJ (f:=fun N=>.slice (some ⟨2*N+1,0,none⟩) a c) hw rfl qd hm (fun H hH=>by
  have v7:(0:Int)<=(a:Int)/\(a:Int)<=(c:Int)/\(c:Int)<=140737488355328/\(ii.bytes:Int)*(c:Int)<=281474976710656:=by
   omega
  subst hs;simp only[aop,aG hx,aG hy,iR,hu,hi,hz,v7,and_self,if_true,Int.toNat_natCast,cG,ya]) h
theorem kE{ta:TY}{N off sz:Nat}{cs cs' vs:VL}{ex:Bool}{ii:TI}(hw:gok G.ops l gd=true)(hm:G.D=true->i∈G.ms)(hx:opv l x=some (.pointer (some ⟨2*N+1,off,none⟩)))(hy:opv l y=some v)(hi:E.inf ta=some ii)(hc:v.cells.toList=vs)(hs:vs.length=ii.size)
 (h1:aZ vs=true)(hu:Upd N (.cells cs sz ex) (.cells cs' sz ex) L L')(ya:cs.take off++(vs++cs.drop (off+vs.length))=cs')(qf:off+vs.length<=cs.length)(hD:G.D=true->G.Lw.Sublist L')
 (h:SO E G (i+1) r Q (fr n t l) H0 A L'):SO E G i (⟨none,.store ta x y,ty,ps,af,gd⟩::r) Q (fr n t l) H0 A L:=
 aLh hw rfl hm fun wi H hH=>by
  refine⟨undef,_,H0,A,L',.inl ?_,hH.set hu,wi.list hD,h⟩;have hg:=(hH.own _ hu.mem).1;have hb:Nat.beq vs.length ii.size=true:=by rw[hs];simp
  simp only[aop,aG hx,aG hy,iK,hi,hc,hb,QT]
  grind [aFy]
theorem nD(h:v.oneCell'=true):v.cells.toList=[v]:=by
 cases v<;>first|rfl|(simp[Value.oneCell'] at h)
theorem kK{cs vs:VL}(h:vs.length=cs.length):cs.take 0++(vs++cs.drop (0+vs.length))=vs:=by
 simp_all
theorem zA{ta:TY}{N off sz:Nat}{cs cs' vs:VL}{ex:Bool}{ii:TI}(hw:gok G.ops l gd=true)(hm:G.D=true->i∈G.ms)(hx:opv l x=some (.pointer (some ⟨2*N+1,off,none⟩)))(hy:opv l y=some (.agg ⟨vs⟩))(hi:E.inf ta=some ii)(hs:vs.length=ii.size)
 (h1:aZ vs=true)(hu:Upd N (.cells cs sz ex) (.cells cs' sz ex) L L')(ya:cs.take off++(vs++cs.drop (off+vs.length))=cs')(qf:off+vs.length<=cs.length)(hD:G.D=true->G.Lw.Sublist L')
 (h:SO E G (i+1) r Q (fr n t l) H0 A L'):SO E G i (⟨none,.store ta x y,ty,ps,af,gd⟩::r) Q (fr n t l) H0 A L:=
 kE hw hm hx hy hi rfl hs h1 hu ya qf hD h
theorem nT{ta:TY}{N off sz:Nat}{cs cs':VL}{ex:Bool}{ii:TI}(hw:gok G.ops l gd=true)(hm:G.D=true->i∈G.ms)(hx:opv l x=some (.pointer (some ⟨2*N+1,off,none⟩)))(hy:opv l y=some v)(hi:E.inf ta=some ii)(hs:ii.size=1)
 (h1:v.oneCell'=true)(hu:Upd N (.cells cs sz ex) (.cells cs' sz ex) L L')(ya:cs.take off++([v]++cs.drop (off+1))=cs')(qf:off+1<=cs.length)(hD:G.D=true->G.Lw.Sublist L')
 (h:SO E G (i+1) r Q (fr n t l) H0 A L'):SO E G i (⟨none,.store ta x y,ty,ps,af,gd⟩::r) Q (fr n t l) H0 A L:=
 kE hw hm hx hy hi (nD h1) (by rw[hs];rfl) (by simp[aZ,h1]) hu ya qf hD h
theorem aLp{c:Call}{g:FuncId}{vs:VL}(hw:gok G.ops l gd=true)(qd:Nat.ble (d+1) n=true)(hm:G.D=true->i∈G.ms)(hc:c.callee=.value (.func g))(hg:∃fn,E.fn g=some fn)(ha:Opvs l c.args.toList vs)(hk:∀H,HS G.S H0 G.A0 A L H->XCall P g vs H fun u H'=>u=v/\Kept H.nx H H')
 (h:SO E G (i+1) r Q (fr n t ((d,v)::l)) H0 A L):SO E G i (⟨some d,.call c,ty,ps,af,gd⟩::r) Q (fr n t l) H0 A L:=
 dM hw rfl qd hm fun hD H hH=>by
  obtain⟨fn,hg⟩:=hg;obtain⟨u,H',⟨rfl,uj⟩,zj,qh⟩:=hk H hH;refine⟨u,H',H0,A,L,.inr ⟨zj,g,vs,?_,qh⟩,hH.later uj,hD,h⟩;simp only[bM,hc,sC,hg,ha.ok,List.append_nil,List.nil_append]
end
section
variable {P:PG}{E:Env P}{n:Nat}{t:Tr Value}{l:LV}{S H0:AH}{A0 A:NQ}{L:OL}{R:Value->AH->Prop}{rs:List ResultVar}
theorem aA{names:∀(f:Nat) (F:Func),P.funcs[f]?=some F->(F.name== "runtime.NumGoroutine")=false}{eqT:Nat->Bool}{h:∀t,eqT t=true->P.stoodInHeld t=false/\P.eqGuardType P.depth t=false}{g:Nat}{F:Func}{c:Code}{n:Nat}{rs:List ResultVar}(hF:P.funcs[g]?=some F)(hb:F.body=some c)(hn:F.ntmps=n)(hr:F.results.toList=rs):
 (Env.own P names eqT h).fn g=some ⟨n,rs,c⟩:=by
 grind [Env.own]
theorem aDe{g:FuncId}{c:Code}{args:VL}(hg:E.fn g=some ⟨n,rs,c⟩)(hA:∀j,A0 j->j<S.nx)(hf:rC args n=fr n .nil l)(h:SX (γ:=allG) P c (uE E rs R) (fr n .nil l) S A0 S A0 []):XCall P g args S R:=
 XCall.body E hg (by rw[hf];exact h S (HS.start hA))
omit [γ:Gam] in
inductive ResOk (E:Env P) (S H0:AH) (A0 A:NQ) (L:OL) (l:LV):List ResultVar->List Value->Prop
 |nil:ResOk E S H0 A0 A L l [] []
 |tmp {s:Nat} {v:Value} {rs:List ResultVar} {vs:VL} (h:look s l=some v) (k:ResOk E S H0 A0 A L l rs vs):ResOk E S H0 A0 A L l (.tmp s::rs) (v::vs)
 |cell {s:Nat} {ty:TY} {a:Addr} {v:Value} {rs:List ResultVar} {vs:VL} (h:look s l=some (.pointer (some a))) (hl:cZ E S H0 A0 A L ty a v) (k:ResOk E S H0 A0 A L l rs vs):ResOk E S H0 A0 A L l (.cell s ty::rs) (v::vs)
theorem ResOk.ok{vs:VL}(h:ResOk E S H0 A0 A L l rs vs){H:AH}(hH:HS S H0 A0 A L H):bS E (fr n t l) H rs=some vs:=by
 induction h with
 |nil=>rfl
 |tmp h k ih=>grind [bS,rK,wY]
 |cell h hl k ih=>simp only[bS,rK,wY,h,hl H hH,ih]
theorem aAa{vs:VL}(hr:ResOk E S H0 A0 A L l rs vs){v:Value}(hv:bG vs=v)(h:∀H,HS S H0 A0 A L H->R v H):SK (uE E rs R) .ret (fr n t l) S A0 H0 A L:=fun H hH=>⟨.inr rfl,vs,hr.ok hH,by rw[hv];exact h H hH⟩
theorem xP{vs:VL}(hr:ResOk E S H0 A0 A L l rs vs){v:Value}(hv:bG vs=v)(h:∀H,HS S H0 A0 A L H->R v H):SK (uE E rs R) .normal (fr n t l) S A0 H0 A L:=fun H hH=>⟨.inl rfl,vs,hr.ok hH,by rw[hv];exact h H hH⟩
theorem lK{r:ResultVar}{v:Value}(hr:ResOk E S H0 A0 A L l [r] [v])(h:∀H,HS S H0 A0 A L H->R v H):SK (uE E [r] R) .ret (fr n t l) S A0 H0 A L:=aAa hr rfl h
theorem wM{r r':ResultVar}{v v':Value}(hr:ResOk E S H0 A0 A L l [r,r'] [v,v'])(h:∀H,HS S H0 A0 A L H->R (.tuple ⟨[v,v']⟩) H):SK (uE E [r,r'] R) .ret (fr n t l) S A0 H0 A L:=aAa hr rfl h
end
end Go.AM
namespace Go.AM
open Go.RowKit
variable [σ:Sg]
variable [γ:Gam]
section
variable {A:NQ}{H:AH}
omit [γ:Gam] in
structure RowD (A:NQ) (H:AH) (b:Nat) (ks:KL) (l:LX) (a:Option Addr) (cap:Nat):Prop where
 len:l.length<=140737488351232
 bytes:l.length*b<=140737488351232
 le:l.length<=cap
 nil:a=none->cap=0\/(cap=1/\H.w0.em=true)
 inA:∀p,a=some p->InA A p.block
 sz:∀p,a=some p->SzA H p ks.length
 at':∀(i:Nat),i<l.length->∃p xs c,a=some p/\InA A p.block/\l[i]?=some c/\aloads H (p.add (i*ks.length)) ks.length=some xs/\CellsA A H ks xs c
theorem CellA.rowD{b:Nat}{ks:KL}{x:Value}{c:CT}(h:CellA A H (.row b ks) x c):∃l a cap,c=.row l/\x=.slice a l.length cap/\RowD A H b ks l a cap:=by
 obtain⟨l,rfl,h1,h2,⟨rfl|⟨rfl,sp⟩,rfl⟩|⟨a,cap,rfl,q1,q2,q3⟩⟩:=h.row
 ·exact⟨[],none,0,rfl,rfl,h1,h2,Nat.le_refl _,fun _=>.inl rfl,(fun p h=>by cases h),(fun p h=>by cases h),fun i hi=>absurd hi (Nat.not_lt_zero _)⟩
 ·exact⟨[],none,1,rfl,rfl,h1,h2,Nat.zero_le _,fun _=>.inr ⟨rfl,sp⟩,(fun p h=>by cases h),(fun p h=>by cases h),fun i hi=>absurd hi (Nat.not_lt_zero _)⟩
 ·refine⟨l,some a,cap,rfl,rfl,h1,h2,q1,(fun h=>by cases h),(fun p h=>by cases h;exact q2.1),(fun p h=>by cases h;exact q2.2),fun i hi=>?_⟩
  simp_all
theorem RowD.cell{b:Nat}{ks:KL}{l:LX}{a:Option Addr}{cap:Nat}(h:RowD A H b ks l a cap):CellA A H (.row b ks) (.slice a l.length cap) (.row l):=by
 simp only[CellA];refine⟨h.len,h.bytes,?_⟩;cases a with
 |none=>
  left;have:l.length=0:=by
   cases e:l.length with
   |zero=>rfl
   |succ n=>
    obtain⟨p,xs,c,h1,_⟩:=h.at' 0 (by omega);cases h1
  have hl:l=[]:=List.eq_nil_of_length_eq_zero this;rw[this];rcases h.nil rfl with e|⟨e,sp⟩<;>rw[e]
  ·simp_all
  simp_all
 |some p=>
  right;refine⟨p,cap,rfl,h.le,⟨h.inA p rfl,h.sz p rfl⟩,fun i c hc=>?_⟩;obtain⟨p',xs,c',h1,h2,h3,h4,h5⟩:=h.at' i (lt_of_getElem? hc)
  simp_all
end
theorem cK{off n m:Nat}{x:Nat->Value}{cs:VL}(h:Nat.ble (off+n) m=true)(hc:cs.length=m):off+(cellsOf n x).length<=cs.length:=by
 rw[aV,hc];simp_all
section
variable {A A':NQ}{H H':AH}
end
section
variable {A:NQ}{H:AH}
theorem aMc{N sz:Nat}{cs:VL}{ex:Bool}(hg:H.tr.get N=some (.cells cs sz ex))(hA:A N){b:Nat}{ks:KL}(hk:ks.length=sz){l:LX}{m cap:Nat}(hm:m=l.length)(qe:l.length*sz<=cs.length)
 (h:∀(i:Nat) c,l[i]?=some c->CellsA A H ks ((cs.drop (i*sz)).take sz) c)(sd:l.length<=cap)(h1:l.length<=140737488351232)(h2:l.length*b<=140737488351232):CellA A H (.row b ks) (.slice (some ⟨2*N+1,0,none⟩) m cap) (.row l):=by
 subst hm;simp only[CellA];refine⟨h1,h2,.inr ⟨_,cap,rfl,sd,⟨InA.own hA,fun _=>.inl ⟨cs,ex,by grind⟩⟩,fun i c hc=>?_⟩⟩;have hi:=lt_of_getElem? hc;refine⟨_,?_,h i c hc⟩;rw[gP _ rfl,hk,dH hg]
 ·simp_all
 ·simp only[Nat.zero_add];have:(i+1)*sz<=l.length*sz:=Nat.mul_le_mul_right _ hi
  grind
end
omit [γ:Gam] in
inductive OpO (l:LV):Option Operand->Option Value->Prop
 |none:OpO l none none
 |some {x:Operand} {v:Value} (h:opv l x=some v):OpO l (some x) (some v)
theorem OpO.ok{n:Nat}{t:Tr Value}{l:LV}{x:Option Operand}{v:Option Value}(h:OpO l x v):x.map (aK (fr n t l))=v:=by
 cases h with
 |none=>rfl
 |some h=>rw[Option.map_some,aG h]
theorem aHf{len cap a b:Nat}{k k':IntKind}(h1:a<=b)(h2:b<=cap):bD len cap (some (.int k (a:Int))) (some (.int k' (b:Int))) none=some (a,b,cap):=by
 have e1:bO none cap cap=some cap:=rfl;have e2:bO (some (Value.int k' (b:Int))) 0 cap=some b:=by simp only[bO];simp_all
 have e3:bO (some (Value.int k (a:Int))) 0 b=some a:=by simp only[bO];simp_all
 grind [bD]
theorem zG{len cap b:Nat}{k':IntKind}(h2:b<=cap):bD len cap none (some (.int k' (b:Int))) none=some (0,b,cap):=by
 have e1:bO none cap cap=some cap:=rfl;have e2:bO (some (Value.int k' (b:Int))) 0 cap=some b:=by simp only[bO];simp_all
 have e3:bO none 0 b=some 0:=rfl
 grind [bD]
section
variable {P:PG}{E:Env P}{G:RG}{i n d:Nat}{r:OL2}{Q:FQ}{t:Tr Value}{l:LV}{S H0:AH}{A0 A:NQ}{L L':OL}{v u:Value}
 {ty:TY}{ps:String}{af:Array Edge}{gd:OB}{x y z:Operand}
theorem bCg{ta:TY}{lo hi:Option Operand}{vl vh:Option Value}{s:BA}{p q m:Nat}(hw:gok G.ops l gd=true)(qd:Nat.ble (d+1) n=true)(hx:opv l x=some (.string s))(hu:E.und ta=some .string)(h1:OpO l lo vl)(h2:OpO l hi vh)
 (hb:bD s.data.toList.length s.data.toList.length vl vh none=some (p,q,m))
 (h:SO E G (i+1) r Q (fr n t ((d,.string ⟨⟨(s.data.toList.take q).drop p⟩⟩)::l)) H0 A L):SO E G i (⟨some d,.slice ta x lo hi none,ty,ps,af,gd⟩::r) Q (fr n t l) H0 A L:=
 aPh hw qd hx hu rfl (by rw[h1.ok,h2.ok];exact hb) h
theorem aNk{vl vh:Option Value}{m:Nat}(h:bD 0 1 vl vh none=some (0,0,m)):∃b,bD 0 0 vl vh none=some b:=by
 unfold bD at h ⊢;simp only[show bO none 1 1=some 1 from rfl,show bO none 0 0=some 0 from rfl] at h ⊢;cases vh with
 |none=>
  grind
 |some v=>
  simp only at h ⊢;split at h
  ·rename_i q hq;split at h
   ·rename_i q2 rp;cases h;have hv:bO (some v) 0 0=some 0:=by
     unfold bO at hq ⊢
     grind
    simp_all
   ·cases h
  ·cases h
theorem bBw{ta e:TY}{lo hi mx:Option Operand}{vl vh vm:Option Value}{ii:TI}{a:Option Addr}{b cap q m:Nat}{ks:KL}{rw':LX}(hw:gok G.ops l gd=true)(qd:Nat.ble (d+1) n=true)(hx:opv l x=some (.slice a rw'.length cap))(hu:E.und ta=some (.slice e))(qi:E.inf e=some ii)
 (h1:OpO l lo vl)(h2:OpO l hi vh)(h3:OpO l mx vm)(hr:RowD (qA G A) (qH G H0) b ks rw' a cap)(hk:ks.length=ii.size)(a8:ii.size≠0)(hb:bD rw'.length cap vl vh vm=some (0,q,m))(hq:q<=rw'.length)(ie:q<=m)(ig:vm=none)
 (h:∀a',RowD (qA G A) (qH G H0) b ks (rw'.take q) a' (m)->SO E G (i+1) r Q (fr n t ((d,.slice a' q m)::l)) H0 A L):SO E G i (⟨some d,.slice ta x lo hi mx,ty,ps,af,gd⟩::r) Q (fr n t l) H0 A L:=by
 have qe:(rw'.take q).length=q:=by simp_all
 have row:∀p,a=some p->RowD (qA G A) (qH G H0) b ks (rw'.take q) (some p) m:=by
  intro p hp;refine⟨by rw[qe];have:=hr.len;omega,by rw[qe];have h4:=Nat.mul_le_mul_right b hq;have:=hr.bytes;omega,by rw[qe];exact ie,(fun h=>by cases h),(fun p' h'=>by cases h';exact hr.inA p hp),(fun p' h'=>by cases h';exact hr.sz p hp),fun j hj=>?_⟩;rw[qe] at hj;obtain⟨p2,xs,c,e1,e2,e3,e4,e5⟩:=hr.at' j (by omega)
  grind
 cases a with
 |none=>
  subst ig;have ye:rw'.length=0\/rw'.length=1:=by have:=hr.le;rcases hr.nil rfl with e|e<;>omega
  have ye:rw'.length=0:=by
   rcases Nat.eq_zero_or_pos rw'.length with e|e
   ·exact e
   ·obtain⟨p,_,_,e1,_⟩:=hr.at' 0 e;cases e1
  have wj:m=cap:=by
   unfold bD at hb;simp only[show bO none cap cap=some cap from rfl] at hb
   grind
  subst wj;have di:q=0:=by omega
  subst di;rw[ye] at hx hb;rcases hr.nil rfl with e|⟨e,sp⟩
  ·subst e;exact zT hw qd hx hu qi (by rw[h1.ok,h2.ok,h3.ok];exact hb) (h none ⟨by simp,by simp,by simp,fun _=>.inl rfl,(fun p h=>by cases h),(fun p h=>by cases h),fun j hj=>by simp at hj⟩)
  ·subst e;obtain⟨b',xu⟩:=aNk hb;exact zX hw qd hx hu qi (by rw[h1.ok,h2.ok,h3.ok];exact xu) (h none ⟨by simp,by simp,by simp,fun _=>.inr ⟨rfl,sp⟩,(fun p h=>by cases h),(fun p h=>by cases h),fun j hj=>by simp at hj⟩)
 |some p=>
  have e0:p.add (0*ii.size)=p:=by unfold Addr.add;simp
  rcases Nat.mod_two_eq_zero_or_one p.block with qu|dj
  ·refine zW hw qd hx hu qi hr.le qu (by rw[h1.ok,h2.ok,h3.ok];exact hb) ?_
   simp_all
  ·have hget:=hr.sz p rfl;rw[hk] at hget;have dm:qA G A (p.block / 2):=by
    rcases hr.inA p rfl with h'|h'
    ·omega
    ·exact h'
   refine aAb hw qd hx hu qi hr.le dj dm hget (by rw[h1.ok,h2.ok,h3.ok];exact hb) ?_
   simp_all
end
end Go.AM
namespace Go.AM
open Go.RowKit
variable [σ:Sg]
theorem aNq [Pins]{P:PG}(E:Env P){φ:PL}{H H':AH}{w:World}(R:Rel φ H w){ρ ρ':Operand->Value}(hρ:∀x,VR φ (ρ x) (ρ' x)){o:Oper}{v:Value}(hq:bY E o.op=true)(h:aop E ρ o.op H=some (v,H')):
 ∃v',VR φ v v'/\(execOp ρ' o).run P w=.ok (.value v') w:=by
 have here:∀{v v':Value},VR φ v v'->(execOp ρ' o).run P w=.ok (.value v') w->∃v',VR φ v v'/\(execOp ρ' o).run P w=.ok (.value v') w:=fun hv hr=>⟨_,hv,hr⟩;unfold aop at h;split at h<;>rename_i qg<;>first|(rw[qg] at hq;simp only[bY] at hq;cases hq;done)|(cases h;done)|rw[qg] at hq
 ·cases h;exact here (hρ _) (by simp[execOp,qg])
 ·cases h;exact here (hρ _) (by simp[execOp,qg])
 ·rename_i c a b;split at h
  ·rename_i hc;cases h;have:=hρ c;rw[hc] at this;generalize zd:ρ' c=cc at this;cases this;exact here (hρ _) (by simp[execOp,qg,zd,asBool])
  ·rename_i hc;cases h;have:=hρ c;rw[hc] at this;generalize zd:ρ' c=cc at this;cases this;exact here (hρ _) (by simp[execOp,qg,zd,asBool])
  ·cases h
 ·rename_i t ps;obtain⟨hh,rfl⟩:=aD h
  replace h:=hh
  obtain⟨v',h1,h2⟩:=zQ E (parts':=ps.toList.map fun x=>(x.1,ρ' x.2)) (by simp) (wF hρ ps.toList) h w;refine here h1 ?_;have:(ps.map fun(x:Nat×Operand)=>(x.1,ρ' x.2))=⟨ps.toList.map fun x=>(x.1,ρ' x.2)⟩:=by rw[<-Array.toList_inj];simp
  grind [execOp,Sem.run_bind,Result.andThen_ok,Sem.run_pure]
 ·rename_i t x;split at h
  ·rename_i a ha;obtain⟨hh,rfl⟩:=aD h
   replace h:=hh
   have:=hρ x;rw[ha] at this;generalize zd:ρ' x=cc at this;cases this with
   |ptr hA=>
    obtain⟨v',h1,h2⟩:=lZ E R hA h;exact here h2 (by simp[execOp,qg,zd,Instr.loadAt,Instr.sureAddr,h1])
  ·cases h
 ·rename_i x;split at h
  ·rename_i a ha;cases h;have:=hρ x;rw[ha] at this;generalize zd:ρ' x=cc at this;cases this with
   |ptr hA=>exact here (.ptr hA) (by simp[execOp,qg,zd])
  ·rename_i g a b ha;cases h;have:=hρ x;rw[ha] at this;generalize zd:ρ' x=cc at this;cases this with
   |func fn hy q1 q2 q3 q4=>exact here (.func _ hy q1 q2 q3 q4) (by simp[execOp,qg,zd])
  ·cases h
 ·rename_i op t x y yt;obtain⟨hh,rfl⟩:=aD h
  replace h:=hh
  obtain⟨v',h1,h2⟩:=aMu E (hρ x) (hρ y) h x y w;refine here h1 ?_;simp only[execOp,qg];rw[Sem.run_bind,h2];rfl
 ·rename_i op t x;obtain⟨hh,rfl⟩:=aD h
  replace h:=hh
  obtain⟨v',h1,h2⟩:=aMv E (hρ x) h w;exact here h1 (by simp[execOp,qg,h2])
 ·rename_i s d x;simp only[bY] at hq;split at hq
  ·rename_i kk hd;have hx:=hρ x;unfold jE at h;split at h
   ·rename_i dd k k2 n hs ql xa;cases h;rw[xa] at hx;generalize zd:ρ' x=cc at hx;cases hx;refine here (.int _ _) ?_;simp only[execOp,qg,zd];cases dd<;>simp[convert,aE E hs,aE E ql,Conv.intToInt]
   ·simp_all
   ·simp_all
   ·simp_all
   ·simp_all
   ·simp_all
   ·simp_all
   ·cases h
  ·rename_i hd;have hx:=hρ x;have back:∀{v':Value},VR φ v v'->(convert s d (ρ' x)).run P w=.ok v' w->∃v',VR φ v v'/\(execOp ρ' o).run P w=.ok (.value v') w:=fun hv hr=>here hv (by simp only[execOp,qg];simp_all);generalize ρ x=x0 at h hx;generalize ρ' x=x1 at hx back;unfold jE at h;split at h
   ·simp_all
   ·rename_i dd s2 hs ql;cases h;cases hx;refine back (.string _) ?_;cases dd<;>simp[convert,aE E hs,aE E hd]
   ·simp_all
   ·rename_i e base l c hs ql;split at h
    ·rename_i he;split at h
     ·cases uc:Nat.beq c 1 with
      |true=>rw[uc] at h;cases h
      |false=>
      rw[uc,QF] at h;cases h;cases hx with
      |emp _=>cases uc
      |snil _ _=>
      refine back (.string _) ?_;rw[run_convert_bytes_string w s d e _ _ _ (E.und_ok _ _ hs) (E.und_ok _ _ he) (E.und_ok _ _ hd)];rfl
     ·rename_i a;split at h
      ·rename_i cs ya;split at h
       ·rename_i bs pp;cases h;cases hx with
        | @slc _ a' _ _ c' xw=>
          have hA:l=0\/ARel φ a a':=by
           rcases xw with⟨_,_,hA⟩|⟨_,h1,h2,h3|⟨hA,_⟩⟩
           ·exact .inr hA
           ·left;omega
           ·exact .inr hA
          obtain⟨l',h1,h2,h3⟩:=iJ R hA ya;obtain⟨ns,rfl,rfl⟩:=nL h1 pp;have qt:=run_loadCells_list (P:=P) w a' _ h3;rw[h2] at qt;refine back (.string _) ?_;rw[run_convert_bytes_string w s d e _ _ _ (E.und_ok _ _ hs) (E.und_ok _ _ he) (E.und_ok _ _ hd),run_bytesToString w a' l c' ns qt,xQ]
          first|rfl|simp
       ·cases h
      ·cases h
    ·cases h
   ·simp_all
   ·simp_all
   ·simp_all
   ·cases h
  ·cases hq
 ·rename_i fn a b;obtain⟨hy,h⟩:fnY fn=false/\_:=by
   cases e:fnY fn with
   |true=>rw[e] at h;cases h
   |false=>rw[e,QF] at h;exact⟨rfl,h⟩
  cases h;have va:=fQ hρ a.toList;have vb:=fQ hρ b.toList;refine here (.func fn hy va.1 vb.1 va.2 vb.2) ?_;have e1:a.map ρ'=⟨a.toList.map ρ'⟩:=by grind
  have e2:b.map ρ'=⟨b.toList.map ρ'⟩:=by grind
  grind [execOp,Instr.makeFunc,Sem.run_bind,Sem.run_pure,Result.andThen_ok]
 ·rename_i t x lo hi mx;obtain⟨hh,rfl⟩:=aD h
  replace h:=hh
  obtain⟨v',h1,h2⟩:=zJ E R (hρ x) (tC hρ lo) (tC hρ hi) (tC hρ mx) h;exact here h1 (by simp[execOp,qg,h2])
 ·rename_i s x f;obtain⟨hh,rfl⟩:=aD h
  replace h:=hh
  obtain⟨v',h1,h2⟩:=oO E (hρ x) h w;exact here h1 (by simp[execOp,qg,h2])
 ·rename_i s x f;obtain⟨hh,rfl⟩:=aD h
  replace h:=hh
  obtain⟨v',h1,h2⟩:=aAg E (hρ x) h w;exact here h1 (by simp[execOp,qg,h2])
 ·rename_i t x ix;obtain⟨hh,rfl⟩:=aD h
  replace h:=hh
  obtain⟨v',h1,h2⟩:=oQ E (hρ x) (hρ ix) h w;exact here h1 (by simp[execOp,qg,h2])
 ·rename_i t x ix;obtain⟨hh,rfl⟩:=aD h
  replace h:=hh
  obtain⟨v',h1,h2⟩:=zI E (hρ x) (hρ ix) h w;exact here h1 (by simp[execOp,qg,h2])
 ·rename_i t x ix ok;obtain⟨hh,rfl⟩:=aD h
  replace h:=hh
  obtain⟨v',h1,h2⟩:=tT E R (hρ x) (hρ ix) h;exact here h1 (by simp[execOp,qg,h2])
 ·rename_i x i;obtain⟨hh,rfl⟩:=aD h
  replace h:=hh
  obtain⟨v',h1,h2⟩:=tX (P:=P) (hρ x) h w;exact here h1 (by simp[execOp,qg,h2])
 ·rename_i c;simp only[bY] at hq;split at h<;>rename_i yk<;>first|(rw[yk] at hq;simp only at hq;cases hq;done)|(cases h;done)|skip
  ·split at h
   ·rename_i x t qj wy;obtain⟨hh,rfl⟩:=aD h
    replace h:=hh
    obtain⟨v',h1,h2⟩:=aMt E R (ty:=o.type) (hρ x) h;have e1:c.args= #[x]:=by grind
    have e2:c.argTypes= #[t]:=by grind
    refine here h1 ?_;simp[execOp,qg,resolve,yk,invoke,builtin,e1,e2,h2]
   ·cases h
  ·split at h
   ·rename_i x t qj wy;obtain⟨hh,rfl⟩:=aD h
    replace h:=hh
    obtain⟨v',h1,h2⟩:=aLr E R (ty:=o.type) (hρ x) h;have e1:c.args= #[x]:=by grind
    have e2:c.argTypes= #[t]:=by grind
    refine here h1 ?_;simp[execOp,qg,resolve,yk,invoke,builtin,e1,e2,h2]
   ·cases h
  ·split at h
   ·rename_i x r qj;obtain⟨hh,rfl⟩:=aD h
    replace h:=hh
    obtain⟨v',h1,h2⟩:=uL (P:=P) false (r.map ρ) (r.map ρ') _ _ v (hρ x) (fQ hρ r) h w;refine here h1 ?_;simp only[Bool.false_eq_true,if_false] at h2;simp[execOp,qg,resolve,yk,invoke,builtin,Builtin.min_,qj,h2]
   ·cases h
  ·split at h
   ·rename_i x r qj;obtain⟨hh,rfl⟩:=aD h
    replace h:=hh
    obtain⟨v',h1,h2⟩:=uL (P:=P) true (r.map ρ) (r.map ρ') _ _ v (hρ x) (fQ hρ r) h w;refine here h1 ?_;simp only[if_true] at h2;simp[execOp,qg,resolve,yk,invoke,builtin,Builtin.max_,qj,h2]
   ·cases h
end Go.AM
namespace Go.AM
open Go.RowKit
variable [σ:Sg]
variable [γ:Gam]
omit [γ:Gam] in
def mkV:Option Nat->Nat->Value
 |none,b=>.pointer (some ⟨b,0,none⟩)
 |some n,b=>.slice (some ⟨b,0,none⟩) n n
omit [γ:Gam] in
def aTc [π:Pins](w:World)(N0:Nat)(φ:PL)(H:AH)(k:Option Nat)(o:AObj)(b:Nat):Prop:=
 N0<=b/\(∃x tot sz,w.heap[b]?=some x/\(∀n,k=some n->n*esz sz<=tot)/\∀ψ,φ <+: ψ->ORel ψ ⟨b,0,tot,sz⟩ o (some x))/\(∀(i:Nat) p,φ[i]?=some p->p.blk≠b)/\∀b' x,π.pin b'=some x->b'≠b
theorem Rel.pushOld [Pins]{φ:PL}{H:AH}{w:World}{k:Option Nat}{o:AObj}{b:Nat}(R:Rel φ H w)(h:aTc w H.w0.heap.size φ H k o b):∃p:Place,p.blk=b/\p.base=0/\(∀n,k=some n->n*esz p.sz<=p.tot)/\Rel (φ++[p]) (dC H o) w:=by
 obtain⟨hN,⟨x,tot,sz,hx,hk,hO⟩,hd,ij⟩:=h;have qp:φ <+: φ++[⟨b,0,tot,sz⟩]:=⟨_,rfl⟩
 refine⟨⟨b,0,tot,sz⟩,rfl,rfl,hk,R.below,by simp[dC,R.len],fun i o' hi=>?_,fun i j o1 o2 p q hi hj hp hq e=>?_,fun b' y xu=>⟨(R.pin b' y xu).1,oV R b' y xu (fun e=>ij b' y xu e.symm)⟩,sG R.lt (Nat.le_refl _) (alt_of_getElem? hx),R.ro' rfl qp fun i hi h=>by
  have:i≠H.nx:=by have:=R.len;omega
  grind [dC,Tr.get_set_ne]⟩
 ·by_cases zy:i=H.nx
  ·subst zy;simp only[dC,Tr.get_set_same] at hi;cases hi;refine⟨⟨b,0,tot,sz⟩,by rw[<-R.len];simp,hN,?_⟩
   simp_all
  ·simp only[dC,Tr.get_set_ne _ _ zy] at hi;obtain⟨p,hp,hN,hO⟩:=R.obj i o' hi;exact⟨p,getElem?_prefix qp hp,hN,hO.mono qp⟩
 ·have z4:∀i o,H.tr.get i=some o->i<H.nx:=by
   intro i o hi;obtain⟨q,hq,_⟩:=R.obj i o hi;rw[<-R.len];exact lt_of_getElem? hq
  have back:∀i o',(H.tr.set H.nx (some o)).get i=some o'->i≠H.nx->H.tr.get i=some o':=fun i o' h qr=>by grind [Tr.get_set_ne]
  have pl:∀i p,i<H.nx->(φ++[(⟨b,0,tot,sz⟩:Place)])[i]?=some p->φ[i]?=some p:=by
   intro i p hl hp
   rwa [List.getElem?_append_left (by rw[R.len];exact hl)] at hp
  have pn:∀p,(φ++[(⟨b,0,tot,sz⟩:Place)])[H.nx]?=some p->p.blk=b:=by
   intro p hp;rw[<-R.len] at hp;grind
  by_cases h1:i=H.nx<;>by_cases h2:j=H.nx
  ·omega
  ·grind
  ·grind
  ·have qi:=back i o1 hi h1;have xy:=back j o2 hj h2;exact R.inj i j o1 o2 p q qi xy (pl i p (z4 i o1 qi) hp) (pl j q (z4 j o2 xy) hq) e
theorem aOd{P:PG}(E:Env P){ty:TY}{ii:TI}{z:Value}(hi:E.inf ty=some ii)(hz:ii.zero=some z){o:Oper}(qg:o.op=.alloc ty)(ρ:Operand->Value)(w:World):
 ∃x,(execOp ρ o).run P w=.ok (.value (.pointer (some ⟨w.heap.size,0,none⟩))) (w.alloc x)/\∃tot,∀ψ,ORel ψ ⟨w.heap.size,0,tot,dV E ty⟩ (.cells (ext z).cells.toList (dV E ty) true) (some x):=by
 refine⟨.cells z.cells ty,?_,z.cells.size,fun ψ=>?_⟩
 ·simp[execOp,qg,Instr.alloc,bE E hi hz,newVar,newRow]
 ·have hc:=(VR.ext ψ z).cells;refine⟨z.cells,ty,0,0,rfl,fun k _=>by omega,rfl,⟨rfl,aLa E ty,fun _=>rfl⟩,?_,fun _=>?_,?_⟩
  ·rw[hc.1];simp
  ·rw[hc.1];simp
  ·have e:((z.cells.toList.drop 0).take (ext z).cells.toList.length)=z.cells.toList:=by rw[hc.1,List.drop_zero,List.take_length]
   rw[e];exact hc
theorem aYe{φ:PL}{n:Nat}(hn:φ.length=n)(p:Place)(hp:p.base=0){k:Option Nat}(hk:∀m,k=some m->m*esz p.sz<=p.tot):VR (φ++[p]) (mkV k (2*n+1)) (mkV k p.blk):=by
 cases k with
 |none=>exact .ptr (ARel.new φ n hn p hp)
 |some m=>exact .slc (SRel.new hn p hp (Nat.le_refl _) (Nat.le_refl _) (hk m rfl))
omit [γ:Gam] in
def xM(P:PG)(o:Oper)(ρ:Operand->Value)(k:Option Nat)(ob:AObj):Prop:=
 ∀(ρ':Operand->Value) (w:World) (φ:PL),(∀x∈o.op.operands,VR φ (ρ x) (ρ' x))->∃x tot sz,(execOp ρ' o).run P w=.ok (.value (mkV k w.heap.size)) (w.alloc x)/\(∀n,k=some n->n*esz sz<=tot)/\∀ψ,φ <+: ψ->ORel ψ ⟨w.heap.size,0,tot,sz⟩ ob (some x)
theorem aAe{P:PG}(E:Env P){ty:TY}{ii:TI}{z:Value}(hi:E.inf ty=some ii)(hz:ii.zero=some z){o:Oper}(qg:o.op=.alloc ty)(ρ:Operand->Value):xM P o ρ none (.cells (ext z).cells.toList (dV E ty) true):=fun ρ' w φ _=>by
 obtain⟨x,h1,tot,h2⟩:=aOd E hi hz qg ρ' w;exact⟨x,tot,dV E ty,h1,(fun n h=>by cases h),fun ψ _=>h2 ψ⟩
omit [γ:Gam] in
structure TraceF {P:PG} (E:Env P) (ops:OA) (F:Nat->Fr) (HH:Nat->AH) (V:Nat->Value) (M Fl:Nat->Bool):Prop extends Trace0 ops F V where
 step:∀(i:Nat) o,ops[i]?=some o->Fl i=false->
  (aM ops (bX (F i)) o=false/\V i=undef/\M i=false)\/
  (aM ops (bX (F i)) o=true/\M i=false/\bY E o.op=true/\∀t,t<=ops.size->(∀j,j<ops.size->M j=true->((bef ops).getD i 0).testBit j=true->j<t)->
   (∀j,j<ops.size->M j=true->((bef ops).getD j 0).testBit i=true->t<=j)->aop E (aK (F i)) o.op (HH t)=some (V i,HH t))\/
  (aM ops (bX (F i)) o=true/\M i=true/\aop E (aK (F i)) o.op (HH i)=some (V i,HH (i+1)))\/
  (aM ops (bX (F i)) o=true/\M i=true/\∃g args,bM E (aK (F i)) o.op=some (g,args)/\ACalls P g args (HH i) fun v H'=>v=V i/\H'=HH (i+1))
 flop:∀(i:Nat) o,ops[i]?=some o->Fl i=true->M i=true/\aM ops (bX (F i)) o=true/\∃d k ob,o.dst=some d/\V i=mkV k (2*(HH i).nx+1)/\HH (i+1)=dC (HH i) ob/\xM P o (aK (F i)) k ob
 still:∀i,i<ops.size->M i=false->HH (i+1)=HH i
 mains:∀i j,i<j->j<ops.size->M i=true->M j=true->((bef ops).getD j 0).testBit i=true\/Fl j=true
 all:∀k i j,k<ops.size->i<ops.size->j<i->Fl k=false->Fl i=true->M j=true->((bef ops).getD k 0).testBit i=true->((bef ops).getD k 0).testBit j=true
 nofl:∀i j,i<ops.size->j<ops.size->Fl i=true->Fl j=true->((bef ops).getD i 0).testBit j=false
section
variable {P:PG}{E:Env P}{ops:OA}{F:Nat->Fr}{HH:Nat->AH}{V:Nat->Value}{M Fl:Nat->Bool}
omit [γ:Gam] in
def Pd(Fl:Nat->Bool)(S:Nat->Bool)(t j:Nat):Prop:=Fl j=true/\S j=true/\t<=j
omit [γ:Gam] in
structure InvC [Pins] (ops:OA) (F:Nat->Fr) (HH:Nat->AH) (V:Nat->Value) (M Fl S:Nat->Bool) (φ':PL) (t:Nat) (bl:Nat->Nat) (a:Act) (w:World):Prop where
 le:t<=ops.size
 rel:Rel φ' (HH t) w
 pre:∀j,j<ops.size->M j=true->j<t->S j=true
 post:∀j,j<ops.size->M j=true->t<=j->S j=true->Fl j=true
 slots:∀d,(∀j o,ops[j]?=some o->Pd Fl S t j->o.dst≠some d)->VR φ' (lL (F 0) ops V S ops.size d) (a.tmps.getD d undef)
 pend:∀j o,ops[j]?=some o->Pd Fl S t j->∃ob k,HH (j+1)=dC (HH j) ob/\V j=mkV k (2*(HH j).nx+1)/\aTc w (HH 0).w0.heap.size φ' (HH t) k ob (bl j)/\∃d,o.dst=some d/\a.tmps.getD d undef=mkV k (bl j)
 inj:∀i j,i<ops.size->j<ops.size->Pd Fl S t i->Pd Fl S t j->bl i=bl j->i=j
 dep:∀k j,k<ops.size->j<ops.size->S k=true->Pd Fl S t j->((bef ops).getD k 0).testBit j=false
theorem InvC.normal [Pins](T:TraceF E ops F HH V M Fl)(zj:∀i,i<ops.size->(HH (i+1)).w0=(HH i).w0){S:Nat->Bool}(hS:dU ops S){a:Act}{w:World}:∀(n t:Nat) (φ':PL) (bl:Nat->Nat),ops.size - t=n->InvC ops F HH V M Fl S φ' t bl a w->
 ∃φ2 t2,φ' <+: φ2/\InvC ops F HH V M Fl S φ2 t2 bl a w/\(t2=ops.size\/(t2<ops.size/\M t2=true/\S t2=false)):=by
 intro n
 induction n with
 |zero=>intro t φ' bl hn hI;have:=hI.le;grind
 |succ n ih=>
  intro t φ' bl hn hI;have qm:t<ops.size:=by omega
  have ho:ops[t]?=some ops[t]:=Array.getElem?_eq_getElem qm;cases hM:M t with
  |false=>
   have qr:∀j,Fl j=true->j<ops.size->j≠t:=by
    intro j hF hj e;subst e;have:=(T.flop j _ ho hF).1;simp_all
   have xb:∀j,j<ops.size->(Pd Fl S (t+1) j↔Pd Fl S t j):=by
    intro j hj;constructor
    ·rintro⟨h1,h2,h3⟩;exact⟨h1,h2,by omega⟩
    ·rintro⟨h1,h2,h3⟩;have:=qr j h1 hj;exact⟨h1,h2,by omega⟩
   have hH:=T.still t qm hM
   refine ih (t+1) φ' bl (by omega) ⟨by omega,by rw[hH];exact hI.rel,fun j hj zo wl=>?_,fun j hj zo wl=>hI.post j hj zo (by omega),fun d hd=>hI.slots d fun j o hj hp=>hd j o hj ((xb j (alt_of_getElem? hj)).2 hp),fun j o hj hp=>?_,
    fun i j hi hj h1 h2=>hI.inj i j hi hj ((xb i hi).1 h1) ((xb j hj).1 h2),fun k j hk hj h1 h2=>hI.dep k j hk hj h1 ((xb j hj).1 h2)⟩
   ·by_cases e:j=t
    ·simp_all
    ·exact hI.pre j hj zo (by omega)
   ·rw[hH];exact hI.pend j o hj ((xb j (alt_of_getElem? hj)).1 hp)
  |true=>
   cases ku:S t with
   |false=>grind
   |true=>
    have hF:=hI.post t qm hM (Nat.le_refl _) ku;obtain⟨ob,kk,h1,hV,h2,d,hd,h3⟩:=hI.pend t _ ho ⟨hF,ku,Nat.le_refl _⟩;have dp:(HH t).w0=(HH 0).w0:=mK zj t (by omega);obtain⟨p,uf,xj,mf,hR⟩:=hI.rel.pushOld (by rw[dp];exact h2);have xb:∀j,Pd Fl S (t+1) j->Pd Fl S t j/\j≠t:=fun j ⟨a1,a2,a3⟩=>⟨⟨a1,a2,by omega⟩,by omega⟩;have qp:φ' <+: φ'++[p]:=⟨_,rfl⟩;have hI2:InvC ops F HH V M Fl S (φ'++[p]) (t+1) bl a w:=by
     refine⟨by omega,by rw[h1];exact hR,fun j hj zo wl=>?_,fun j hj zo wl=>hI.post j hj zo (by omega),fun d' gx=>?_,fun j o hj hp=>?_,fun i j hi hj a1 a2=>hI.inj i j hi hj (xb i a1).1 (xb j a2).1,fun k j hk hj a1 a2=>hI.dep k j hk hj a1 (xb j a2).1⟩
     ·by_cases e:j=t
      ·subst e;exact ku
      ·exact hI.pre j hj zo (by omega)
     ·by_cases e:d'=d
      ·subst e;have kw:lL (F 0) ops V S ops.size d'=V t:=by
        rw[nG (i:=t+1) ops.size (by omega) ?_]
        ·grind [lL]
        ·intro k hk rk vt;have yf:ops[k]?=some ops[k]:=Array.getElem?_eq_getElem rk;rw[yf] at vt;simp only[Option.bind_some] at vt;cases de:S k with
         |false=>rfl
         |true=>
          rcases cH T.order (show t<k by omega) ho yf with wz|hb
          ·grind [absurd,Oper.apart_spec]
          ·rw[hI.dep k t rk qm de ⟨hF,ku,Nat.le_refl _⟩] at hb;cases hb
       rw[kw,h3,hV,<-uf];exact aYe hI.rel.len p xj mf
      ·refine(hI.slots d' fun j o hj hp=>?_).mono qp;by_cases ejt:j=t
       ·grind
       ·exact gx j o hj ⟨hp.1,hp.2.1,by have:=hp.2.2;omega⟩
     ·obtain⟨ob',k',q1,qV,⟨q2,q3,q4,q4'⟩,q5⟩:=hI.pend j o hj (xb j hp).1;refine⟨ob',k',q1,qV,⟨q2,(let ⟨y,c1,c2,c3,c4,c5⟩:=q3;⟨y,c1,c2,c3,c4,fun ψ h=>c5 ψ (qp.trans h)⟩),fun i p' qc=>?_,q4'⟩,q5⟩;rcases Nat.lt_or_ge i φ'.length with re|re
      ·grind
      ·rw[List.getElem?_append_right re] at qc;have h0:i - φ'.length=0:=by grind
       rw[h0] at qc;simp at qc;subst qc;rw[uf];intro e;exact(xb j hp).2 (hI.inj t j qm (alt_of_getElem? hj) ⟨hF,ku,Nat.le_refl _⟩ (xb j hp).1 e).symm
    grind
theorem TraceF.any [π:Pins](T:TraceF E ops F HH V M Fl)(zj:∀i,i<ops.size->(HH (i+1)).w0=(HH i).w0){Q:AQ}(hQ:Q .normal (F ops.size) (HH ops.size))(φ:PL):
 ∀(fuel:Nat) (listed:Array Bool) (a:Act) (w:World) (φ':PL) (t:Nat) (bl:Nat->Nat),listed.size=ops.size->dU ops (fun i=>listed.getD i false)->a.defers=π.ds->a.tmps.size=(F 0).n->φ <+: φ'->
  InvC ops F HH V M Fl (fun i=>listed.getD i false) φ' t bl a w->(t=ops.size\/(t<ops.size/\M t=true/\listed.getD t false=false))->listed.toList.countP id+fuel=ops.size->wpAny P .any ops (iZ φ (HH 0).w0 Q) fuel listed a w:=by
 have fin:∀(listed:Array Bool) (a:Act) (w:World) (φ':PL) (t:Nat) (bl:Nat->Nat),a.defers=π.ds->a.tmps.size=(F 0).n->φ <+: φ'->InvC ops F HH V M Fl (fun i=>listed.getD i false) φ' t bl a w->(t=ops.size\/(t<ops.size/\M t=true/\listed.getD t false=false))->
  (∀i,i<ops.size->listed.getD i false=true)->iZ φ (HH 0).w0 Q .normal a w:=by
  intro listed a w φ' t bl mg ve hφ hI hn zh;obtain rfl:t=ops.size:=by
   grind
  refine⟨φ',F ops.size,HH ops.size,hφ,⟨mg,by rw[ve,T.size _ (Nat.le_refl _)],fun d=>?_⟩,hI.rel,mK zj _ (Nat.le_refl _),hQ⟩;have:=hI.slots d fun j o hj hp=>by have:=alt_of_getElem? hj;have:=hp.2.2;omega
  rw[xW (S':=fun _=>true) ops.size (fun k hk _=>by simp[zh k hk]),<-T.slots d _ (Nat.le_refl _)] at this;exact this
 intro fuel
 induction fuel with
 |zero=>
  intro listed a w φ' t bl zi hS mg ve hφ hI hn hc;have zh:∀i,i<ops.size->listed.getD i false=true:=by
   have:listed.toList.countP id=listed.toList.length:=by simp_all
   rw[List.countP_eq_length] at this;intro i hi;have hm:listed[i]'(by omega)∈listed.toList:=by simp
   have:=this _ hm
   simp_all
  refine⟨?_,fin listed a w φ' t bl mg ve hφ hI hn zh⟩;rw[List.eq_nil_iff_forall_not_mem];intro i hi;unfold Region.ready at hi
  grind
 |succ fuel ih=>
  intro listed a w φ' t bl zi hS mg ve hφ hI hn hc;refine⟨fun hr=>fin listed a w φ' t bl mg ve hφ hI hn ?_,fun i hi=>?_⟩
  ·intro i
   induction i using Nat.strongRecOn with
   |_ i ihi=>
    intro qm;cases hl:listed.getD i false with
    |true=>rfl
    |false=>
     exfalso;have yg:i∈Region.ready .any ops listed:=by
      unfold Region.ready;rw[List.mem_filter];refine⟨List.mem_range.2 qm,?_⟩;have ho:ops[i]?=some ops[i]:=Array.getElem?_eq_getElem qm;simp only[QB,ho,Option.map_some,Option.getD_some];refine⟨?_,?_⟩
      ·simp_all
      ·rw[Array.all_eq_true'];intro e he;cases hb:Region.binds .any e with
       |false=>rfl
       |true=>
        have ui:=fM T.order ho he hb
        grind
     simp_all
  ·have qi:=hi;unfold Region.ready at qi;rw[List.mem_filter] at qi;have qm:=List.mem_range.1 qi.1;have x9:listed.getD i false=false:=by
    simp_all
   have ho:ops[i]?=some ops[i]:=Array.getElem?_eq_getElem qm;generalize ops[i]=o at ho;have pu:=iP hS hi;have pw:(listed.setIfInBounds i true).toList.countP id+fuel=ops.size:=by
    rw[Array.toList_setIfInBounds,List.countP_set (by simp;omega)]
    have hget:(listed.toList[i]'(by simp;omega))=false:=by
     simp_all
    grind
   have v6:(fun j=>(listed.setIfInBounds i true).getD j false)=fun j=>if j=i then true else listed.getD j false:=funext fun j=>mE (by omega)
   -- what lies before the operation has run
   have ky:∀j,j<ops.size->((bef ops).getD i 0).testBit j=true->j≠i->listed.getD j false=true:=by
    intro j hj hb qr;have:=eX pu hb (by simp)
    simp_all
   have kz:∀j,j<ops.size->Pd Fl (fun i=>listed.getD i false) t j->t<ops.size/\M t=true/\listed.getD t false=false/\t<j:=by
    intro j hj hp;rcases hn with h|⟨h1,h2,h3⟩
    ·have:=hp.2.2;omega
    ·have qr:t≠j:=by intro e;subst e;have h4:=hp.2.1;simp_all
     exact⟨h1,h2,h3,by have:=hp.2.2;omega⟩
   have a9:∀j,((bef ops).getD i 0).testBit j=true->j<=i:=by
    intro j hb;have yd:dU ops (fun k=>decide (k<=i)):=fun k o' vf hk e he xn=>by
     have:=fM T.order vf he xn
     grind
    grind [eX]
   have su:Fl i=false->∀j,j<ops.size->Pd Fl (fun i=>listed.getD i false) t j->((bef ops).getD i 0).testBit j=false:=by
    intro zq j hj hp;cases hb:((bef ops).getD i 0).testBit j with
    |false=>rfl
    |true=>
     exfalso;obtain⟨q1,q2,q3,q4⟩:=kz j hj hp;have wm:=T.all i j t qm hj q4 zq hp.1 q2 hb
     grind
   have wn:∀j,j<ops.size->listed.getD j false=true->((bef ops).getD j 0).testBit i=false:=by
    intro j hj hl;cases hb:((bef ops).getD j 0).testBit i with
    |false=>rfl
    |true=>have:=eX hS hb hl;rw[x9] at this;cases this
   have wo:∀j oj,ops[j]?=some oj->Pd Fl (fun i=>listed.getD i false) t j->(∀d,oj.dst=some d->d∉o.looksAt ops)/\(∀d,oj.dst=some d->o.dst≠some d):=by
    intro j oj dq hp;have hj:=alt_of_getElem? dq;have qr:j≠i:=by intro e;subst e;have h4:=hp.2.1;simp only at h4;rw[x9] at h4;cases h4
    have ik:((bef ops).getD i 0).testBit j=false:=by
     cases zq:Fl i with
     |false=>exact su zq j hj hp
     |true=>exact T.nofl i j qm hj zq hp.1
    rcases Nat.lt_or_gt_of_ne qr with h|h
    ·rcases cH T.order h dq ho with wz|hb
     ·exact⟨(Oper.apart_spec wz).1,(Oper.apart_spec wz).2.1⟩
     ·rw[ik] at hb;cases hb
    ·rcases cH T.order h ho dq with wz|hb
     ·exact⟨(Oper.apart_spec wz).2.2,fun d hd ql=>(Oper.apart_spec wz).2.1 d ql hd⟩
     ·rw[wn j hj hp.2.1] at hb;cases hb
   have put_get:∀(v':Value) (d:Nat),(a.put o.dst v').tmps.getD d undef=if o.dst=some d then v' else a.tmps.getD d undef:=by
    intro v' d;cases hd:o.dst with
    |none=>simp[Act.put]
    |some d'=>
     have ui:=T.dst_lt ho hd;simp only[Act.put,Option.some.injEq];by_cases e:d'=d
     ·subst e;simp[Array.getD_eq_getD_getElem?,ve,ui]
     ·rw[if_neg e];simp[Array.getD_eq_getD_getElem?,e]
   have put_size:∀v',(a.put o.dst v').tmps.size=(F 0).n:=by
    intro v';cases hd:o.dst<;>simp[Act.put,ve]
   have put_def:∀v',(a.put o.dst v').defers=π.ds:=by
    intro v';cases hd:o.dst<;>simp[Act.put,mg]
   have kw:∀d,lL (F 0) ops V (fun j=>if j=i then true else listed.getD j false) ops.size d=if o.dst=some d then V i else lL (F 0) ops V (fun i=>listed.getD i false) ops.size d:=fun d=>T.sees_dst hS ho x9 d
   -- go on
   have go:∀(φ2:PL) (t2:Nat) (bl2:Nat->Nat) (v':Value) (w':World),φ' <+: φ2->InvC ops F HH V M Fl (fun j=>if j=i then true else listed.getD j false) φ2 t2 bl2 (a.put o.dst v') w'->
    wpAny P .any ops (iZ φ (HH 0).w0 Q) fuel (listed.setIfInBounds i true) (a.put o.dst v') w':=by
    intro φ2 t2 bl2 v' w' h1 h2;obtain⟨φ3,t3,r1,r2,r3⟩:=h2.normal T zj pu _ t2 φ2 bl2 rfl;refine ih _ _ _ φ3 t3 bl2 (by simp[zi]) (by rw[v6];exact pu) (put_def v') (put_size v') (hφ.trans (h1.trans r1)) (by rw[v6];exact r2) ?_ pw;rcases r3 with r3|⟨q1,q2,q3⟩
    ·exact .inl r3
    ·exact .inr ⟨q1,q2,by rw[show(listed.setIfInBounds i true).getD t3 false=if t3=i then true else listed.getD t3 false from congrFun v6 t3];exact q3⟩
   unfold wpOp;rw[ho];simp only;cases zq:Fl i with
   |true=>
    obtain⟨yy,sw,d,kk,ob,ja,hV,il,vu⟩:=T.flop i o ho zq;have ul:∀d∈o.looksAt ops,VR φ' (bX (F i) d) (a.tmps.getD d undef):=by
     intro d hd;rw[<-T.sees hS pu ho x9 hd];exact hI.slots d fun j oj hj hp e=>(wo j oj hj hp).1 d e hd
    have uo:=fX (φ:=φ') (sv:=bX (F i)) ops o ul;rw[uo,sw,if_pos rfl];left;obtain⟨x,tot,sz0,qt,rk,hO⟩:=vu a.eval w φ' (fun x hx=>by
     cases x with
     |tmp d=>exact ul d (by simp only[Oper.looksAt,List.mem_append,List.mem_filterMap];exact .inl ⟨.tmp d,by simpa using hx,rfl⟩)
     |const v=>exact VR.ext φ' v
     |global g=>exact .ptr (.inl ⟨by simp,by simp,rfl,rfl⟩)
     |func g=>exact .func _ rfl rfl rfl (fun i v v' h=>by simp at h) (fun i v v' h=>by simp at h))
    unfold Oper.wp;rw[qt];have qs:t<=i:=by
     rcases Nat.lt_or_ge i t with h|h
     ·have h5:listed.getD i false=true:=hI.pre i qm yy h;rw[x9] at h5;cases h5
     ·exact h
    have dp:(HH t).w0=(HH 0).w0:=mK zj t hI.le;have px:Below w.heap.size w (w.alloc x):=(Below.refl _ _).alloc (Nat.le_refl _) x;refine go φ' t (fun j=>if j=i then w.heap.size else bl j) _ _ (List.prefix_refl _) ⟨hI.le,hI.rel.later px,fun j hj hM wl=>?_,fun j hj hM wl hs=>?_,fun d' gx=>?_,fun j oj hj hp=>?_,fun j k hj hk rq mf e=>?_,fun k j hk hj hs hp=>?_⟩
    ·by_cases e:j=i
     ·simp[e]
     ·simp only[e,if_false];exact hI.pre j hj hM wl
    ·by_cases e:j=i
     ·rw[e];exact zq
     ·simp only[e,if_false] at hs;exact hI.post j hj hM wl hs
    ·have qr:o.dst≠some d':=gx i o ho ⟨zq,by simp,qs⟩;rw[kw d',if_neg qr,put_get,if_neg qr];refine hI.slots d' fun j oj hj hp=>gx j oj hj ⟨hp.1,?_,hp.2.2⟩;by_cases e:j=i
     ·simp[e]
     ·simp only[e,if_false];exact hp.2.1
    ·by_cases e:j=i
     ·subst e;rw[ho] at hj;cases hj;refine⟨_,kk,il,hV,⟨by rw[<-dp];simp only[if_true];exact hI.rel.below.size,⟨x,tot,sz0,?_,rk,by simp only[if_true];exact hO⟩,fun k p qc=>?_,fun b' y xu=>?_⟩,d,ja,?_⟩
      ·simp only[if_true];exact heap_alloc_new w x
      ·simp only[if_true];have:=hI.rel.lt k p qc;omega
      ·simp only[if_true];have:=alt_of_getElem? (hI.rel.pin b' y xu).1;omega
      ·rw[put_get,if_pos ja];simp
     ·have rq:Pd Fl (fun i=>listed.getD i false) t j:=⟨hp.1,by have:=hp.2.1;simpa [e] using this,hp.2.2⟩;obtain⟨ob',k',q1,qV,⟨q2,⟨y,tot',sz',q3,qk,q4⟩,q5,q5'⟩,d2,q6,q7⟩:=hI.pend j oj hj rq;refine⟨ob',k',q1,qV,⟨?_,⟨y,tot',sz',?_,qk,?_⟩,?_,?_⟩,d2,q6,?_⟩
      ·simp only[e,if_false];exact q2
      ·simp only[e,if_false];rw[show(w.alloc x).heap[bl j]?=w.heap[bl j]? from Below.heap_alloc w x _ (alt_of_getElem? q3)];exact q3
      ·simp only[e,if_false];exact q4
      ·simp only[e,if_false];exact q5
      ·simp only[e,if_false];exact q5'
      ·have qr:o.dst≠some d2:=by
        rcases Nat.lt_or_gt_of_ne e with h|h
        ·rcases cH T.order h hj ho with wz|hb
         ·exact(Oper.apart_spec wz).2.1 d2 q6
         ·rw[T.nofl i j qm (alt_of_getElem? hj) zq hp.1] at hb;cases hb
        ·rcases cH T.order h ho hj with wz|hb
         ·intro h2;exact(Oper.apart_spec wz).2.1 d2 h2 q6
         ·rw[T.nofl j i (alt_of_getElem? hj) qm hp.1 zq] at hb;cases hb
       rw[put_get,if_neg qr,q7];simp only[e,if_false]
    ·have blt:∀j,j<ops.size->j≠i->Pd Fl (fun j=>if j=i then true else listed.getD j false) t j->bl j<w.heap.size:=by
      intro j hj e hp;have rq:Pd Fl (fun i=>listed.getD i false) t j:=⟨hp.1,by have:=hp.2.1;simpa [e] using this,hp.2.2⟩;obtain⟨ob',k',q1,qV,⟨q2,⟨y,tot',sz',q3,qk,q4⟩,q5⟩,_⟩:=hI.pend j _ (Array.getElem?_eq_getElem hj) rq;exact alt_of_getElem? q3
     by_cases e1:j=i<;>by_cases e2:k=i
     ·rw[e1,e2]
     ·have:=blt k hk e2 mf;simp only[e1,e2,if_true,if_false] at e;omega
     ·have:=blt j hj e1 rq;simp only[e1,e2,if_true,if_false] at e;omega
     ·simp only[e1,e2,if_false] at e;exact hI.inj j k hj hk ⟨rq.1,by have:=rq.2.1;simpa [e1] using this,rq.2.2⟩ ⟨mf.1,by have:=mf.2.1;simpa [e2] using this,mf.2.2⟩ e
    ·by_cases e1:k=i
     ·subst e1;exact T.nofl k j hk hj zq hp.1
     ·have wq:listed.getD k false=true:=by simpa [e1] using hs
      by_cases e2:j=i
      ·subst e2;exact wn k hk wq
      ·exact hI.dep k j hk hj wq ⟨hp.1,by have:=hp.2.1;simpa [e2] using this,hp.2.2⟩
   |false=>
    have ul:∀d∈o.looksAt ops,VR φ' (bX (F i) d) (a.tmps.getD d undef):=by
     intro d hd;rw[<-T.sees hS pu ho x9 hd];exact hI.slots d fun j oj hj hp e=>(wo j oj hj hp).1 d e hd
    have uo:=fX (φ:=φ') (sv:=bX (F i)) ops o ul;rw[uo];have xb:∀j,Pd Fl (fun j=>if j=i then true else listed.getD j false) t j->Pd Fl (fun i=>listed.getD i false) t j:=by
     rintro j ⟨h1,h2,h3⟩;have qr:j≠i:=by intro e;subst e;rw[zq] at h1;cases h1
     exact⟨h1,by simpa [qr] using h2,h3⟩
    have dt:∀j,Pd Fl (fun i=>listed.getD i false) t j->Pd Fl (fun j=>if j=i then true else listed.getD j false) t j:=by
     rintro j ⟨h1,h2,h3⟩;have qr:j≠i:=by intro e;subst e;rw[zq] at h1;cases h1
     exact⟨h1,by simpa [qr] using h2,h3⟩
    -- an operation that turns nothing
    have still:M i=false->∀v',VR φ' (V i) v'->wpAny P .any ops (iZ φ (HH 0).w0 Q) fuel (listed.setIfInBounds i true) (a.put o.dst v') w:=by
     intro yy v' hv;refine go φ' t bl v' w (List.prefix_refl _) ⟨hI.le,hI.rel,fun j hj hM wl=>?_,fun j hj hM wl hs=>?_,fun d hd=>?_,fun j oj hj hp=>?_,fun j k hj hk h1 h2=>hI.inj j k hj hk (xb j h1) (xb k h2),fun k j hk hj hs hp=>?_⟩
     ·by_cases e:j=i
      ·simp[e]
      ·simp only[e,if_false];exact hI.pre j hj hM wl
     ·by_cases e:j=i
      ·subst e;rw[yy] at hM;cases hM
      ·simp only[e,if_false] at hs;exact hI.post j hj hM wl hs
     ·rw[kw d,put_get];by_cases e:o.dst=some d
      ·rw[if_pos e,if_pos e];exact hv
      ·rw[if_neg e,if_neg e];exact hI.slots d fun j oj hj hp=>hd j oj hj (dt j hp)
     ·obtain⟨ob,k',q1,qV,q2,d2,q6,q7⟩:=hI.pend j oj hj (xb j hp);refine⟨ob,k',q1,qV,q2,d2,q6,?_⟩;rw[put_get,if_neg ((wo j oj hj (xb j hp)).2 d2 q6)];exact q7
     ·by_cases e:k=i
      ·subst e;exact su zq j hj (xb j hp)
      ·simp only[e,if_false] at hs;exact hI.dep k j hk hj hs (xb j hp)
    have hρ:∃ρ2:Operand->Value,(∀x,VR φ' (ρ2 x) (a.eval x))/\∀x∈o.op.operands,ρ2 x=aK (F i) x:=by
     open Classical in
     refine⟨fun x=>if x∈o.op.operands then aK (F i) x else ext (a.eval x),fun x=>?_,fun x hx=>by simp[hx]⟩;by_cases hx:x∈o.op.operands
     ·simp only[hx,if_true];cases x with
      |tmp d=>exact ul d (by simp only[Oper.looksAt,List.mem_append,List.mem_filterMap];exact .inl ⟨.tmp d,by simpa using hx,rfl⟩)
      |const v=>exact VR.ext φ' v
      |global g=>exact .ptr (.inl ⟨by simp,by simp,rfl,rfl⟩)
      |func g=>exact .func _ rfl rfl rfl (fun i v v' h=>by simp at h) (fun i v v' h=>by simp at h)
     ·simp only[hx,if_false];exact VR.ext φ' _
    obtain⟨ρ2,hρ2,hρe⟩:=hρ
    -- a main operation
    have uq:M i=true->t=i/\(∀j,j<ops.size->M j=true->j<i->listed.getD j false=true)/\(∀j,j<ops.size->M j=true->i<j->listed.getD j false=true->Fl j=true):=by
     intro yy;have vg:∀j,j<ops.size->M j=true->j<i->listed.getD j false=true:=by
      intro j hj hM yx;rcases T.mains j i yx qm hM yy with hb|hb
      ·exact ky j hj hb (by omega)
      ·rw[zq] at hb;cases hb
     have qs:t<=i:=by
      rcases Nat.lt_or_ge i t with h|h
      ·have h5:listed.getD i false=true:=hI.pre i qm yy h;rw[x9] at h5;cases h5
      ·exact h
     have na:t=i:=by
      rcases hn with h|⟨h1,h2,h3⟩
      ·omega
      ·rcases Nat.lt_or_ge t i with h|h
       ·rw[vg t h1 h2 h] at h3;cases h3
       ·omega
     refine⟨na,vg,fun j hj hM yq hl=>?_⟩;rcases T.mains i j yq hj yy hM with hb|hb
     ·rw[wn j hj hl] at hb;cases hb
     ·exact hb
    -- what waits is pinned
    open Classical in
    let p2:Nat->Option Obj:=fun b=>if ∃j,j<ops.size/\Pd Fl (fun i=>listed.getD i false) t j/\bl j=b then w.heap[b]? else π.pin b
    have ru: @Rel σ ⟨⟨p2,π.ds⟩⟩ φ' (HH t) w:=by
     refine @Rel.mk σ ⟨⟨p2,π.ds⟩⟩ _ _ _ hI.rel.below hI.rel.len hI.rel.obj hI.rel.inj (fun b x hb=>?_) hI.rel.lt (fun i c h=>?_);simp only[Pins.pin,p2] at hb;split at hb
     ·rename_i hx;obtain⟨j,hj,hp,rfl⟩:=hx;obtain⟨ob,k',q1,qV,⟨q2,q3,q4,q5⟩,_⟩:=hI.pend j _ (Array.getElem?_eq_getElem hj) hp;exact⟨hb,fun i p hp _=>q4 i p hp⟩
     ·exact hI.rel.pin b x hb
     ·obtain⟨r1,p,x,r2,r3,r4⟩:=hI.rel.ro i c h;refine⟨r1,p,x,r2,?_,r4⟩;simp only[Pins.pin,p2];rw[if_neg]
      ·exact r3
      ·rintro⟨j,hj,hp,e⟩;obtain⟨ob,k',q1,qV,⟨q2,q3,q4,q5⟩,_⟩:=hI.pend j _ (Array.getElem?_eq_getElem hj) hp;exact q4 i p r2 e.symm
    have back2:∀{φ2:PL} {H2:AH} {w':World},φ' <+: φ2->H2.w0=(HH t).w0->@Rel σ ⟨⟨p2,π.ds⟩⟩ φ2 H2 w'->Rel φ2 H2 w'/\∀j,j<ops.size->Pd Fl (fun i=>listed.getD i false) t j->w'.heap[bl j]?=w.heap[bl j]?/\∀(k:Nat) p,φ2[k]?=some p->p.blk≠bl j:=by
     intro φ2 H2 w' jb wx xk;have old:∀(i:Nat) c,H2.w0.rd i=some c->∃p,φ'[i]?=some p/\φ2[i]?=some p:=fun i c h=>by
      rw[wx] at h;obtain⟨_,p,x,r2,_⟩:=hI.rel.ro i c h;exact⟨p,r2,getElem?_prefix jb r2⟩
     refine⟨⟨@Rel.below σ ⟨⟨p2,π.ds⟩⟩ _ _ _ xk,@Rel.len σ ⟨⟨p2,π.ds⟩⟩ _ _ _ xk,@Rel.obj σ ⟨⟨p2,π.ds⟩⟩ _ _ _ xk,@Rel.inj σ ⟨⟨p2,π.ds⟩⟩ _ _ _ xk,fun b x hb=> @Rel.pin σ ⟨⟨p2,π.ds⟩⟩ _ _ _ xk b x ?_,@Rel.lt σ ⟨⟨p2,π.ds⟩⟩ _ _ _ xk,fun i c h=>?_⟩,fun j hj hp=>?_⟩
     ·simp only[Pins.pin,p2];rw[if_neg]
      ·exact hb
      ·rintro⟨j,hj,hp,rfl⟩;obtain⟨ob,k',q1,qV,⟨q2,q3,q4,q5⟩,_⟩:=hI.pend j _ (Array.getElem?_eq_getElem hj) hp;exact q5 _ x hb rfl
     ·obtain⟨r1,p,x,r2,r3,r4⟩:= @Rel.ro σ ⟨⟨p2,π.ds⟩⟩ _ _ _ xk i c h;obtain⟨p',s1,s2⟩:=old i c h;rw[r2] at s2;cases s2;refine⟨r1,p,x,r2,?_,r4⟩;simp only[Pins.pin,p2] at r3;rw[if_neg] at r3
      ·exact r3
      ·rintro⟨j,hj,hp,e⟩;obtain⟨ob,k',q1,qV,⟨q2,q3,q4,q5⟩,_⟩:=hI.pend j _ (Array.getElem?_eq_getElem hj) hp;exact q4 i p s1 e.symm
     ·obtain⟨ob,k',q1,qV,⟨q2,⟨x,tot,sz,q3,_⟩,q4,q5⟩,_⟩:=hI.pend j _ (Array.getElem?_eq_getElem hj) hp;have:= @Rel.pin σ ⟨⟨p2,π.ds⟩⟩ _ _ _ xk (bl j) x (by simp only[Pins.pin,p2];rw[if_pos ⟨j,hj,hp,rfl⟩];exact q3);refine⟨this.1.trans q3.symm,fun k p hp=>?_⟩;cases e:H2.w0.rd k with
      |none=>exact this.2 k p hp e
      |some c=>
       obtain⟨p',s1,s2⟩:=old k c e;rw[hp] at s2;cases s2;exact q4 k p s1
    have mnext:M i=true->∀(φ2:PL) (v':Value) (w':World),φ' <+: φ2->VR φ2 (V i) v'->@Rel σ ⟨⟨p2,π.ds⟩⟩ φ2 (HH (i+1)) w'->wpAny P .any ops (iZ φ (HH 0).w0 Q) fuel (listed.setIfInBounds i true) (a.put o.dst v') w':=by
     intro yy φ2 v' w' h1 h2 h3;obtain⟨na,vg,im⟩:=uq yy;obtain⟨hR,gy⟩:=back2 h1 ((mK zj _ (by omega)).trans (mK zj _ (by omega)).symm) h3;have ur:∀j,j<ops.size->Pd Fl (fun j=>if j=i then true else listed.getD j false) (i+1) j->Pd Fl (fun i=>listed.getD i false) t j:=by
      rintro j hj ⟨p1,p2,p3⟩;have qr:j≠i:=by omega
      exact⟨p1,by simpa [qr] using p2,by omega⟩
     have du:∀j,j<ops.size->Pd Fl (fun i=>listed.getD i false) t j->Pd Fl (fun j=>if j=i then true else listed.getD j false) (i+1) j:=by
      rintro j hj hp;have qr:j≠i:=by intro e;subst e;have h4:=hp.1;rw[zq] at h4;cases h4
      exact⟨hp.1,by simpa [qr] using hp.2.1,by have:=hp.2.2;omega⟩
     refine go φ2 (i+1) bl v' w' h1 ⟨by omega,hR,fun j hj hM wl=>?_,fun j hj hM wl hs=>?_,fun d hd=>?_,fun j oj hj hp=>?_,fun j k hj hk p1 p2=>hI.inj j k hj hk (ur j hj p1) (ur k hk p2),fun k j hk hj hs hp=>?_⟩
     ·by_cases e:j=i
      ·simp[e]
      ·simp only[e,if_false];exact vg j hj hM (by omega)
     ·have e:j≠i:=by omega
      simp only[e,if_false] at hs;exact im j hj hM (by omega) hs
     ·rw[kw d,put_get];by_cases e:o.dst=some d
      ·rw[if_pos e,if_pos e];exact h2
      ·rw[if_neg e,if_neg e];exact(hI.slots d fun j oj hj hp=>hd j oj hj (du j (alt_of_getElem? hj) hp)).mono h1
     ·have kr:=alt_of_getElem? hj;have xj:=ur j kr hp;obtain⟨ob,k',q1,qV,⟨q2,⟨y,tot',sz',q3,qk,q4⟩,q5,q5'⟩,d2,q6,q7⟩:=hI.pend j oj hj xj;obtain⟨r1,r2⟩:=gy j kr xj;refine⟨ob,k',q1,qV,⟨q2,⟨y,tot',sz',r1.trans q3,qk,fun ψ h=>q4 ψ (h1.trans h)⟩,r2,q5'⟩,d2,q6,?_⟩;rw[put_get,if_neg ((wo j oj hj xj).2 d2 q6)];exact q7
     ·by_cases e:k=i
      ·subst e;exact su zq j hj (ur j hj hp)
      ·simp only[e,if_false] at hs;exact hI.dep k j hk hj hs (ur j hj hp)
    rcases T.step i o ho zq with⟨h1,h2,h3⟩|⟨h1,h2,vd,h3⟩|⟨h1,h2,h3⟩|⟨h1,h2,g,args,h3,h4⟩
    ·rw[h1];simp only[Bool.false_eq_true,if_false];exact still h3 undef (by rw[h2];exact VR.undef φ')
    ·rw[h1,if_pos rfl];left;have qg:=h3 t hI.le (fun j hj hM hb=>?_) (fun j hj hM hb=>?_)
     ·rw[<-aAx E o.op _ hρe] at qg;obtain⟨v',q1,q2⟩:=aNq E hI.rel hρ2 vd qg;unfold Oper.wp;rw[q2];exact still h2 v' q1
     ·have qr:j≠i:=by intro e;subst e;rw[h2] at hM;cases hM
      have hl:=ky j hj hb qr;rcases Nat.lt_or_ge j t with h|h
      ·exact h
      ·exfalso;have:=su zq j hj ⟨hI.post j hj hM h hl,hl,h⟩;rw[this] at hb;cases hb
     ·rcases Nat.lt_or_ge j t with h|h
      ·have hl:=hI.pre j hj hM h;rw[wn j hj hl] at hb;cases hb
      ·exact h
    ·rw[h1,if_pos rfl];left;obtain⟨m1,_⟩:=uq h2;rw[<-aAx E o.op _ hρe] at h3;obtain⟨φ2,v',w',q1,q2,q3,q4⟩:= @aGw σ ⟨⟨p2,π.ds⟩⟩ _ E _ _ _ _ (m1▸ru) _ _ hρ2 _ _ h3;unfold Oper.wp;rcases q4 with q4|⟨q4,rfl⟩
     ·rw[q4];exact mnext h2 φ2 v' w' q1 q3 q2
     ·rw[q4];exact mnext h2 φ2 undef w' q1 q3 q2
    ·rw[h1,if_pos rfl];left;obtain⟨m1,_⟩:=uq h2;rw[<-yF E o.op hρe] at h3;obtain⟨args',q1,q2⟩:=vX E hρ2 h3 w;unfold Oper.wp;rw[q2];refine(h4 ⟨⟨p2,π.ds⟩⟩ φ' args' w q1 (m1▸ru)).mono ?_;rintro e w' ⟨φ2,v,v',H',r1,rfl,r2,r3,r4,rfl,rfl⟩;exact mnext h2 φ2 v' w' r1 r2 r3
theorem TraceF.anyAll(T:TraceF E ops F HH V M Fl)(zj:∀i,i<ops.size->(HH (i+1)).w0=(HH i).w0){Q:AQ}(hQ:Q .normal (F ops.size) (HH ops.size))(π:Pins)(φ:PL)(a:Act)(w:World)(hf:FRel φ (F 0) a)(hR:Rel φ (HH 0) w):
 wpAny P .any ops (iZ φ (HH 0).w0 Q) ops.size (Array.replicate ops.size false) a w.drew:=by
 have yh:∀j,(Array.replicate ops.size false).getD j false=false:=by
  intro j;simp only[Array.getD_eq_getD_getElem?,Array.getElem?_replicate];split<;>rfl
 have yd:dU ops (fun i=>(Array.replicate ops.size false).getD i false):=by
  intro i o ho hi
  simp_all
 have ip:InvC ops F HH V M Fl (fun i=>(Array.replicate ops.size false).getD i false) φ 0 (fun _=>0) a w.drew:=by
  refine⟨Nat.zero_le _,hR.drew,(fun j _ _ h=>by omega),(fun j _ _ _ h=>by simp_all),fun d _=>?_,(fun j o hj hp=>by cases(yh j).symm.trans hp.2.1),(fun i j _ _ hp=>by cases(yh i).symm.trans hp.2.1),(fun k j _ _ h=>by simp_all)⟩;have hS:lL (F 0) ops V (fun i=>(Array.replicate ops.size false).getD i false) ops.size d=bX (F 0) d:=by
   rw[nG (i:=0) ops.size (Nat.zero_le _)]
   ·rfl
   simp_all
  rw[hS];exact hf.2.2 d
 obtain⟨φ2,t2,r1,r2,r3⟩:=ip.normal T zj yd _ 0 φ _ rfl;refine T.any zj hQ φ ops.size (Array.replicate ops.size false) a _ φ2 t2 _ (by simp) yd hf.1 hf.2.1 r1 r2 r3 ?_
 simp_all
theorem TraceF.region(T:TraceF E ops F HH V M Fl)(hm:P.follows .mixedOrders=true)(zj:∀i,i<ops.size->(HH (i+1)).w0=(HH i).w0){Q:AQ}(hQ:Q .normal (F ops.size) (HH ops.size))(id:Nat):
 ACode P (.region id ops true) Q (F 0) (HH 0):=ACode.of_any hm (oM T.order) (fun π φ a w hf hR=>T.anyAll zj (Q:=fun e f' H'=>e=.normal/\f'=F ops.size/\H'=HH ops.size) ⟨rfl,rfl,rfl⟩ π φ a w hf hR) hQ
omit [γ:Gam] in
def jC(bs fl:NL):NL->Bool
 |[]=>true
 |i::r=>(r.all fun j=>(bs.getD j 0).testBit i||fl.contains j)&&jC bs fl r
omit [γ:Gam] in
def bBi:Op->Bool
 |.alloc _=>true
 |_=>false
omit [γ:Gam] in
def aVo(ops:OA)(bs ms fl:NL):Bool:=
 (fl.all fun i=>match ops[i]? with
  |some o=>bBi o.op&&(o.guard.isNone&&o.dst.isSome)
  |none=>false)&&
 ((List.range ops.size).all fun k=>fl.contains k||fl.all fun i=>!((bs.getD k 0).testBit i)||ms.all fun j=>Nat.ble i j||(bs.getD k 0).testBit j)&&
 (fl.all fun i=>fl.all fun j=>!((bs.getD i 0).testBit j))
theorem yB{bs fl:NL}:∀{ms:NL},jC bs fl ms=true->ms.Pairwise (·<·)->∀i j,i∈ms->j∈ms->i<j->(bs.getD j 0).testBit i=true\/fl.contains j=true:=by
 intro ms
 induction ms with
 |nil=>simp_all
 |cons m r ih=>
  intro h hs i j hi hj yq;simp only[jC,QB,List.all_eq_true] at h;rw[List.pairwise_cons] at hs
  grind
theorem aOl{ms fl:NL}(h:aVo ops (bef ops) ms fl=true):(∀i o,ops[i]?=some o->i∈fl->∃ty d,o.op=.alloc ty/\o.guard=none/\o.dst=some d)/\
 (∀k i j,k<ops.size->k∉fl->i∈fl->j∈ms->j<i->((bef ops).getD k 0).testBit i=true->((bef ops).getD k 0).testBit j=true)/\(∀i j,i∈fl->j∈fl->((bef ops).getD i 0).testBit j=false):=by
 simp only[aVo,QB,List.all_eq_true] at h;obtain⟨⟨h1,h2⟩,h3⟩:=h;refine⟨fun i o ho hi=>?_,fun k i j hk iq hi hj yx hb=>?_,fun i j hi hj=>?_⟩
 ·have:=h1 i hi;rw[ho] at this;simp only[QB] at this;obtain⟨q1,q2,q3⟩:=this;cases qg:o.op with
  |alloc ty=>
   cases hd:o.dst with
   |none=>rw[hd] at q3;cases q3
   |some d=>simp_all
  |_=>rw[qg] at q1;cases q1
 ·have:=h2 k (List.mem_range.2 hk);simp only[Bool.or_eq_true,List.all_eq_true] at this;rcases this with q|q
  ·simp_all
  ·rcases q i hi with q|q
   ·rw[hb] at q;cases q
   ·rcases q j hj with q|q
    ·have:=QL q;omega
    ·exact q
 simp_all
theorem RunD.drawF{ms:NL}{W:AH->Prop}{f g:Fr}{H K:AH}{L:List fU}(h:RunD E true ops ms W 0 ops.toList f H L g K)(hm:P.follows .mixedOrders=true)(zg:cE ops (bef ops)=true)(fl:NL)(zm:jC (bef ops) fl ms=true)(zn:ms.Pairwise (·<·))(yc:aVo ops (bef ops) ms fl=true)(hW:W H)(id:Nat):
 pF P (.region id ops true) .normal g K f H:=by
 refine⟨h.w0,?_⟩;obtain⟨qe,⟨s0,yo,dv,dw⟩,qv⟩:=h.at;have xl:L.length=ops.size:=by omega
 let A:=L++[(g,K,undef,false)]
 let d:fU:=(g,K,undef,false)
 let F:=fun i=>(A.getD i d).1
 let HH:=fun i=>(A.getD i d).2.1
 let V:=fun i=>(A.getD i d).2.2.1
 let M:=fun i=>(A.getD i d).2.2.2
 have hA:∀i,i<ops.size->∃s,L[i]?=some s/\A.getD i d=s:=by
  grind
 have jc:A.getD ops.size d=d:=by
  grind
 have zb:∀i o,ops[i]?=some o->SD E true ops ms W i o (F i) (HH i) (V i) (HH (i+1)) (M i)/\(F i).put o.dst (V i)=some (F (i+1)):=by
  grind
 have sx:F 0=f/\HH 0=H:=by
  grind
 have still:∀i,i<ops.size->M i=false->HH (i+1)=HH i:=by
  intro i hi hM;have ho:ops[i]?=some ops[i]:=Array.getElem?_eq_getElem hi;rcases(zb i _ ho).1 with⟨_,_,_,h4⟩|⟨_,_,h4,_⟩|⟨_,h4,_⟩|⟨_,h4,_⟩
  ·exact h4
  ·exact h4
  ·rw[hM] at h4;cases h4
  simp_all
 have w0s:∀i,i<ops.size->(HH (i+1)).w0=(HH i).w0:=by
  intro i hi;have ho:ops[i]?=some ops[i]:=Array.getElem?_eq_getElem hi;rcases(zb i _ ho).1 with⟨_,_,_,h4⟩|⟨_,_,h4,_⟩|⟨_,_,_,h4⟩|⟨_,_,_,h4,_⟩
  ·rw[h4]
  ·rw[h4]
  ·exact mT E h4
  ·exact h4
 have mainW:∀i,i<ops.size->M i=true->i∈ms/\W (HH (i+1)):=by
  intro i hi hM;have ho:ops[i]?=some ops[i]:=Array.getElem?_eq_getElem hi;rcases(zb i _ ho).1 with⟨_,_,h4,_⟩|⟨_,h4,_⟩|⟨_,_,h4,_⟩|⟨_,_,h4,_⟩
  ·rw[hM] at h4;cases h4
  ·rw[hM] at h4;cases h4
  ·exact h4 rfl
  ·exact h4 rfl
 have allW:∀t,t<=ops.size->W (HH t):=by
  intro t
  induction t with
  |zero=>simp_all
  |succ t ih=>
   grind
 have between:∀n a,a+n<=ops.size->(∀j,a<=j->j<a+n->M j=false)->HH (a+n)=HH a:=by
  intro n
  induction n with
  |zero=>intro a _ _;rfl
  |succ n ih=>
   intro a ha yh;rw[show a+(n+1)=a+n+1 by omega,still (a+n) (by omega) (yh _ (by omega) (by omega))];exact ih a (by omega) (fun j h1 h2=>yh j h1 (by omega))
 have py:=aOl yc;have T:TraceF E ops F HH V M (fun i=>fl.contains i):=by
  refine⟨⟨zg,fun i o ho=>(zb i o ho).2⟩,fun i o ho zq=>?_,fun i o ho zq=>?_,still,fun i j yq hj yy zo=>?_,fun k i j hk hi hj dy zq zo hb=>?_,fun i j hi hj zq dz=>?_⟩
  ·have hi:=alt_of_getElem? ho;rcases(zb i o ho).1 with⟨h1,h2,h3,h4⟩|⟨h1,h2,h3,⟨vd,h4⟩,h5⟩|⟨h1,h2,h3,h4⟩|⟨h1,h2,_,_,⟨c,args,h3,h4⟩|⟨hF,_⟩⟩
   ·simp_all
   ·refine .inr (.inl ⟨h1,h2,vd,fun t ht hb ha=>?_⟩);rcases h5 rfl with hp|hp|hp
    ·grind [vH]
    ·have pz:∀j,j<ops.size->M j=true->(j<t↔j<i):=by
      intro j hj zo;have d5:=(mainW j hj zo).1;simp only[fF,List.all_eq_true] at hp;have:=hp j d5;simp only[Bool.or_eq_true,QB,Nat.blt,Nat.ble_eq] at this
      grind
     have:HH t=HH i:=by
      rcases Nat.le_total t i with qf|qf
      ·have e:=between (i - t) t (by omega) (fun j h1 h2=>by
        grind)
       simp_all
      ·have e:=between (t - i) i (by omega) (fun j h1 h2=>by
        grind)
       simp_all
     rw[this];exact h4
    simp_all
   ·simp_all
   ·exact .inr (.inr (.inr ⟨h1,h2,c,args,h3,h4⟩))
   ·cases hF
  ·obtain⟨ty,d2,q1,q2,q3⟩:=py.1 i o ho (by simpa using zq);have sw:aM ops (bX (F i)) o=true:=by unfold aM;rw[q2]
   rcases(zb i o ho).1 with⟨h1,_⟩|⟨_,_,_,⟨vd,_⟩,_⟩|⟨h1,h2,h3,h4⟩|⟨_,_,_,_,⟨c,args,h3,_⟩|⟨hF,_⟩⟩
   ·rw[sw] at h1;cases h1
   ·rw[q1] at vd;simp only[bY] at vd;cases vd
   ·rw[q1] at h4;simp only[aop,sK] at h4;split at h4
    ·rename_i ii v8;split at h4
     ·rename_i z hz;simp only[aEp,Option.some.injEq,Prod.mk.injEq] at h4;exact⟨h2,sw,d2,none,_,q3,h4.1.symm,h4.2.symm,aAe E v8 hz q1 _⟩
     ·cases h4
    ·cases h4
   ·rw[q1] at h3;simp only[bM] at h3;cases h3
   ·cases hF
  ·have m1:=(mainW i (by omega) yy).1;have m2:=(mainW j hj zo).1;exact yB zm zn i j m1 m2 yq
  ·exact py.2.1 k i j hk (by simpa using dy) (by simpa using zq) (mainW j (by omega) zo).1 hj hb
  ·exact py.2.2 i j (by simpa using zq) (by simpa using dz)
 have:=T.region hm w0s (Q:=fun e' g' K'=>e'=.normal/\g'=g/\K'=K) (by simp only[F,HH,jc];exact⟨trivial,rfl,rfl⟩) id;rw[sx.1,sx.2] at this;exact this
end
section
variable {P:PG}{E:Env P}{S H0:AH}{A0 A:NQ}{L:OL}{K:AQ}
theorem aEu{ops:OA}{id:Nat}{f:Fr}(hm:P.follows .mixedOrders=true)(ms fl:NL)(Lw:OL)(jd:Lw.Sublist L)(zg:cE ops (bef ops)=true)(zm:jC (bef ops) fl ms=true)(yc:aVo ops (bef ops) ms fl=true)(zn:ms.Pairwise (·<·))
 (h:SO E ⟨true,ops,ms,S,A0,H0,A,Lw⟩ 0 ops.toList (fun f H=>K .normal f H) f H0 A L):SX P (.region id ops true) K f S A0 H0 A L:=by
 intro H hH;have hW:HS S H0 A0 A Lw H:=hH.subl jd;obtain⟨Ls,g,K',hr,hq⟩:=h (fun _=>⟨fun p hp=>jd.subset hp,hW.dist,fun j hj=>⟨hj,rfl⟩,rfl⟩) H hH;exact⟨.normal,g,K',hq,hr.drawF hm zg fl zm zn yc hW id⟩
end
end Go.AM
