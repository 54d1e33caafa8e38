/-
  An abstract machine that runs a program of the given form, and its soundness, part 6.
-/
import Derived.Test.YtfcmggoiphphnaaGreatDoorAb5
import GoSem.ClaimJoined
import Derived.Lib.SlicesCompact
set_option linter.unusedVariables false
set_option linter.unusedSimpArgs false
set_option linter.unusedSectionVars false
noncomputable section
namespace Go.AM
open Go.RowKit
variable [σ:Sg]
variable [γ:Gam]
theorem aCe{w:World}{a:Addr}:∀(n i m:Nat) (xs ys:VL),aX w a i n=some xs->aX w a (i+n) m=some ys->aX w a i (n+m)=some (xs++ys):=by
 intro n
 induction n with
 |zero=>intro i m xs ys h k;simp[aX] at h;subst h;simpa using k
 |succ n ih=>
  intro i m xs ys h k;simp only[aX] at h;split at h
  ·rename_i v hv;split at h
   ·rename_i r hr;cases h;have:=ih (i+1) m r ys hr (by rw[show i+1+n=i+(n+1) by omega];exact k);rw[show n+1+m=(n+m)+1 by omega];simp only[aX,hv,this,List.cons_append]
   ·cases h
  ·cases h
theorem aKb{H:AH}{p:Addr}{n m:Nat}{xs ys:VL}(h:aloads H p n=some xs)(k:aloads H (p.add n) m=some ys):aloads H p (n+m)=some (xs++ys):=by
 have hx:=gC h;have hy:=gC k;by_cases hn:n=0
 ·subst hn;have:xs=[]:=List.eq_nil_of_length_eq_zero hx;subst this;rw[show p.add 0=p from by unfold Addr.add;simp] at k;simpa using k
 ·by_cases hm:m=0
  ·subst hm;have:ys=[]:=List.eq_nil_of_length_eq_zero hy;subst this;simpa using h
  ·unfold aloads at h k ⊢;rw[show Nat.beq n 0=false by(cases n with|zero=>exact absurd rfl hn|succ n=>rfl),QF] at h;rw[show Nat.beq m 0=false by(cases m with|zero=>exact absurd rfl hm|succ n=>rfl),QF,bT] at k;rw[show Nat.beq (n+m) 0=false by(cases n with|zero=>exact absurd rfl hn|succ n=>rw[Nat.succ_add];rfl),QF];cases hb:Nat.beq (p.block%2) 0 with
   |true=>
    rw[hb,QT] at h k;rw[QT];have e:=wE p n;rw[bT] at e;rw[e,mG,Nat.add_zero] at k;exact aCe n 0 m xs ys h (by rw[Nat.zero_add];exact k)
   |false=>
    rw[hb,QF] at h k;rw[QF];split at h
    ·rename_i cs sz ex hg;rw[hg] at k;simp only at k;rw[iF] at k;cases qf:Nat.ble (p.off+n+m) cs.length with
     |true=>
      rw[qf,QT] at k;have hl:=QL qf;rw[Nat.ble_eq_true_of_le (show p.off+n<=cs.length by omega),QT] at h;rw[Nat.ble_eq_true_of_le (show p.off+(n+m)<=cs.length by omega),QT];cases h;cases k;rw[<-List.drop_drop,List.take_add]
     |false=>rw[qf] at k;cases k
    ·rename_i hg;rw[hg] at k;simp only at k;split at h
     ·rename_i c hc;rw[hc] at k;simp only at k;rw[iF] at k;cases qf:Nat.ble (p.off+n+m) c.1.length with
      |true=>
       rw[qf,QT] at k;have hl:=QL qf;rw[Nat.ble_eq_true_of_le (show p.off+n<=c.1.length by omega),QT] at h;rw[Nat.ble_eq_true_of_le (show p.off+(n+m)<=c.1.length by omega),QT];cases h;cases k;rw[<-List.drop_drop,List.take_add]
      |false=>rw[qf] at k;cases k
     ·cases h
    ·cases h
section
variable {A:NQ}{H:AH}
theorem RowD.whole{b:Nat}{ks:KL}{l:LX}{p:Addr}{cap:Nat}(h:RowD A H b ks l (some p) cap):∀m,m<=l.length->∃cells,aloads H p (m*ks.length)=some cells/\cells.length=m*ks.length/\∀i c,i<m->l[i]?=some c->CellsA A H ks ((cells.drop (i*ks.length)).take ks.length) c:=by
 intro m
 induction m with
 |zero=>intro _;exact⟨[],by simp[aloads],by simp,fun i c hi=>absurd hi (Nat.not_lt_zero _)⟩
 |succ m ih=>
  intro hm;obtain⟨cells,h1,h2,h3⟩:=ih (by omega);obtain⟨p',xs,c,e1,e2,e3,e4,e5⟩:=h.at' m (by omega);cases e1;have nc:=gC e4;refine⟨cells++xs,?_,?_,fun i c' hi hc=>?_⟩
  ·rw[Nat.add_mul,Nat.one_mul];exact aKb h1 e4
  ·rw[List.length_append,h2,nc,Nat.add_mul,Nat.one_mul]
  ·by_cases nd:i<m
   ·have qf:(i+1)*ks.length<=m*ks.length:=Nat.mul_le_mul_right _ nd;rw[Nat.add_mul,Nat.one_mul] at qf;rw[List.drop_append_of_le_length (by omega),List.take_append_of_le_length (by rw[List.length_drop];omega)];exact h3 i c' nd hc
   ·obtain rfl:i=m:=by omega
    rw[e3] at hc;cases hc;rw[List.drop_append,h2,Nat.sub_self,List.drop_zero,List.drop_eq_nil_of_le (by omega),List.nil_append,List.take_of_length_le (by omega)];exact e5
end
section
variable {P:PG}{E:Env P}{G:RG}{i n d:Nat}{r:OL2}{Q:FQ}{t:Tr Value}{l:LV}{S H0:AH}{A0 A:NQ}{L L':OL}{v u:Value}
 {ty:TY}{ps:String}{af:Array Edge}{gd:OB}{x y z:Operand}
omit [γ:Gam] in
def lH(S H0:AH)(A0 A:NQ)(L:OL)(sz m:Nat)(x:Value)(new:VL):Prop:=hY x=some m/\new.length=m*sz/\(∀H,HS S H0 A0 A L H->cQ sz m x H=some new)/\aUt x=false
theorem aNa{K sz sz' m cap:Nat}{cs:VL}{ex:Bool}(hm:(K,AObj.cells cs sz' ex)∈L)(hl:cs.length=m*sz):lH S H0 A0 A L sz m (.slice (some ⟨2*K+1,0,none⟩) m cap) cs:=
 ⟨rfl,hl,fun H hH=>by
  simp only[cQ];rw[dH (hH.own _ hm).1 0 (m*sz) none (by omega)];simp[<-hl],rfl⟩
theorem aIy{sz m cap:Nat}{p:Addr}{cs:VL}(hA:InA A p.block)(hl:aloads H0 p (m*sz)=some cs):lH S H0 A0 A L sz m (.slice (some p) m cap) cs:=
 ⟨rfl,gC hl,fun H hH=>by simp only[cQ];rw[hH.gr.aloads hA];exact hl,rfl⟩
theorem aAw{m:Nat}{s:BA}{cs:VL}(hm:s.data.toList.length=m)(hc:(s.data.toList.map fun b=>Value.int .u8 b.toNat)=cs)(H:AH):hY (.string s)=some m/\cs.length=m*1/\cQ 1 m (.string s) H=some cs:=
 ⟨by simp only[hY,hm],by rw[<-hc,List.length_map,hm,Nat.mul_one],by simp only[cQ];rw[<-hc,<-hm,List.take_length]⟩
theorem aYw{c:Call}{e sT xT:TY}{dx:TypeDesc}{ii:TI}{zv:Value}{base:Option Addr}{sl sc:Nat}{w:Value}{new:VL}(hw:gok G.ops l gd=true)(qd:Nat.ble (d+1) n=true)(hm:G.D=true->i∈G.ms)(hc:c.callee=.builtin .append)(ha:c.args.toList=[x,y])(ht:c.argTypes.toList=[sT,xT])
 (hx:opv l x=some (.slice base sl sc))(hy:opv l y=some w)(hu:E.und sT=some (.slice e))(xr:E.und xT=some dx)(z5:eR dx=false)(hi:E.inf e=some ii)(hz:ii.zero=some zv)(hs:ii.size≠0)(hf:lH G.S H0 G.A0 A L ii.size 0 w new)(qf:sl<=sc)
 (h:SO E G (i+1) r Q (fr n t ((d,.slice base sl sc)::l)) H0 A L):SO E G i (⟨some d,.call c,ty,ps,af,gd⟩::r) Q (fr n t l) H0 A L:=
 dM hw rfl qd hm fun hD H hH=>by
  refine⟨_,H,H0,A,L,.inl ?_,hH,hD,h⟩;have e1:(Nat.beq ii.size 0||ii.zero.isNone)=false:=by
   rw[hz];cases hq:ii.size with
   |zero=>exact absurd hq hs
   |succ k=>rfl
  simp only[aop,hc,ha,ht,fE,aG hx,aG hy,hu,xr,z5,QF,hi,hf.1,e1,hf.2.2.1 H hH,show Nat.beq 0 0=true from rfl,QT,Nat.ble_eq_true_of_le qf]
theorem aAh{c:Call}{e sT xT:TY}{dx:TypeDesc}{ii:TI}{zv:Value}{base:Option Addr}{sl m sz bt:Nat}{w:Value}{old new cs':VL}(hw:gok G.ops l gd=true)(qd:Nat.ble (d+1) n=true)(hm:G.D=true->i∈G.ms)(hc:c.callee=.builtin .append)(ha:c.args.toList=[x,y])(ht:c.argTypes.toList=[sT,xT])
 (hx:opv l x=some (.slice base sl sl))(hy:opv l y=some w)(hu:E.und sT=some (.slice e))(xr:E.und xT=some dx)(z5:eR dx=false)(hi:E.inf e=some ii)(hz:ii.zero=some zv)(hs:ii.size=sz)(yo:sz≠0)(wm:ii.bytes=bt)(wj:m≠0)(hf:lH G.S H0 G.A0 A L sz m w new)
 (ho:(base=none/\sl=0/\old=[])\/∃N,base=some ⟨2*N+1,0,none⟩/\(N,AObj.cells old sz true)∈L/\old.length=sl*sz)(yi:iB (sl+m) bt=true)(ym:sl+m<=140737488355328)(ya:old++new=cs'){k:Nat}(hk:sl+m=k)
 (h:∀M,SO E G (i+1) r Q (fr n t ((d,.slice (some ⟨2*M+1,0,none⟩) k k)::l)) H0 A ((M,.cells cs' sz false)::L)):SO E G i (⟨some d,.call c,ty,ps,af,gd⟩::r) Q (fr n t l) H0 A L:=by
 subst hs;subst wm;subst ya;subst hk;refine nJ (f:=fun N=>.slice (some ⟨2*N+1,0,none⟩) (sl+m) (sl+m)) hw rfl qd hm (fun H hH=>?_) h;have e1:(Nat.beq ii.size 0||ii.zero.isNone)=false:=by
  rw[hz];cases hq:ii.size with
  |zero=>exact absurd hq yo
  |succ k=>rfl
 have e2:Nat.beq m 0=false:=by cases m with|zero=>exact absurd rfl wj|succ k=>rfl
 have e3:Nat.ble (sl+m) sl=false:=by
  cases hq:Nat.ble (sl+m) sl with
  |false=>rfl
  |true=>have:=QL hq;omega
 have qe:=hf.2.1;rcases ho with⟨rfl,rfl,rfl⟩|⟨N,rfl,yg,sy⟩
 ·simp only[aop,hc,ha,ht,fE,aG hx,aG hy,hu,xr,z5,QF,hi,hf.1,e1,hf.2.2.1 H hH,e2];have e4:(iB (0+m) ii.bytes&&(Nat.ble (0+m) 140737488355328&&(Nat.beq ([]:VL).length (0*ii.size)&&Nat.beq new.length (m*ii.size))))=true:=by
   simp only[QB];exact⟨yi,Nat.ble_eq_true_of_le ym,by simp,by rw[qe];simp⟩
  simp only[show(Nat.beq 0 0&&Nat.beq 0 0)=true from rfl,QT,dD,cQ,show Nat.beq 0 0=true from rfl,e4,cG,show pM e w ii.size=ii.size by(unfold pM;rw[hf.2.2.2];rfl)];rfl
 ·have hg:H.tr.get N=some (.cells old ii.size true):=(hH.own _ yg).1;have e5:Nat.ble (old.length+1) (0+(sl+m)*ii.size)=true:=by
   refine Nat.ble_eq_true_of_le ?_;have:(sl+m)*ii.size=sl*ii.size+m*ii.size:=Nat.add_mul ..;have h1:1<=m*ii.size:=Nat.mul_pos (Nat.pos_of_ne_zero wj) (Nat.pos_of_ne_zero yo);omega
  have e6:aloads H ⟨2*N+1,0,none⟩ (sl*ii.size)=some old:=by
   rw[dH hg 0 _ none (by omega)];simp[<-sy]
  have e7:cQ ii.size sl (.slice (some ⟨2*N+1,0,none⟩) sl sl) H=some old:=by simp only[cQ];exact e6
  have e4:(iB (sl+m) ii.bytes&&(Nat.ble (sl+m) 140737488355328&&(Nat.beq old.length (sl*ii.size)&&Nat.beq new.length (m*ii.size))))=true:=by
   simp only[QB];exact⟨yi,Nat.ble_eq_true_of_le ym,by rw[sy];simp,by rw[qe];simp⟩
  simp only[aop,hc,ha,ht,fE,aG hx,aG hy,hu,xr,z5,QF,hi,hf.1,e1,hf.2.2.1 H hH,e2,dR,eL,hg,show lE ii.size ii.size e=true by simp[lE],QT,e3,e5,dD,e7,e4,cG]
theorem aPe{c:Call}{e sT xT:TY}{dx:TypeDesc}{ii:TI}{zv:Value}{N sl m sz bt:Nat}{w:Value}{old new cs':VL}(hw:gok G.ops l gd=true)(qd:Nat.ble (d+1) n=true)(hm:G.D=true->i∈G.ms)(hc:c.callee=.builtin .append)(ha:c.args.toList=[x,y])(ht:c.argTypes.toList=[sT,xT])
 (hx:opv l x=some (.slice (some ⟨2*N+1,0,none⟩) sl sl))(hy:opv l y=some w)(hu:E.und sT=some (.slice e))(xr:E.und xT=some dx)(z5:eR dx=false)(hi:E.inf e=some ii)(hz:ii.zero=some zv)(hs:ii.size=sz)(yo:sz≠0)(wm:ii.bytes=bt)(wj:m≠0)(hf:lH G.S H0 G.A0 A L sz m w new)
 (hr:Rem N (.cells old sz false) L L')(sy:old.length=sl*sz)(h1:aZ new=true)(yi:iB (sl+m) bt=true)(ym:sl+m<=140737488355328)(ya:old++new=cs')(qo:G.D=true->G.Lw.Sublist L'){k:Nat}(hk:sl+m=k)
 (h:∀M,SO E G (i+1) r Q (fr n t ((d,.slice (some ⟨2*M+1,0,none⟩) k k)::l)) H0 A ((M,.cells cs' sz false)::L')):SO E G i (⟨some d,.call c,ty,ps,af,gd⟩::r) Q (fr n t l) H0 A L:=by
 subst hs;subst wm;subst ya;subst hk;refine dM hw rfl qd hm fun hD H hH=>?_;have e1:(Nat.beq ii.size 0||ii.zero.isNone)=false:=by
  rw[hz];cases hq:ii.size with
  |zero=>exact absurd hq yo
  |succ k=>rfl
 have e2:Nat.beq m 0=false:=by cases m with|zero=>exact absurd rfl wj|succ k=>rfl
 have e3:Nat.ble (sl+m) sl=false:=by
  cases hq:Nat.ble (sl+m) sl with
  |false=>rfl
  |true=>have:=QL hq;omega
 have hg:H.tr.get N=some (.cells old ii.size false):=(hH.own _ hr.mem).1;have hk:=(hH.kill hr).push (.cells (old++new) ii.size false);refine⟨_,_,H0,A,(H.nx,.cells (old++new) ii.size false)::L',.inl ?_,hk,(hD.list qo).push _,h H.nx⟩;have e4:(Nat.beq (0+sl*ii.size) old.length&&(iB (sl+m) ii.bytes&&(Nat.ble (sl+m) 140737488355328&&(Nat.beq new.length (m*ii.size)&&aZ new))))=true:=by
  simp only[QB];exact⟨by rw[sy];simp,yi,Nat.ble_eq_true_of_le ym,by rw[hf.2.1];simp,h1⟩
 simp only[aop,hc,ha,ht,fE,aG hx,aG hy,hu,xr,z5,QF,hi,hf.1,e1,hf.2.2.1 H hH,e2,dR,eL,hg,show lE ii.size ii.size e=true by simp[lE],QT,e3,e4,cG,List.drop_zero]
theorem aNi{ta:TY}{ok:Bool}{m:Value}{k:Value}(hw:gok G.ops l gd=true)(qd:Nat.ble (d+1) n=true)(hx:opv l x=some m)(hy:opv l y=some k)(hl:∀H,HS G.S (qH G H0) G.A0 (qA G A) (qL G L) H->eH E ta m k ok H=some v)
 (h:SO E G (i+1) r Q (fr n t ((d,v)::l)) H0 A L):SO E G i (⟨some d,.lookup ta x y ok,ty,ps,af,gd⟩::r) Q (fr n t l) H0 A L:=
 iU rfl hw rfl qd (fun H hH=>by simp only[aop,aG hx,aG hy,qC,aFz (hl H hH),aL]) h
theorem aPp{ta kt et:TY}{N:Nat}{es es':List (Value×Value×Nat)}{cl cl':Nat}{k w:Value}{dk:TypeDesc}(hw:gok G.ops l gd=true)(hm:G.D=true->i∈G.ms)(hx:opv l x=some (.map (some (2*N+1))))(hy:opv l y=some k)(hz:opv l z=some w)(hu:E.und ta=some (.map kt et))(hk:E.und kt=some dk)(pc:dJ dk k=true)
 (gz:Upd N (.map es cl) (.map es' cl') L L')(hf:(∃j b,iQ dk k es 0=some (some (j,b))/\es'=es.modify j (fun e=>(k,w,e.2.2))/\cl'=cl)\/(iQ dk k es 0=some none/\es'=es++[(k,w,cl)]/\cl'=cl+1))(hD:G.D=true->G.Lw.Sublist L')
 (h:SO E G (i+1) r Q (fr n t l) H0 A L'):SO E G i (⟨none,.mapUpdate ta x y z,ty,ps,af,gd⟩::r) Q (fr n t l) H0 A L:=
 aLh hw rfl hm fun wi H hH=>by
  refine⟨undef,_,H0,A,L',.inl ?_,hH.set gz,wi.list hD,h⟩;have hg:H.tr.get N=some (.map es cl):=(hH.own _ gz.mem).1;rcases hf with⟨j,b,h1,rfl,rfl⟩|⟨h1,rfl,rfl⟩
  ·simp only[aop,aG hx,aG hy,aG hz,eZ,orE,eV,hu,dR,QF,hk,eL,hg,pc,QT,h1]
  ·simp only[aop,aG hx,aG hy,aG hz,eZ,orE,eV,hu,dR,QF,hk,eL,hg,pc,QT,h1]
end
theorem oX{a b:VL}(ha:aZ a=true)(hb:aZ b=true):aZ (a++b)=true:=by
 induction a with
 |nil=>exact hb
 |cons v r ih=>simp only[aZ,QB] at ha;simp only[List.cons_append,aZ,QB];exact⟨ha.1,ih ha.2⟩
theorem sU{l:VL}(h:∀v∈l,v.oneCell'=true):aZ l=true:=by
 induction l with
 |nil=>rfl
 |cons v r ih=>simp only[aZ,QB];exact⟨h v (List.mem_cons_self ..),ih fun u hu=>h u (List.mem_cons_of_mem _ hu)⟩
theorem pN{l:VL}(h:aZ l=true):∀v∈l,v.oneCell'=true:=by
 induction l with
 |nil=>intro v hv;cases hv
 |cons u r ih=>
  simp only[aZ,QB] at h;intro v hv;rcases List.mem_cons.1 hv with rfl|hv
  ·exact h.1
  ·exact ih h.2 v hv
theorem aWf{cells:VL}{m sz:Nat}(hl:cells.length=m*sz)(hs:sz≠0)(h:∀i,i<m->aZ ((cells.drop (i*sz)).take sz)=true):aZ cells=true:=by
 refine sU fun v hv=>?_;obtain⟨j,hj,rfl⟩:=List.getElem_of_mem hv;have oa:0<sz:=Nat.pos_of_ne_zero hs;have hi:j / sz<m:=by
  rw[Nat.div_lt_iff_lt_mul oa,<-hl];exact hj
 have:=pN (h (j / sz) hi) cells[j];refine this (List.mem_of_getElem? (i:=j%sz) ?_);rw[List.getElem?_take,if_pos (Nat.mod_lt _ oa),List.getElem?_drop,Nat.mul_comm,Nat.div_add_mod];exact List.getElem?_eq_getElem hj
section
variable {A A':NQ}{H H':AH}{ks:KL}{ex:Nat->Bool}{x y:Nat->Value}{c:Nat->CT}
theorem tQ{n:Nat}{x:Nat->Value}:((cellsOf n x).drop 0).take n=cellsOf n x:=by
 rw[List.drop_zero,List.take_of_length_le (by rw[aV];exact Nat.le_refl _)]
end
end Go.AM
namespace Go.AM
open Go.RowKit
variable [σ:Sg]
def aEf(P:PG)(f:TY->Option KL):List Field->Nat->Option KL
 |[],_=>some []
 |fd::fs,off=>
  match f fd.type,aEf P f fs (off+P.cellsOf fd.type) with
  |some ks,some r=>bif Nat.beq fd.offset off&&Nat.beq ks.length (P.cellsOf fd.type) then some (ks++r) else none
  |_,_=>none
def yM(P:PG):Nat->TypeId->Option KL
 |0,_=>none
 |n+1,t=>
  match P.underlying t with
  |some (.int k)=>some [.int k]
  |some .bool=>some [.bool]
  |some .string=>some [.str]
  |some (.slice e)=>(match yM P n e with
   |some ks=>bif Nat.beq ks.length (P.cellsOf e)&&Nat.ble 1 (P.bytesOf e) then some [.row (P.bytesOf e) ks] else none
   |none=>none)
  |some (.struct fs)=>(match aEf P (yM P n) fs.toList 0 with
   |some ks=>bif Nat.beq ks.length (P.cellsOf t) then some ks else none
   |none=>none)
  |some (.array m e)=>(match yM P n e with
   |some ks=>bif Nat.beq ks.length (P.cellsOf e)&&Nat.beq (m*ks.length) (P.cellsOf t) then some (List.replicate m ks).flatten else none
   |none=>none)
  |_=>none
theorem aGp{α:Type}{Q:Nat->α->Prop}:∀n,(∀i,i<n->∃c,Q i c)->∃l:List α,l.length=n/\∀(i:Nat) c,l[i]?=some c->Q i c:=by
 intro n
 induction n with
 |zero=>intro _;exact⟨[],rfl,fun i c h=>by simp at h⟩
 |succ n ih=>
  intro h;obtain⟨l,h1,h2⟩:=ih fun i hi=>h i (by omega);obtain⟨c,hc⟩:=h n (by omega);refine⟨l++[c],by simp[h1],fun i d hd=>?_⟩;by_cases hi:i<n
  ·rw[List.getElem?_append_left (by omega)] at hd;exact h2 i d hd
  ·rw[List.getElem?_append_right (by omega)] at hd;have h0:i - l.length=0:=by have:=lt_of_getElem? hd;simp at this;omega
   rw[h0] at hd;simp at hd;subst hd;rw[show i=n by omega];exact hc
theorem aMa{α β:Type}{f:α->Option β}:∀{l:List α} {r:List β},l.mapM f=some r->r.length=l.length/\∀(i:Nat) x,l[i]?=some x->∃y,r[i]?=some y/\f x=some y:=by
 intro l
 induction l with
 |nil=>intro r h;simp at h;subst h;exact⟨rfl,fun i x h=>by simp at h⟩
 |cons a l ih=>
  intro r h;simp only[List.mapM_cons,Option.bind_eq_bind,Option.pure_def] at h;cases ha:f a with
  |none=>rw[ha] at h;simp at h
  |some y=>
   cases hl:l.mapM f with
   |none=>rw[ha,hl] at h;simp at h
   |some r'=>
    rw[ha,hl] at h;simp at h;subst h;obtain⟨h1,h2⟩:=ih hl;refine⟨by simp[h1],fun i x hx=>?_⟩;cases i with
    |zero=>simp at hx;subst hx;exact⟨y,rfl,ha⟩
    |succ i=>exact h2 i x (by simpa using hx)
theorem aFc(a b:VL):extL (a++b)=extL a++extL b:=by
 induction a with
 |nil=>simp[extL]
 |cons x a ih=>simp[extL,ih]
section
variable {T:Type}{enc:TypeId×Value->T}{P:PG}{W:World}
theorem mS{e:TY}:∀{l:List (DataW T)} {d:DataW T},d∈l->∀w∈d.weights P e,w∈DataW.weightsAll P e l:=by
 intro l
 induction l with
 |nil=>intro d h;cases h
 |cons a l ih=>
  intro d h w hw;simp only[DataW.weightsAll,List.mem_append];rcases List.mem_cons.1 h with rfl|h
  ·exact .inl hw
  ·exact .inr (ih h w hw)
def aXb(enc:TypeId×Value->T)(P:PG)(W:World)(f:TY->Option KL):Prop:=∀(t:TY) (ks:KL) (fuel:Nat) (cs:VL) (x:DataW T×List MemPlace),f t=some ks->DataW.trod enc P W 0 (fun _=>true) true fuel t cs=some x->(∀w∈x.1.weights P t,w<=reachBytes)->∃c,CellsA (fun _=>False) (start W) ks (extL cs) c
theorem aDi{f:TY->Option KL}(IH:aXb enc P W f){fuel:Nat}{cs:VL}:∀(fs:List Field) (off:Nat) (ks:KL) (r:List (DataW T×List MemPlace)),aEf P f fs off=some ks->
 (fs.mapM fun f=>DataW.trod enc P W 0 (fun _=>true) true fuel f.type ((cs.drop f.offset).take (P.cellsOf f.type)))=some r->(∀w∈DataW.weightsEach P (fs.map (·.type)) (r.map (·.1)),w<=reachBytes)->
 ∃c,CellsA (fun _=>False) (start W) ks (extL ((cs.drop off).take ks.length)) c:=by
 intro fs
 induction fs with
 |nil=>intro off ks r hk _ _;simp only[aEf] at hk;cases hk;exact⟨[],by simp[extL,CellsA]⟩
 |cons fd fs ih=>
  intro off ks r hk hm hw;simp only[aEf] at hk;split at hk
  ·rename_i k1 k2 e1 e2;cases hb:(Nat.beq fd.offset off&&Nat.beq k1.length (P.cellsOf fd.type)) with
   |false=>rw[hb] at hk;cases hk
   |true=>
    rw[hb,QT] at hk;cases hk;obtain⟨b1,b2⟩:=Bool.and_eq_true_iff.1 hb;have b1:=QN b1;have b2:=QN b2;simp only[List.mapM_cons,Option.bind_eq_bind,Option.pure_def] at hm;cases h1:DataW.trod enc P W 0 (fun _=>true) true fuel fd.type ((cs.drop fd.offset).take (P.cellsOf fd.type)) with
    |none=>rw[h1] at hm;simp at hm
    |some y=>
     cases h2:(fs.mapM fun f=>DataW.trod enc P W 0 (fun _=>true) true fuel f.type ((cs.drop f.offset).take (P.cellsOf f.type))) with
     |none=>rw[h1,h2] at hm;simp at hm
     |some r'=>
      rw[h1,h2] at hm;simp at hm;subst hm;simp only[List.map_cons,DataW.weightsEach,List.mem_append] at hw;obtain⟨c1,rh⟩:=IH _ _ _ _ _ e1 h1 fun w h=>hw w (.inl h);obtain⟨c2,xt⟩:=ih _ _ _ e2 h2 fun w h=>hw w (.inr h);refine⟨c1++c2,?_⟩;rw[b1,<-b2] at rh;rw[<-b2,<-List.drop_drop] at xt;rw[List.length_append,List.take_add,aFc];exact rh.append xt
  ·cases hk
theorem aDs{f:TY->Option KL}(IH:aXb enc P W f){fuel e:Nat}{cs:VL}{ks:KL}(he:f e=some ks)(hl:ks.length=P.cellsOf e){m:Nat}{r:List (DataW T×List MemPlace)}
 (hm:((List.range m).mapM fun i=>DataW.trod enc P W 0 (fun _=>true) true fuel e ((cs.drop (i*P.cellsOf e)).take (P.cellsOf e)))=some r)(hw:∀w∈DataW.weightsAll P e (r.map (·.1)),w<=reachBytes):
 ∀j,j<=m->∃c,CellsA (fun _=>False) (start W) (List.replicate j ks).flatten (extL (cs.take (j*ks.length))) c:=by
 obtain⟨q1,q2⟩:=aMa hm;intro j
 induction j with
 |zero=>intro _;exact⟨[],by simp[extL,CellsA]⟩
 |succ j ih=>
  intro hj;obtain⟨c1,h1⟩:=ih (by omega);obtain⟨y,y1,y2⟩:=q2 j j (List.getElem?_range (by omega));obtain⟨c2,h2⟩:=IH _ _ _ _ _ he y2 fun w xq=>hw w (mS (List.mem_map.2 ⟨y,List.mem_of_getElem? y1,rfl⟩) w xq);refine⟨c1++c2,?_⟩;rw[<-hl] at h2;rw[List.replicate_succ',List.flatten_append,List.flatten_singleton,Nat.add_mul,Nat.one_mul,List.take_add,aFc];exact h1.append h2
theorem pS:∀(n:Nat),aXb enc P W (yM P n):=by
 intro n
 induction n with
 |zero=>intro t ks fuel cs x hk;simp[yM] at hk
 |succ n ih=>
  intro t ks fuel cs x hk h hw;cases fuel with
  |zero=>simp[DataW.trod] at h
  |succ fuel=>
   simp only[yM] at hk;split at hk
   ·rename_i k hu;cases hk;obtain⟨m,rfl,hm⟩:=Reads.int hu ⟨_,_,h⟩;exact⟨[.v (.int k m)],by simp only[extL,ext,CellsA,CellA];exact⟨⟨trivial,m,rfl,hm⟩,trivial⟩⟩
   ·rename_i hu;cases hk;obtain⟨m,rfl⟩:=Reads.bool hu ⟨_,_,h⟩;exact⟨[.v (.bool m)],by simp only[extL,ext,CellsA,CellA];exact⟨⟨trivial,m,rfl⟩,trivial⟩⟩
   ·rename_i hu;cases hk;obtain⟨m,rfl,hm⟩:=Reads.string hu ⟨_,_,h⟩;exact⟨[.v (.string m)],by simp only[extL,ext,CellsA,CellA];exact⟨⟨trivial,m,rfl,hm⟩,trivial⟩⟩
   ·rename_i e hu;split at hk
    ·rename_i k1 e1;cases hb:(Nat.beq k1.length (P.cellsOf e)&&Nat.ble 1 (P.bytesOf e)) with
     |false=>rw[hb] at hk;cases hk
     |true=>
      rw[hb,QT] at hk;cases hk;obtain⟨b1,b2⟩:=Bool.and_eq_true_iff.1 hb;have b1:=QN b1;have b2:=QL b2;unfold DataW.trod at h;rw[hu] at h;split at h<;>(try (rename_i h1 _;cases h1;done))<;>(try (rename_i h1;cases h1;done))
      ·exact⟨[.row []],by simp only[extL,ext,CellsA,CellA];exact⟨⟨Nat.zero_le _,by simp,.inl ⟨.inl trivial,trivial⟩⟩,trivial⟩⟩
      ·rename_i e' a len cap h1;cases h1;split at h
       ·rename_i hc;simp only at h;cases hm:(List.range len).mapM (fun i=>(W.cells? 0 (a.add (i*P.cellsOf e)) (P.cellsOf e)).bind (DataW.trod enc P W 0 (fun _=>true) true fuel e)) with
        |none=>rw[hm] at h;cases h
        |some r=>
         rw[hm,Option.bind_some] at h;simp only[if_true] at h;cases hr:(List.range (cap - len)).mapM (fun j=>(W.cells? 0 (a.add ((len+j)*P.cellsOf e)) (P.cellsOf e)).bind (DataW.trod enc P W 0 (fun _=>true) true fuel e)) with
         |none=>rw[hr] at h;cases h
         |some r'=>
          rw[hr,Option.map_some] at h;cases h;simp only[DataW.weights,hu,List.mem_cons,List.mem_append] at hw;obtain⟨q1,q2⟩:=aMa hm;rw[List.length_range] at q1;have qe:(r.length+r'.length)*P.bytesOf e<=140737488351232:=by have:=hw _ (.inl rfl);simpa [reachBytes] using this
          have ut:len*P.bytesOf e<=140737488351232:=Nat.le_trans (Nat.mul_le_mul_right _ (by omega)) qe;have ye:len<=140737488351232:=Nat.le_trans (Nat.le_mul_of_pos_right _ b2) ut;obtain⟨l,l1,l2⟩:∃l:LX,l.length=len/\∀(i:Nat) c,l[i]?=some c->∃xs,aloads (start W) ((bZ a).add (i*k1.length)) k1.length=some xs/\CellsA (fun _=>False) (start W) k1 xs c:=by
           refine aGp len fun i hi=>?_;obtain⟨y,y1,y2⟩:=q2 i i (List.getElem?_range hi);cases yd:W.cells? 0 (a.add (i*P.cellsOf e)) (P.cellsOf e) with
           |none=>rw[yd] at y2;cases y2
           |some lc=>
            rw[yd,Option.bind_some] at y2;obtain⟨p1,p2⟩:=cells?_read yd;obtain⟨c,zd⟩:=ih _ _ _ _ _ e1 y2 fun w xq=>hw w (.inr (.inl (mS (List.mem_map.2 ⟨y,List.mem_of_getElem? y1,rfl⟩) w xq)));refine⟨c,extL lc,?_,zd⟩;have h9:=aJd (H:=start W) p2;rw[p1] at h9;rw[b1,aEo];exact h9
          refine⟨[.row l],?_⟩;simp only[extL,ext,CellsA,CellA];refine⟨⟨by omega,by rw[l1];exact ut,.inr ⟨bZ a,cap,by rw[l1],by omega,⟨.inl (by simp[bZ]),fun h9=>by simp[bZ] at h9⟩,l2⟩⟩,trivial⟩
       ·cases h
      ·cases h
    ·cases hk
   ·rename_i fs hu;split at hk
    ·rename_i k1 e1;cases hb:Nat.beq k1.length (P.cellsOf t) with
     |false=>rw[hb] at hk;cases hk
     |true=>
      rw[hb,QT] at hk;cases hk;have b1:=QN hb;simp only[DataW.trod,hu] at h;split at h
      ·rename_i hc;cases hm:fs.toList.mapM (fun f=>DataW.trod enc P W 0 (fun _=>true) true fuel f.type ((cs.drop f.offset).take (P.cellsOf f.type))) with
       |none=>rw[hm] at h;cases h
       |some r=>
        rw[hm,Option.map_some] at h;cases h;simp only[DataW.weights,hu] at hw;obtain⟨c,zd⟩:=aDi ih _ _ _ _ e1 hm hw;rw[List.drop_zero,b1,<-hc,List.take_length] at zd;exact⟨c,zd⟩
      ·cases h
    ·cases hk
   ·rename_i m e hu;split at hk
    ·rename_i k1 e1;cases hb:(Nat.beq k1.length (P.cellsOf e)&&Nat.beq (m*k1.length) (P.cellsOf t)) with
     |false=>rw[hb] at hk;cases hk
     |true=>
      rw[hb,QT] at hk;cases hk;obtain⟨b1,b2⟩:=Bool.and_eq_true_iff.1 hb;have b1:=QN b1;have b2:=QN b2;simp only[DataW.trod,hu] at h;split at h
      ·rename_i hc;cases hm:(List.range m).mapM (fun i=>DataW.trod enc P W 0 (fun _=>true) true fuel e ((cs.drop (i*P.cellsOf e)).take (P.cellsOf e))) with
       |none=>rw[hm] at h;cases h
       |some r=>
        rw[hm,Option.map_some] at h;cases h;simp only[DataW.weights,hu] at hw;obtain⟨c,zd⟩:=aDs ih e1 b1 hm hw m (Nat.le_refl _);rw[b2,<-hc,List.take_length] at zd;exact⟨c,zd⟩
      ·cases h
    ·cases hk
   ·cases hk
end
end Go.AM
namespace Go.AM
open Go.RowKit
variable [σ:Sg]
variable [γ:Gam]
section
variable {P:PG}{E:Env P}{G:RG}{i n d:Nat}{r:OL2}{Q:FQ}{t:Tr Value}{l:LV}{H0:AH}{A:NQ}{L L':OL}{v:Value}
 {ty:TY}{ps:String}{af:Array Edge}{gd:OB}
theorem HS.less{S H0 H:AH}{A0 A:NQ}{L L1:OL}(h:HS S H0 A0 A L H)(hs:L1.Sublist L):HS S H0 A0 A L1 H:=⟨h.kept,h.base,h.w0,h.sub,h.lt,fun p hp=>h.own p (hs.subset hp),h.dist.sublist hs⟩
theorem aZp{f:Fr}{ops:OL2}{L1:OL}(hs:L1.Sublist L)(hD:G.D=true->G.Lw.Sublist L1)(h:SO E G i ops Q f H0 A L1):SO E G i ops Q f H0 A L:=fun wi H hH=>h (wi.list hD) H (hH.less hs)
theorem aPf{x y:Operand}{c:Call}{e sT xT:TY}{dx:TypeDesc}{ii:TI}{zv:Value}{N sl m sz bt:Nat}{w:Value}{old new cs':VL}{ex:Bool}(hw:gok G.ops l gd=true)(qd:Nat.ble (d+1) n=true)(hm:G.D=true->i∈G.ms)(hc:c.callee=.builtin .append)(ha:c.args.toList=[x,y])(ht:c.argTypes.toList=[sT,xT])
 (hx:opv l x=some (.slice (some ⟨2*N+1,0,none⟩) sl sl))(hy:opv l y=some w)(hu:E.und sT=some (.slice e))(xr:E.und xT=some dx)(z5:eR dx=false)(hi:E.inf e=some ii)(hz:ii.zero=some zv)(hs:ii.size=sz)(yo:sz≠0)(wm:ii.bytes=bt)(wj:m≠0)(hf:lH G.S H0 G.A0 A L sz m w new)
 (hr:Rem N (.cells old sz ex) L L')(sy:old.length=sl*sz)(h1:aZ new=true)(yi:iB (sl+m) bt=true)(ym:sl+m<=140737488355328)(ya:old++new=cs')(qo:G.D=true->G.Lw.Sublist L'){k:Nat}(hk:sl+m=k)
 (h:∀M,SO E G (i+1) r Q (fr n t ((d,.slice (some ⟨2*M+1,0,none⟩) k k)::l)) H0 A ((M,.cells cs' sz false)::L')):SO E G i (⟨some d,.call c,ty,ps,af,gd⟩::r) Q (fr n t l) H0 A L:=by
 cases ex with
 |false=>exact aPe hw qd hm hc ha ht hx hy hu xr z5 hi hz hs yo wm wj hf hr sy h1 yi ym ya qo hk h
 |true=>
  refine aAh hw qd hm hc ha ht hx hy hu xr z5 hi hz hs yo wm wj hf (.inr ⟨N,rfl,hr.mem,sy⟩) yi ym ya hk fun M=>?_;exact aZp (List.Sublist.cons_cons _ hr.sub) (fun h=>List.Sublist.cons _ (qo h)) (h M)
end
end Go.AM
namespace Go.AM
open Go.RowKit
variable [σ:Sg]
variable [γ:Gam]
section
variable {P:PG}{E:Env P}{G:RG}{i n d:Nat}{r:OL2}{Q:FQ}{t:Tr Value}{l:LV}{H0:AH}{A:NQ}{L L':OL}{v:Value}{x y:Operand}{gd:OB}{af:Array Edge}{ps:String}{ty:TY}
end
section
variable {A:NQ}{H:AH}
theorem uT{b:Nat}{ks:KL}:CellA A H (.row b ks) (.slice none 0 0) (.row []):=by
 simp only[CellA];simp_all
end
end Go.AM
namespace Go.AM
open Go.RowKit
variable [σ:Sg]
section
variable {P:PG}(E:Env P)
theorem aPt{t:TY}{len:Nat}{ps:Array (Nat×Operand)}{o:Oper}(qg:o.op=.buildSlice t len ps){ρ:Operand->Value}{H H':AH}{v:Value}(h:dL E t len (ps.toList.map fun x=>(x.1,ρ x.2)) H=some (v,H')):
 ∃ob,v=mkV (some len) (2*H.nx+1)/\H'=dC H ob/\xM P o ρ (some len) ob:=by
 unfold dL at h;split at h
 ·rename_i e hu;split at h
  ·rename_i i hi;cases hb:(Nat.ble (len*i.size) 16777216&&!(Nat.beq i.size 0)) with
   |false=>rw[hb] at h;cases h
   |true=>
    rw[hb,QT] at h;simp only[QB] at hb;have qf:=QL hb.1;split at h
    ·rename_i z hz;split at h
     ·rename_i out hf;cases qe:Nat.beq out.length (len*i.size) with
      |false=>rw[qe] at h;cases h
      |true=>
       rw[qe,QT] at h;cases h;have xl:=QN qe;refine⟨_,rfl,rfl,fun ρ' w φ hρ=>?_⟩
       have hv:∀x∈ps.toList,∀ψ,φ <+: ψ->VR ψ (ρ x.2) (ρ' x.2):=fun x hx ψ hψ=>
        (hρ x.2 (by rw[qg];show x.2∈(ps.toList.map (·.2)).toArray;grind)).mono hψ
       have gy:∀(ψ:PL),φ <+: ψ->∀(i n:Nat) (v:Value) (n':Nat) (v':Value),(ps.toList.map fun x=>(x.1,ρ x.2))[i]?=some (n,v)->(ps.toList.map fun x=>(x.1,ρ' x.2))[i]?=some (n',v')->n=n'/\VR ψ v v':=by
        grind
       obtain⟨out',h1,h2⟩:=mQ _ _ _ _ _ out (VRs.ext φ (cP (if len*i.size=0 then #[] else z.cells) (len*i.size))) (by simp) (gy φ (List.prefix_refl _)) hf;have zh:∀ψ,φ <+: ψ->VRs ψ out out':=fun ψ hψ=>by
        obtain⟨out2,q1,q2⟩:=mQ _ _ _ _ _ out (VRs.ext ψ (cP (if len*i.size=0 then #[] else z.cells) (len*i.size))) (by simp) (gy ψ hψ) hf
        simp_all
       refine⟨.cells out'.toArray e,out'.length,i.size,?_,fun n hn=>?_,fun ψ hψ=>?_⟩
       ·have d6:(ps.map fun(x:Nat×Operand)=>(x.1,ρ' x.2))=⟨ps.toList.map fun x=>(x.1,ρ' x.2)⟩:=by rw[<-Array.toList_inj];simp
        have qr:¬(16777216<len*i.size):=by omega
        simp only[cP,Array.toArray_toList] at h1;have run:(Instr.buildSlice t len ⟨ps.toList.map fun x=>(x.1,ρ' x.2)⟩).run P w=.ok (.slice (some ⟨w.heap.size,0,none⟩) len len) (w.alloc (.cells out'.toArray e)):=by
         by_cases xz:len*i.size=0
         ·rw[if_pos xz] at h1;simp[Instr.buildSlice,aE E hu,aH E hi,xz,newRow] at h1 ⊢;simp[h1]
         ·rw[if_neg xz] at h1;simp[Instr.buildSlice,aE E hu,aH E hi,qr,xz,bE E hi hz,h1,newRow]
        grind [execOp,Sem.run_bind,Result.andThen_ok,Sem.run_pure,mkV]
       ·cases hn;rw[<-(h2.1),xl,cF (E.sz_lt _ _ hi)];exact Nat.le_refl _
       ·have hc:=zh ψ hψ;refine⟨out'.toArray,e,0,0,rfl,fun k _=>by omega,by simp,⟨rfl,SzE.small (E.sz_lt _ _ hi),fun _=>rfl⟩,by simp[hc.1],fun _=>by simp[hc.1],?_⟩;rw[hc.1];simpa using hc
     ·cases h
    ·cases h
  ·cases h
 ·cases h
def qG(bs ms:NL):NL:=ms.filter fun j=>ms.any fun i=>Nat.blt i j&&!((bs.getD j 0).testBit i)
def uQ(f:Fr)(o:Oper):Bool:=
 match o.op with
 |.alloc _=>o.dst.isSome
 |.buildSlice _ _ _=>o.dst.isSome
 |_=>false
def aJk(ops:OA)(L:List fU)(fl:NL):Bool:=fl.all fun i=>match ops[i]?,L[i]? with
 |some o,some s=>uQ s.1 o
 |_,_=>false
def vO(n:Nat)(bs ms fl:NL):Bool:=
 ((List.range n).all fun k=>fl.contains k||fl.all fun i=>!((bs.getD k 0).testBit i)||ms.all fun j=>Nat.ble i j||(bs.getD k 0).testBit j)&&
 (fl.all fun i=>fl.all fun j=>!((bs.getD i 0).testBit j))
def vC(ops:OA)(L:List fU)(bs ms fl:NL):Bool:=jC bs fl ms&&(aJk ops L fl&&vO ops.size bs ms fl)
def gE(call:fW)(ops:OA)(f:Fr)(H:AH):Option (Fr×AH):=
 bif cE ops (bef ops) then
  (match hB E call ops ops.toList f H with
  |some (l,g,H')=>
   (match eJ 0 l with
   |[]=>some (g,H')
   |m::r=>bif (dO (bef ops) (m::r)||vC ops l (bef ops) (m::r) (qG (bef ops) (m::r)))&&nV E ops (bef ops) (m::r) ((0,H)::lG l H' (m::r)) 0 l then some (g,H') else none)
  |none=>none)
 else none
theorem vZ(bs:NL):∀ms:NL,jC bs [] ms=dO bs ms
 |[]=>rfl
 |i::r=>by simp[jC,dO,vZ bs r]
theorem aFb{ops:OA}{L:List fU}{ms:NL}(h:(dO (bef ops) ms||vC ops L (bef ops) ms (qG (bef ops) ms))=true):∃fl,(∀i∈fl,i∈ms)/\jC (bef ops) fl ms=true/\aJk ops L fl=true/\vO ops.size (bef ops) ms fl=true:=by
 rcases Bool.or_eq_true_iff.1 h with h|h
 ·exact⟨[],(fun i hi=>by cases hi),by rw[vZ];exact h,rfl,by simp[vO]⟩
 ·simp only[vC,QB] at h;exact⟨_,fun i hi=>(List.mem_filter.1 hi).1,h.1,h.2.1,h.2.2⟩
theorem aJy{n:Nat}{bs ms fl:NL}(h:vO n bs ms fl=true):
 (∀k i j,k<n->k∉fl->i∈fl->j∈ms->j<i->(bs.getD k 0).testBit i=true->(bs.getD k 0).testBit j=true)/\(∀i j,i∈fl->j∈fl->(bs.getD i 0).testBit j=false):=by
 simp only[vO,QB,List.all_eq_true] at h;obtain⟨h2,h3⟩:=h;refine⟨fun k i j hk iq hi hj yx hb=>?_,fun i j hi hj=>?_⟩
 ·have:=h2 k (List.mem_range.2 hk);simp only[Bool.or_eq_true,List.all_eq_true] at this;rcases this with q|q
  ·simp_all
  ·rcases q i hi with q|q
   ·rw[hb] at q;cases q
   ·rcases q j hj with q|q
    ·have:=QL q;omega
    ·exact q
 simp_all
theorem rO{call:fW}(qh:jV P call){ops:OA}{f g:Fr}{H K:AH}(h:gE E call ops f H=some (g,K)):∃F HH V M Fl,TraceF E ops F HH V M Fl/\(∀i,i<ops.size->(HH (i+1)).w0=(HH i).w0)/\F 0=f/\HH 0=H/\F ops.size=g/\HH ops.size=K:=by
 unfold gE at h;cases zg:cE ops (bef ops) with
 |false=>rw[zg] at h;cases h
 |true=>
  rw[zg,QT] at h;split at h
  ·rename_i L g' K' qt;obtain⟨qe,qv⟩:=aMz E _ _ _ _ _ _ qt;have ir:g'=g/\K'=K:=by
    grind
   obtain⟨rfl,rfl⟩:=ir;have xl:L.length=ops.size:=by omega
   let A:=L++[(g',K',undef,false)]
   let d:fU:=(g',K',undef,false)
   let F:=fun i=>(A.getD i d).1
   let HH:=fun i=>(A.getD i d).2.1
   let V:=fun i=>(A.getD i d).2.2.1
   let M:=fun i=>(A.getD i d).2.2.2
   have hA:∀i,i<ops.size->∃s,L[i]?=some s/\A.getD i d=s:=by
    grind
   have jc:A.getD ops.size d=d:=by
    grind
   have zb:∀i o,ops[i]?=some o->sY E call ops o (F i) (HH i)=some (V i,HH (i+1),M i)/\(F i).put o.dst (V i)=some (F (i+1)):=by
    grind
   have tz:∀i,i<ops.size->(M i=true↔i∈eJ 0 L):=by
    intro i hi;obtain⟨s,h1,h2⟩:=hA i hi;rw[jN]
    grind
   have sx:F 0=f/\HH 0=H:=by
    by_cases hz:ops.size=0
    ·have uw:ops.toList=[]:=List.eq_nil_of_length_eq_zero (by omega);rw[uw] at qt;simp[hB] at qt
     grind
    ·cases d7:ops.toList with
     |nil=>simp_all
     |cons o r=>
      rw[d7] at qt;simp only[hB] at qt
      grind
   have still:∀i,i<ops.size->M i=false->HH (i+1)=HH i:=by
    intro i hi hM;have ho:ops[i]?=some ops[i]:=Array.getElem?_eq_getElem hi;rcases cU E (zb i _ ho).1 with⟨_,_,_,h4⟩|⟨_,_,h4,_⟩|⟨_,h4,_⟩|⟨_,h4,_⟩
    ·exact h4
    ·exact h4
    ·rw[hM] at h4;cases h4
    simp_all
   have w0s:∀i,i<ops.size->(HH (i+1)).w0=(HH i).w0:=by
    intro i hi;have ho:ops[i]?=some ops[i]:=Array.getElem?_eq_getElem hi;rcases cU E (zb i _ ho).1 with⟨_,_,_,h4⟩|⟨_,_,h4,_⟩|⟨_,_,h4⟩|⟨_,_,c,args,_,h4⟩
    ·rw[h4]
    ·rw[h4]
    ·exact mT E h4
    ·exact(qh _ _ _ _ _ h4).1
   have yc:∃fl,(∀i∈fl,i∈eJ 0 L)/\jC (bef ops) fl (eJ 0 L)=true/\aJk ops L fl=true/\vO ops.size (bef ops) (eJ 0 L) fl=true:=by
    split at h
    ·rename_i uw;rw[uw];exact⟨[],(fun i hi=>by cases hi),rfl,rfl,by simp[vO]⟩
    ·rename_i m r g5;cases x7:((dO (bef ops) (m::r)||vC ops L (bef ops) (m::r) (qG (bef ops) (m::r)))&&nV E ops (bef ops) (m::r) ((0,H)::lG L K' (m::r)) 0 L) with
     |false=>rw[x7] at h;cases h
     |true=>
      simp only[QB] at x7
      grind [aFb]
   obtain⟨fl,d8,zm,je,jf⟩:=yc;have ux:=aJy jf;have T:TraceF E ops F HH V M (fun i=>fl.contains i):=by
    refine⟨⟨zg,fun i o ho=>(zb i o ho).2⟩,fun i o ho zq=>?_,fun i o ho zq=>?_,still,fun i j yq hj yy zo=>?_,fun k i j hk hi hj dy zq zo hb=>?_,fun i j hi hj zq dz=>?_⟩
    ·have hi:=alt_of_getElem? ho;rcases cU E (zb i o ho).1 with⟨h1,h2,h3,h4⟩|⟨h1,h2,h3,h4,h5⟩|⟨h1,h2,h3⟩|⟨h1,h2,c,args,h3,h4⟩
     ·simp_all
     ·refine .inr (.inl ⟨h1,h2,h4,fun t ht hb ha=>?_⟩);cases hp:dS E o.op with
      |true=>grind [vH]
      |false=>
       split at h
       ·-- no mains at all
        rename_i uw;have yh:∀j,j<ops.size->M j=false:=by
         intro j hj;cases zo:M j with
         |false=>rfl
         |true=>have:=(tz j hj).1 zo;rw[uw] at this;cases this
        have uy:∀k,k<=ops.size->HH k=HH 0:=by
         intro k
         induction k with
         |zero=>intro _;rfl
         |succ k ihk=>intro hk;rw[still k (by omega) (yh k (by omega))];exact ihk (by omega)
        rw[uy t ht,<-uy i (by omega)];exact h5
       ·rename_i m r g5;cases x7:((dO (bef ops) (m::r)||vC ops L (bef ops) (m::r) (qG (bef ops) (m::r)))&&nV E ops (bef ops) (m::r) ((0,H)::lG L K' (m::r)) 0 L) with
        |false=>rw[x7] at h;cases h
        |true=>
         simp only[QB] at x7;obtain⟨s,oc,yw⟩:=hA i hi;have hF:F i=s.1:=by simp only[F,yw]
         have hV:V i=s.2.2.1:=by simp only[V,yw]
         have hM:M i=s.2.2.2:=by simp only[M,yw]
         have hq:=aIp E L 0 x7.2 i s o oc (by rw[Nat.zero_add];exact ho) (by rw[<-hM];exact h2) hp (by rw[<-hF];exact h1);rw[Nat.zero_add] at hq
         -- the heap at t is one of those that were tried
         have u7:∃t',t'<=t/\HH t'=HH t/\(t',HH t')∈((0,H)::lG L K' (m::r))/\(∀j,j<ops.size->M j=true->j<t->j<t'):=by
          clear hb ha
          induction t with
          |zero=>exact⟨0,Nat.le_refl _,rfl,by rw[sx.2];exact List.mem_cons_self ..,fun j _ _ h=>h⟩
          |succ t iht=>
           cases d9:M t with
           |true=>
            refine⟨t+1,Nat.le_refl _,rfl,List.mem_cons_of_mem _ ?_,fun j _ _ h=>h⟩;have zy:=(tz t (by omega)).1 d9;rw[g5] at zy;have:=aEy (L:=L) (last:=K') zy;have e:HH (t+1)=(match L[t+1]? with|some s=>s.2.1|none=>K'):=by
             by_cases qm:t+1<ops.size
             ·obtain⟨s2,q1,q2⟩:=hA (t+1) qm;simp only[HH,q2,q1]
             ·have he:t+1=ops.size:=by omega
              have:L[t+1]?=none:=List.getElem?_eq_none (by omega);simp only[HH,he,jc,d];rw[<-he,this]
            rw[e];exact this
           |false=>
            obtain⟨t',r1,r2,r3,r4⟩:=iht (by omega);refine⟨t',by omega,by rw[r2,still t (by omega) d9],r3,fun j hj zo wl=>?_⟩;by_cases e:j=t
            ·subst e;rw[d9] at zo;cases zo
            ·exact r4 j hj zo (by omega)
         obtain⟨t',r1,r2,r3,r4⟩:=u7;have nf:=hq _ r3;simp only[aCp,Bool.or_eq_true,List.any_eq_true,QB,Bool.not_eq_true'] at nf;rcases nf with⟨j,hj,od,ki⟩|⟨j,hj,od,qm⟩|vi
         ·exfalso;rw[<-g5] at hj;obtain⟨ii,ss,q1,q2,rfl⟩:=(jN L 0 j).1 hj;have vj:0+ii<ops.size:=by have:=lt_of_getElem? q1;omega
          have zo:=(tz _ vj).2 hj;have:=r4 _ vj zo (hb _ vj zo od);have ui:Nat.blt (0+ii) t'=true:=by simp only[Nat.blt,Nat.ble_eq];omega
          rw[ui] at ki;cases ki
         ·exfalso;rw[<-g5] at hj;obtain⟨ii,ss,q1,q2,rfl⟩:=(jN L 0 j).1 hj;have vj:0+ii<ops.size:=by have:=lt_of_getElem? q1;omega
          have zo:=(tz _ vj).2 hj;have:=ha _ vj zo od;simp only[Nat.blt,Nat.ble_eq] at qm;omega
         ·rw[<-r2];split at vi
          ·rename_i u K2 hu;have e1:=aVz vi;have e2:=lF E h4 hu;rw[hF,hV,hu,e1,e2]
          ·cases vi
     ·exact .inr (.inr (.inl ⟨h1,h2,h3⟩))
     ·exact .inr (.inr (.inr ⟨h1,h2,c,args,h3,(qh _ _ _ _ _ h4).2⟩))
    ·-- makers
     have zy:i∈fl:=by simpa using zq
     have hi:=alt_of_getElem? ho;have yy:M i=true:=(tz i hi).2 (d8 i zy);obtain⟨s,oc,yw⟩:=hA i hi;have hF:F i=s.1:=by simp only[F,yw]
     have vu:uQ (F i) o=true:=by
      have:=List.all_eq_true.1 je i zy;simp only[ho,oc] at this;rw[hF];exact this
     rcases cU E (zb i o ho).1 with⟨_,_,h3,_⟩|⟨_,h3,_⟩|⟨h1,h2,h3⟩|⟨h1,h2,c,args,h3,_⟩
     ·rw[yy] at h3;cases h3
     ·rw[yy] at h3;cases h3
     ·unfold uQ at vu;split at vu
      ·rename_i ty qg;obtain⟨d2,ql⟩:=Option.isSome_iff_exists.1 vu;rw[qg] at h3;simp only[aop,sK] at h3;split at h3
       ·rename_i ii v8;split at h3
        ·rename_i z hz;simp only[aEp,Option.some.injEq,Prod.mk.injEq] at h3;exact⟨yy,h1,d2,none,_,ql,h3.1.symm,h3.2.symm,aAe E v8 hz qg _⟩
        ·cases h3
       ·cases h3
      ·rename_i t n ps qg;obtain⟨d2,ql⟩:=Option.isSome_iff_exists.1 vu;rw[qg] at h3;simp only[aop] at h3;obtain⟨ob,q1,q2,q3⟩:=aPt E qg h3;exact⟨yy,h1,d2,some n,ob,ql,q1,q2,q3⟩
      ·cases vu
     ·unfold uQ at vu;split at vu
      ·rename_i ty qg;rw[qg] at h3;simp only[bM] at h3;cases h3
      ·rename_i t n ps qg;rw[qg] at h3;simp only[bM] at h3;cases h3
      ·cases vu
    ·exact yB zm (xS L 0) i j ((tz i (by omega)).1 yy) ((tz j hj).1 zo) yq
    ·exact ux.1 k i j hk (by simpa using dy) (by simpa using zq) ((tz j (by omega)).1 zo) hj hb
    ·exact ux.2 i j (by simpa using zq) (by simpa using dz)
   exact⟨F,HH,V,M,fun i=>fl.contains i,T,w0s,sx.1,sx.2,by show(A.getD ops.size d).1=_;rw[jc],by show(A.getD ops.size d).2.1=_;rw[jc]⟩
  ·cases h
theorem aCq{call:fW}(qh:jV P call)(hm:P.follows .mixedOrders=true){ops:OA}{Q:AQ}{f g:Fr}{H K:AH}(hQ:Q .normal g K)(h:gE E call ops f H=some (g,K))(id:Nat):ACode P (.region id ops true) Q f H:=by
 obtain⟨F,HH,V,M,Fl,T,w0s,rfl,rfl,rfl,rfl⟩:=rO E qh h;exact T.region hm w0s hQ id
theorem qF{call:fW}(qh:jV P call){ops:OA}{f g:Fr}{H K:AH}(h:gE E call ops f H=some (g,K)):K.w0=H.w0:=by
 unfold gE at h;rcases aY h with h|h
 ·split at h
  ·rename_i L g' K' hr;split at h
   ·grind [aAc]
   ·rcases aY h with h|h
    ·grind [aAc]
    ·cases h
  ·cases h
 ·cases h
end
section
variable {P:PG}(E:Env P)
theorem mZ{ops:OA}{listed:Array Bool}{i:Nat}(h:i∈Region.ready .any ops listed):i<ops.size/\listed.getD i true=false:=by
 unfold Region.ready at h
 simp_all
theorem aGl{ops:OA}{listed:Array Bool}(zg:cE ops (bef ops)=true)(hs:listed.size=ops.size){i:Nat}(hi:i<ops.size)(hl:listed.getD i false=false):Region.ready .any ops listed≠[]:=by
 have key:∀n i,i<=n->i<ops.size->listed.getD i false=false->∃j,j∈Region.ready .any ops listed:=by
  intro n
  induction n using Nat.strongRecOn with
  |ind n ih=>
   intro i zy hi hl;by_cases yz:∃j,j<i/\listed.getD j false=false
   ·obtain⟨j,hj,iu⟩:=yz;exact ih j (by omega) j (Nat.le_refl _) (by omega) iu
   ·refine⟨i,?_⟩;unfold Region.ready;rw[List.mem_filter];refine⟨List.mem_range.2 hi,?_⟩;have ho:ops[i]?=some ops[i]:=Array.getElem?_eq_getElem hi;have qm:listed.getD i true=false:=by
     simp_all
    simp only[qm,ho,Option.map_some,Option.getD_some,Bool.not_false,Bool.true_and];rw[Array.all_eq_true'];intro e he;cases hb:Region.binds .any e with
    |false=>simp
    |true=>
     have iv:=fM zg ho he hb
     simp_all
 obtain⟨j,hj⟩:=key i i (Nat.le_refl _) hi hl
 grind
theorem aOv{ops:OA}{listed:Array Bool}(hs:listed.size=ops.size)(h:∀i,i<ops.size->listed.getD i false=true):Region.ready .any ops listed=[]:=by
 rw[List.eq_nil_iff_forall_not_mem];intro i hi;obtain⟨h1,h2⟩:=mZ hi
 simp_all
theorem jL{π:Pins}{ops:OA}{Q:Exit->Act->World->Prop}{i:Nat}{o:Oper}{K:Act->World->Prop}{f g:Fr}{H H':AH}{v:Value}{φ:PL}{a:Act}{w:World}(ho:ops[i]?=some o)(hg:o.guard=none)(qg:aop E (aK f) o.op H=some (v,H'))(hp:f.put o.dst v=some g)
 (hf:FRel φ f a)(hR:Rel φ H w)(next:∀φ' a' w',φ <+: φ'->FRel φ' g a'->Rel φ' H' w'->K a' w'):wpOp P ops Q i K a w:=by
 obtain⟨φ',v',w',h1,h2,h3,h4⟩:=aGw E hR (ρ:=aK f) (ρ':=a.eval) hf.eval qg;have xq:Region.wanted o (yielded ops a.tmps)=true:=by simp[Region.wanted,hg]
 have nx:K (a.put o.dst v') w':=next φ' _ w' h1 ((hf.mono h1).put h3 hp) h2
 unfold wpOp;simp only[ho,xq,if_true];left;unfold Oper.wp;rcases h4 with h4|⟨h4,rfl⟩
 ·rw[h4];exact nx
 ·rw[h4];exact nx
def aLe(P:PG)(ops:OA)(k m:Nat)(Q:Exit->Act->World->Prop):Exit->Act->World->Prop
 |.normal=>fun a w=>wpAny P .any ops Q m (Array.replicate k true++Array.replicate m false) a w
 |e=>Q e
theorem wB{l r:Array Bool}{i:Nat}(h:i<l.size):(l++r).getD i false=l.getD i false:=by
 simp only[Array.getD_eq_getD_getElem?,Array.getElem?_append_left h]
theorem bEr{l:Array Bool}{m i:Nat}(h:l.size<=i):(l++Array.replicate m false).getD i false=false:=by
 simp only[Array.getD_eq_getD_getElem?,Array.getElem?_append_right h,Array.getElem?_replicate];split<;>rfl
theorem yW{ops ops':OA}{k m:Nat}(zg:cE ops (bef ops)=true)(zi:ops.size=k+m)(yp:ops'.size=k)(qp:∀i,i<k->ops'[i]?=ops[i]?)(cd:∀i o,i<k->ops[i]?=some o->o.guard=none)
 (oe:∀i j,i<k->k<=j->j<ops.size->((bef ops).getD j 0).testBit i=true){Q:Exit->Act->World->Prop}:∀(fuel:Nat) (l:Array Bool) (a:Act) (w:World),l.size=k->dU ops (fun i=>(l++Array.replicate m false).getD i false)->l.toList.countP id+fuel=k->
 wpAny P .any ops' (aLe P ops k m Q) fuel l a w->wpAny P .any ops Q (fuel+m) (l++Array.replicate m false) a w:=by
 intro fuel
 induction fuel with
 |zero=>
  intro l a w hl hC ce h;have zh:l=Array.replicate k true:=by
   grind [Array.toList_inj,Array.toList_replicate,Array.length_toList,id,List.countP_eq_length,List.eq_replicate_iff]
  subst zh;have:=h.2;rw[Nat.zero_add];exact this
 |succ fuel ih=>
  intro l a w hl hC ce h;have yz:∃i,i<k/\l.getD i false=false:=by
   by_cases hx:∃i,i<k/\l.getD i false=false
   ·exact hx
   ·exfalso;have hc:l.toList.countP id=l.toList.length:=by
     rw[List.countP_eq_length];intro b hb;obtain⟨n,hn,rfl⟩:=List.mem_iff_getElem.1 hb;rw[Array.length_toList] at hn
     simp_all
    simp_all
  obtain⟨i0,iw,ye⟩:=yz;have iy:(l++Array.replicate m false).size=ops.size:=by simp[hl,zi]
  have qr:Region.ready .any ops (l++Array.replicate m false)≠[]:=aGl zg iy (i:=i0) (by omega) (by grind [wB]);rw[show fuel+1+m=(fuel+m)+1 by omega];refine⟨fun e=>absurd e qr,fun i hi=>?_⟩;have mh:i<k:=by
   rcases Nat.lt_or_ge i k with h|h
   ·exact h
   ·exfalso;have hS:=iP hC hi;have:=eX (S:=fun j=>if j=i then true else(l++Array.replicate m false).getD j false) hS (oe i0 i iw h (mZ hi).1) (by simp);rw[if_neg (by omega),wB (by omega),ye] at this;cases this
  have ho:ops[i]?=some ops[i]:=Array.getElem?_eq_getElem (by omega);have qi:i∈Region.ready .any ops' l:=by
   unfold Region.ready at hi ⊢;rw[List.mem_filter] at hi ⊢;obtain⟨h1,h2⟩:=hi;refine⟨List.mem_range.2 (by omega),?_⟩;rw[qp i mh];simp only[ho,Option.map_some,Option.getD_some,QB,Bool.not_eq_true'] at h2 ⊢;refine⟨?_,?_⟩
   ·simp_all
   ·have h3:=h2.2;rw[Array.all_eq_true'] at h3 ⊢;intro e he;have h4:=h3 e he;cases hb:Region.binds .any e with
    |false=>simp
    |true=>
     rw[hb] at h4;have qm:=fM zg ho he hb
     grind [wB]
  have qv:=h.2 i qi;have hg:=cd i _ mh ho;unfold wpOp at qv ⊢;rw[qp i mh,ho] at qv;rw[ho];simp only at qv ⊢;have ua:Region.wanted ops[i] (yielded ops' a.tmps)=true:=by simp[Region.wanted,hg]
  have wx:Region.wanted ops[i] (yielded ops a.tmps)=true:=by simp[Region.wanted,hg]
  simp only[ua,wx,if_true] at qv ⊢;have v4:(l++Array.replicate m false).setIfInBounds i true=l.setIfInBounds i true++Array.replicate m false:=by
   simp_all
  have iz:∀a w,wpAny P .any ops' (aLe P ops k m Q) fuel (l.setIfInBounds i true) a w->wpAny P .any ops Q (fuel+m) ((l++Array.replicate m false).setIfInBounds i true) a w:=by
   intro a w h;rw[v4];refine ih _ a w (by simp[hl]) ?_ ?_ h
   ·grind [iP,Array.replicate,mE]
   ·have hli:l.getD i false=false:=by
     grind [mZ,Array.getD_eq_getD_getElem?,Array.getElem?_eq_getElem]
    have:(l.setIfInBounds i true).toList.countP id=l.toList.countP id+1:=by
     rw[Array.toList_setIfInBounds];have zy:i<l.toList.length:=by simp_all
     have hlv:l.toList[i]=false:=by
      simp_all
     grind
    omega
  refine qv.imp (fun hh=>Oper.wp_mono iz ?_) (fun hh=>hh);exact hh
end
theorem wQ{α:Type}{b:Bool}{x:α}{y:α}(h:(bif b then some x else none)=some y):b=true/\x=y:=by
 grind
def aUh:AObj->AObj->Bool
 |.cells a n x,.cells b m y=>aIc a b&&(Nat.beq n m&&(x==y))
 |_,_=>false
theorem aTz{o o':AObj}(h:aUh o o'=true):o=o':=by
 unfold aUh at h;split at h
 ·simp only[QB,beq_iff_eq] at h
  grind [aBr,QN]
 ·cases h
def sW(H K:AH)(i:Nat):Bool:=match H.tr.get i,K.tr.get i with
 |some o,some o'=>aUh o o'
 |_,_=>false
theorem aAk{H K:AH}{i:Nat}(h:sW H K i=true):H.tr.get i=K.tr.get i:=by
 grind [sW,aTz]
def tgt(v:Value):Nat:=match v with
 |.pointer (some a)=>a.block / 2
 |_=>0
section
variable {P:PG}(E:Env P)
theorem eW{ρ:Operand->Value}{t:TY}{x y:Operand}{H H':AH}{v:Value}(h:aop E ρ (.store t x y) H=some (v,H')):H'.w0=H.w0/\H'.nx=H.nx/\∀j,j≠tgt (ρ x)->H'.tr.get j=H.tr.get j:=by
 simp only[aop] at h;split at h
 ·rename_i a ha;split at h
  ·rename_i K hK;cases h;have key:∀{vs:VL} {K:AH},fJ H a vs=some K->K.w0=H.w0/\K.nx=H.nx/\∀j,j≠a.block / 2->K.tr.get j=H.tr.get j:=by
    intro vs K hs;unfold fJ at hs;rcases aY hs with hs|hs
    ·cases hs
    ·split at hs
     ·rcases aY hs with hs|hs
      ·cases hs;exact⟨rfl,rfl,fun j hj=>by grind [Tr.get_set_ne]⟩
      ·cases hs
     ·cases hs
   rw[show tgt (ρ x)=a.block / 2 by rw[ha];rfl];unfold iK at hK
   grind
  ·cases h
 ·cases h
def pX(p:Oper)(t1:TY)(x1 y1:Operand)(t2:TY)(x2 y2:Operand)(f:Fr)(H:AH):Option (Fr×AH):=
 match aop E (aK f) p.op H with
 |some (v,_)=>(match f.put p.dst v with
  |some g=>(match aop E (aK g) (.store t1 x1 y1) H with
   |some (_,H1)=>(match aop E (aK g) (.store t2 x2 y2) H1,aop E (aK g) (.store t2 x2 y2) H,aop E (aK f) (.store t2 x2 y2) H with
    |some (_,K),some (_,H2),some (_,H3)=>(match aop E (aK g) (.store t1 x1 y1) H2,aop E (aK f) p.op H3,aop E (aK g) (.store t1 x1 y1) H3 with
     |some (_,K2),some (v3,_),some (_,K3)=>
      bif bY E p.op&&(veq v v3&&(Nat.beq (tgt (aK f x2)) (tgt (aK g x2))&&(sW K K2 (tgt (aK g x1))&&(sW K K2 (tgt (aK g x2))&&(sW K K3 (tgt (aK g x1))&&sW K K3 (tgt (aK g x2))))))) then some (g,K) else none
     |_,_,_=>none)
    |_,_,_=>none)
   |none=>none)
  |none=>none)
 |none=>none
theorem Rel.same{π:Pins}{φ:PL}{H K:AH}{w:World}(R:Rel φ K w)(h0:K.w0=H.w0)(hn:K.nx=H.nx)(hg:∀j,H.tr.get j=K.tr.get j):Rel φ H w:=
 ⟨by rw[<-h0];exact R.below,by rw[<-hn];exact R.len,fun i o h=>by rw[<-h0];exact R.obj i o (by rw[<-hg];exact h),fun i j o o' p q h1 h2=>R.inj i j o o' p q (by rw[<-hg];exact h1) (by rw[<-hg];exact h2),by rw[<-h0];exact R.pin,R.lt,R.ro' h0.symm (List.prefix_refl _) fun i _ h=>by rw[hg];exact h⟩
theorem aJm{ops:OA}{k:Nat}(zg:cE ops (bef ops)=true)(zi:ops.size=k+3){p s1 s2:Oper}(xj:ops[k]?=some p)(zx:ops[k+1]?=some s1)(ze:ops[k+2]?=some s2)(g7:p.guard=none)(og:s1.guard=none)(wb:s2.guard=none)
 (om:s1.dst=none)(ql:s2.dst=none){t1 t2:TY}{x1 y1 x2 y2:Operand}(mb:s1.op=.store t1 x1 y1)(mz:s2.op=.store t2 x2 y2)(pf:((bef ops).getD (k+1) 0).testBit k=true)
 {f g:Fr}{H K:AH}(h:pX E p t1 x1 y1 t2 x2 y2 f H=some (g,K)){Q:AQ}(hQ:Q .normal g K)(π:Pins)(φ0 φ:PL)(w0:Base)(hφ:φ0 <+: φ)(zj:H.w0=w0)(a:Act)(w:World)(hf:FRel φ f a)(hR:Rel φ H w):
 wpAny P .any ops (iZ φ0 w0 Q) 3 (Array.replicate k true++Array.replicate 3 false) a w:=by
 unfold pX at h;split at h
 ·rename_i v Hp ep;split at h
  ·rename_i g' eg;split at h
   ·rename_i u1 H1 e1;split at h
    ·rename_i u2 K' u3 H2 u4 H3 e2 e3 e4;split at h
     ·rename_i u5 K2 v3 H4 u6 K3 e5 e6 e7;rcases wQ h with⟨hc,h⟩;cases h;simp only[QB] at hc;obtain⟨hq,hv,ht,c1,c2,c3,c4⟩:=hc;have hHp:Hp=H:=lF E hq ep;have cf:H4=H3:=lF E hq e6;subst hHp;subst cf;obtain rfl:=aVz hv;have ht:=QN ht
      -- the heaps agree
      have a1:=eW E e1;have a2:=eW E e2;have a3:=eW E e3;have a4:=eW E e4;have a5:=eW E e5;have a7:=eW E e7;rw[ht] at a4;have k2:K2.w0=K.w0/\K2.nx=K.nx/\∀j,K.tr.get j=K2.tr.get j:=by
       grind [trans,tgt,aK,aAk]
      have k3:K3.w0=K.w0/\K3.nx=K.nx/\∀j,K.tr.get j=K3.tr.get j:=by
       grind [trans,tgt,aK,aAk]
      have hKw:K.w0=w0:=(a2.1.trans a1.1).trans zj
      -- which operations are listed
      have gL:∀j,j<k+3->(Array.replicate k true++Array.replicate 3 false).getD j false=decide (j<k):=by
       intro j hj;by_cases g9:j<k
       ·simp_all
       simp_all
      have vw:(Array.replicate k true++Array.replicate 3 false).size=ops.size:=by simp[zi]
      generalize hL:(Array.replicate k true++Array.replicate 3 false:Array Bool)=L at gL vw;have hC:dU ops (fun i=>L.getD i false):=by
       intro i o ho hi e he hb;have qm:=alt_of_getElem? ho;have:=fM zg ho he hb
       grind
      have nof:∀{l:Array Bool} {i:Nat},l.size=ops.size->i∈Region.ready .any ops l->i<k+3/\l.getD i false=false:=by
       grind [mZ,Array.getD_eq_getD_getElem?,Array.getElem?_eq_getElem]
      have gs:∀{l:Array Bool} {i j:Nat},l.size=ops.size->i<k+3->(l.setIfInBounds i true).getD j false=if j=i then true else l.getD j false:=fun hl hi=>mE (by omega)
      have cs:∀{l:Array Bool} {i:Nat},l.size=ops.size->dU ops (fun j=>l.getD j false)->i∈Region.ready .any ops l->dU ops (fun j=>(l.setIfInBounds i true).getD j false):=by
       intro l i hl yd hi q o hq hS e he hb;have mh:=(nof hl hi).1;simp only[gs hl mh] at hS ⊢;exact iP yd hi q o hq hS e he hb
      have need:∀{l:Array Bool},l.size=ops.size->dU ops (fun j=>l.getD j false)->k+1∈Region.ready .any ops l->l.getD k false=true:=by
       grind [eX,iP]
      have ne:∀{l:Array Bool} {i:Nat},l.size=ops.size->i<k+3->l.getD i false=false->Region.ready .any ops l≠[]:=fun hl hi hx=>aGl zg hl (by omega) hx;have fin:∀{l:Array Bool} {φ':PL} {a':Act} {w':World},l.size=ops.size->(∀j,j<k+3->l.getD j false=true)->φ <+: φ'->FRel φ' g a'->Rel φ' K w'->wpAny P .any ops (iZ φ0 w0 Q) 0 l a' w':=
       fun hl zh p q r=>⟨aOv hl (fun i hi=>zh i (by omega)),_,g,K,hφ.trans p,q,r,hKw,hQ⟩
      have op1:∀{ρ:Operand->Value} {H:AH},aop E ρ s1.op H=aop E ρ (.store t1 x1 y1) H:=by intro ρ H;rw[mb]
      have op2:∀{ρ:Operand->Value} {H:AH},aop E ρ s2.op H=aop E ρ (.store t2 x2 y2) H:=by intro ρ H;rw[mz]
      have pd1:∀(f:Fr) (v:Value),f.put s1.dst v=some f:=fun f v=>by rw[om];rfl
      have pd2:∀(f:Fr) (v:Value),f.put s2.dst v=some f:=fun f v=>by rw[ql];rfl
      refine⟨fun e=>absurd e (ne vw (i:=k) (by omega) (by simp_all)),fun i hi=>?_⟩;obtain⟨q1,q2⟩:=nof vw hi;rw[gL i q1] at q2;have mh:k<=i:=by simpa using q2
      have s1L:(L.setIfInBounds i true).size=ops.size:=by simp[vw]
      have C1:=cs vw hC hi;have g1:∀j,j<k+3->(L.setIfInBounds i true).getD j false=if j=i then true else decide (j<k):=fun j hj=>by rw[gs vw q1,gL j hj]
      rcases(show i=k\/i=k+1\/i=k+2 by omega) with rfl|rfl|rfl
      ·-- first the quiet one
       refine jL E xj g7 ep eg hf hR fun φ1 a1' w1 p1 f1 r1=>?_;refine⟨fun e=>absurd e (ne s1L (i:=i+1) (by omega) (by simp_all)),fun j hj=>?_⟩;obtain⟨m1,m2⟩:=nof s1L hj;rw[g1 j m1] at m2;have g9:j=i+1\/j=i+2:=by
        grind
       have s2L:((L.setIfInBounds i true).setIfInBounds j true).size=ops.size:=by simp[vw]
       have g2:∀n,n<i+3->((L.setIfInBounds i true).setIfInBounds j true).getD n false=if n=j then true else if n=i then true else decide (n<i):=fun n hn=>by rw[gs s1L m1,g1 n hn]
       have last:∀q,q∈Region.ready .any ops ((L.setIfInBounds i true).setIfInBounds j true)->q≠j/\(q=i+1\/q=i+2):=by
        intro q hq;obtain⟨n1,n2⟩:=nof s2L hq;rw[g2 q n1] at n2;by_cases h1:q=j
        ·rw[if_pos h1] at n2;cases n2
        ·rw[if_neg h1] at n2;by_cases h2:q=i
         ·rw[if_pos h2] at n2;cases n2
         ·rw[if_neg h2] at n2;simp at n2;exact⟨h1,by omega⟩
       have all3:∀q,q≠j->(q=i+1\/q=i+2)->∀n,n<i+3->(((L.setIfInBounds i true).setIfInBounds j true).setIfInBounds q true).getD n false=true:=by
        intro q hqj hq n hn;rw[gs s2L (by omega),g2 n hn];by_cases h1:n=q
        ·rw[if_pos h1]
        ·rw[if_neg h1];by_cases h2:n=j
         ·rw[if_pos h2]
         ·rw[if_neg h2];by_cases h3:n=i
          ·rw[if_pos h3]
          ·rw[if_neg h3];simp;omega
       rcases g9 with rfl|rfl
       ·refine jL E zx og (op1.trans e1) (pd1 _ _) f1 r1 fun φ2 a2' w2 p2 f2 r2=>?_;refine⟨fun e=>absurd e (ne s2L (i:=i+2) (by omega) (by rw[g2 _ (by omega)];simp)),fun q hq=>?_⟩;obtain⟨l1,l2⟩:=last q hq;have rp:q=i+2:=by omega
        have A3:=all3 q l1 l2;subst rp;exact jL E ze wb (op2.trans e2) (pd2 _ _) f2 r2 fun φ3 a3' w3 p3 f3 r3=>fin (by simp[vw]) A3 ((p1.trans p2).trans p3) f3 r3
       ·refine jL E ze wb (op2.trans e3) (pd2 _ _) f1 r1 fun φ2 a2' w2 p2 f2 r2=>?_;refine⟨fun e=>absurd e (ne s2L (i:=i+1) (by omega) (by rw[g2 _ (by omega)];simp)),fun q hq=>?_⟩;obtain⟨l1,l2⟩:=last q hq;have rp:q=i+1:=by omega
        have A3:=all3 q l1 l2;subst rp;exact jL E zx og (op1.trans e5) (pd1 _ _) f2 r2 fun φ3 a3' w3 p3 f3 r3=>fin (by simp[vw]) A3 ((p1.trans p2).trans p3) f3 (r3.same k2.1 k2.2.1 k2.2.2)
      ·exfalso;have:=need vw hC hi;rw[gL k (by omega)] at this;simp at this
      ·-- first the late store
       refine jL E ze wb (op2.trans e4) (pd2 _ _) hf hR fun φ1 a1' w1 p1 f1 r1=>?_;refine⟨fun e=>absurd e (ne s1L (i:=k) (by omega) (by rw[g1 _ (by omega)];simp)),fun j hj=>?_⟩;obtain⟨m1,m2⟩:=nof s1L hj;rw[g1 j m1] at m2;have g9:j=k\/j=k+1:=by
        by_cases yx:j=k+2
        ·rw[if_pos yx] at m2;cases m2
        ·rw[if_neg yx] at m2;simp at m2;omega
       rcases g9 with rfl|rfl
       ·refine jL E xj g7 e6 eg f1 r1 fun φ2 a2' w2 p2 f2 r2=>?_;have s2L:((L.setIfInBounds (j+2) true).setIfInBounds j true).size=ops.size:=by simp[vw]
        have g2:∀n,n<j+3->((L.setIfInBounds (j+2) true).setIfInBounds j true).getD n false=if n=j then true else if n=j+2 then true else decide (n<j):=fun n hn=>by rw[gs s1L m1,g1 n hn]
        refine⟨fun e=>absurd e (ne s2L (i:=j+1) (by omega) (by rw[g2 _ (by omega)];simp)),fun q hq=>?_⟩;obtain⟨n1,n2⟩:=nof s2L hq;rw[g2 q n1] at n2;have rp:q=j+1:=by
         by_cases h1:q=j
         ·rw[if_pos h1] at n2;cases n2
         ·rw[if_neg h1] at n2;by_cases h2:q=j+2
          ·rw[if_pos h2] at n2;cases n2
          ·rw[if_neg h2] at n2;simp at n2;omega
        subst rp;refine jL E zx og (op1.trans e7) (pd1 _ _) f2 r2 fun φ3 a3' w3 p3 f3 r3=>fin (by simp[vw]) (fun n hn=>?_) ((p1.trans p2).trans p3) f3 (r3.same k3.1 k3.2.1 k3.2.2);rw[gs s2L n1,g2 n hn];by_cases h1:n=j+1
        ·rw[if_pos h1]
        ·rw[if_neg h1];by_cases h2:n=j
         ·rw[if_pos h2]
         ·rw[if_neg h2];by_cases h3:n=j+2
          ·rw[if_pos h3]
          ·rw[if_neg h3];simp;omega
       ·exfalso;have:=need s1L C1 hj;rw[g1 k (by omega)] at this;simp at this
     ·cases h
    ·cases h
   ·cases h
  ·cases h
 ·cases h
end
theorem aJz{P:PG}{ops:OA}{Q Q':Exit->Act->World->Prop}(h:∀e a w,Q e a w->Q' e a w){i:Nat}{K K':Act->World->Prop}(hK:∀a w,K a w->K' a w){a:Act}{w:World}(k:wpOp P ops Q i K a w):wpOp P ops Q' i K' a w:=by
 unfold wpOp at k ⊢;cases ho:ops[i]? with
 |none=>simp_all
 |some o=>
  simp only[ho] at k ⊢;split
  ·rename_i hw;simp only[hw,if_true] at k;rcases k with k|⟨k1,k2⟩
   ·left;unfold Oper.wp at*;generalize (execOp a.eval o).run P w=r at*;cases r with
    |ok n w'=>
     cases n<;>simp only[Oper.upon] at k ⊢ <;>
      first|simp_all|grind [Calls.mono,iD,Rows.mono]
    |halt x w'=>cases x<;>grind [Oper.upon]<;>simp_all
   grind [iD]
  simp_all
theorem tU{P:PG}{md:Region.Mode}{ops:OA}{Q Q':Exit->Act->World->Prop}(h:∀e a w,Q e a w->Q' e a w):∀(n:Nat) (l:Array Bool) (a:Act) (w:World),wpAny P md ops Q n l a w->wpAny P md ops Q' n l a w
 |0,l,a,w,k=>⟨k.1,h _ _ _ k.2⟩
 |n+1,l,a,w,k=>⟨fun e=>h _ _ _ (k.1 e),fun i hi=>aJz h (fun a w q=>tU h n _ a w q) (k.2 i hi)⟩
def aIl(ops:OA)(bs:NL)(k:Nat):Bool:=
 (List.range k).all (fun i=>(match ops[i]? with|some o=>o.guard.isNone|none=>true)&&((bs.getD k 0).testBit i&&((bs.getD (k+1) 0).testBit i&&(bs.getD (k+2) 0).testBit i)))&&(bs.getD (k+1) 0).testBit k
section
variable {P:PG}(E:Env P)
def sP(call:fW)(ops:OA)(f:Fr)(H:AH):Option (Fr×AH):=
 match ops.toList.drop (ops.size - 3) with
 |[p,s1,s2]=>(match s1.op,s2.op with
  |.store t1 x1 y1,.store t2 x2 y2=>
   bif cE ops (bef ops)&&(aIl ops (bef ops) (ops.size - 3)&&(p.guard.isNone&&(s1.guard.isNone&&(s2.guard.isNone&&(s1.dst.isNone&&s2.dst.isNone))))) then
    (match gE E call (ops.toList.take (ops.size - 3)).toArray f H with
    |some (g,K)=>pX E p t1 x1 y1 t2 x2 y2 g K
    |none=>none)
   else none
  |_,_=>none)
 |_=>none
theorem aHe{p:Oper}{t1 t2:TY}{x1 y1 x2 y2:Operand}{f g:Fr}{H K:AH}(h:pX E p t1 x1 y1 t2 x2 y2 f H=some (g,K)):K.w0=H.w0:=by
 unfold pX at h;split at h
 ·split at h
  ·split at h
   ·rename_i u1 H1 e1;split at h
    ·rename_i u2 K' u3 H2 u4 H3 e2 e3 e4;split at h
     ·obtain⟨_,h⟩:=wQ h;cases h;exact(eW E e2).1.trans (eW E e1).1
     ·cases h
    ·cases h
   ·cases h
  ·cases h
 ·cases h
theorem aDc{call:fW}(qh:jV P call)(hm:P.follows .mixedOrders=true){ops:OA}{f g:Fr}{H K:AH}(h:sP E call ops f H=some (g,K))(id:Nat):pF P (.region id ops true) .normal g K f H:=by
 unfold sP at h;split at h
 ·rename_i p s1 s2 ry;split at h
  ·rename_i t1 x1 y1 t2 x2 y2 mb mz;cases hc:(cE ops (bef ops)&&(aIl ops (bef ops) (ops.size - 3)&&(p.guard.isNone&&(s1.guard.isNone&&(s2.guard.isNone&&(s1.dst.isNone&&s2.dst.isNone)))))) with
   |false=>rw[hc] at h;cases h
   |true=>
    rw[hc,QT] at h;simp only[QB,Option.isNone_iff_eq_none] at hc;obtain⟨zg,u9,g7,og,wb,om,ql⟩:=hc;split at h
    ·rename_i g1 K1 qt;generalize ops.size - 3=k at ry u9 qt;have qe:(ops.toList.drop k).length=3:=by rw[ry];rfl
     have zi:ops.size=k+3:=by grind
     have hp:∀i,(ops.toList.drop k)[i]?=ops[k+i]?:=fun i=>by grind
     have xj:ops[k]?=some p:=by have:=hp 0;simp_all
     have zx:ops[k+1]?=some s1:=by grind
     have ze:ops[k+2]?=some s2:=by grind
     have qp:∀i,i<k->(ops.toList.take k).toArray[i]?=ops[i]?:=fun i hi=>by simp_all
     have yp:(ops.toList.take k).toArray.size=k:=by simp;omega
     simp only[aIl,QB,List.all_eq_true] at u9;obtain⟨ut,pf⟩:=u9;have cd:∀i o,i<k->ops[i]?=some o->o.guard=none:=fun i o hi ho=>by
      have:=(ut i (List.mem_range.2 hi)).1
      simp_all
     have oe:∀i j,i<k->k<=j->j<ops.size->((bef ops).getD j 0).testBit i=true:=fun i j hi hkj hj=>by
      have:=(ut i (List.mem_range.2 hi)).2;rcases(show j=k\/j=k+1\/j=k+2 by omega) with rfl|rfl|rfl
      ·exact this.1
      ·exact this.2.1
      ·exact this.2.2
     have ua:=qF E qh qt;refine⟨(aHe E h).trans ua,?_⟩;obtain⟨F,HH,V,M,Fl,T,w0s,rfl,rfl,rfl,rfl⟩:=rO E qh qt;refine ACode.of_any hm (oM zg) (fun π φ a w hf hR=>?_) ⟨rfl,rfl,rfl⟩;have zh:=T.anyAll w0s (Q:=fun e f' H'=>e=Exit.normal/\f'=F _/\H'=HH _) ⟨rfl,rfl,rfl⟩ π φ a w hf hR;have u7:Array.replicate ops.size false=Array.replicate k false++Array.replicate 3 false:=by simp_all
     rw[u7];have kf:ops.size=k+3:=zi;rw[kf];refine yW zg zi yp qp cd oe k (Array.replicate k false) a w.drew (by simp) ?_ (by simp_all) ?_
     ·intro i o ho hi;have:(Array.replicate k false++Array.replicate 3 false).getD i false=false:=by
       rw[Array.replicate_append_replicate];simp only[Array.getD_eq_getD_getElem?,Array.getElem?_replicate];split<;>rfl
      simp_all
     ·rw[yp] at zh h;refine tU ?_ _ _ _ _ zh;rintro e a' w' ⟨φ',f',H',p1,q1,q2,q3,rfl,rfl,rfl⟩;exact aJm E zg zi xj zx ze g7 og wb om ql mb mz pf h (Q:=fun e' g' K'=>e'=Exit.normal/\g'=g/\K'=K) ⟨rfl,rfl,rfl⟩ π φ φ' _ p1 q3 a' w' q1 q2
    ·cases h
  ·cases h
 ·cases h
end
section
variable {P:PG}(E:Env P)
def dY(call:fW)(fuel:Nat):Code->Fr->AH->Option (Exit×Fr×AH)
 |.skip,f,H=>some (.normal,f,H)
 |.label _,f,H=>some (.normal,f,H)
 |.exit i,f,H=>some (.exit i,f,H)
 |.ret,f,H=>some (.ret,f,H)
 |.seq a b,f,H=>(match dY call fuel a f H with
  |some (.normal,f',H')=>dY call fuel b f' H'
  |r=>r)
 |.cond c x y,f,H=>(match aK f c with
  |.bool true=>dY call fuel x f H
  |.bool false=>dY call fuel y f H
  |_=>none)
 |.block i c,f,H=>(match dY call fuel c f H with
  |some (.exit j,f',H')=>bif Nat.beq j i then some (.normal,f',H') else some (.exit j,f',H')
  |r=>r)
 |.loop c,f,H=>tS (dY call fuel c) fuel f H
 |.region _ ops draw,f,H=>
  bif draw then(match gE E call ops f H with
   |some (g,K)=>some (.normal,g,K)
   |none=>(match sP E call ops f H with
    |some (g,K)=>some (.normal,g,K)
    |none=>none))
  else(match jI E call ops ops.toList f H with
   |some (g,K)=>some (.normal,g,K)
   |none=>none)
 |_,_,_=>none
theorem aSp{call:fW}(qh:jV P call)(hm:P.follows .mixedOrders=true)(fuel:Nat):∀(c:Code) (f:Fr) (H:AH) (e:Exit) (g:Fr) (K:AH),dY E call fuel c f H=some (e,g,K)->pF P c e g K f H:=by
 intro c
 induction c with
 |skip=>intro f H e g K h;simp only[dY] at h;cases h;exact⟨rfl,ACode.skip ⟨rfl,rfl,rfl⟩⟩
 |label l=>intro f H e g K h;simp only[dY] at h;cases h;exact⟨rfl,ACode.label ⟨rfl,rfl,rfl⟩⟩
 |exit i=>intro f H e g K h;simp only[dY] at h;cases h;exact⟨rfl,ACode.exit ⟨rfl,rfl,rfl⟩⟩
 |ret=>intro f H e g K h;simp only[dY] at h;cases h;exact⟨rfl,ACode.ret ⟨rfl,rfl,rfl⟩⟩
 |seq x y ihx ihy=>
  intro f H e g K h;simp only[dY] at h;cases hx:dY E call fuel x f H with
  |none=>rw[hx] at h;cases h
  |some r=>
   obtain⟨e1,f1,H1⟩:=r;rw[hx] at h;obtain⟨w1,c1⟩:=ihx _ _ _ _ _ hx;by_cases he:e1=.normal
   ·subst he;simp only at h;obtain⟨w2,c2⟩:=ihy _ _ _ _ _ h;refine⟨w2.trans w1,ACode.seq c1 ?_ ?_⟩
    ·simp_all
    simp_all
   ·have hh:e1=e/\f1=g/\H1=K:=by
     simp_all
    obtain⟨rfl,rfl,rfl⟩:=hh;refine⟨w1,ACode.seq c1 ?_ ?_⟩
    ·grind
    simp_all
 |cond c x y ihx ihy=>
  intro f H e g K h;simp only[dY] at h;split at h
  ·rename_i hc;obtain⟨w1,c1⟩:=ihx _ _ _ _ _ h;exact⟨w1,ACode.cond hc c1⟩
  ·rename_i hc;obtain⟨w1,c1⟩:=ihy _ _ _ _ _ h;exact⟨w1,ACode.cond hc c1⟩
  ·cases h
 |block i c ih=>
  intro f H e g K h;simp only[dY] at h;cases hx:dY E call fuel c f H with
  |none=>rw[hx] at h;cases h
  |some r=>
   obtain⟨e1,f1,H1⟩:=r;rw[hx] at h;obtain⟨w1,c1⟩:=ih _ _ _ _ _ hx;have fin:H1=K->f1=g->(∀f' H',f'=g->H'=K->(match e1 with|.exit j=>if j=i then(Exit.normal=e/\f'=g/\H'=K) else(Exit.exit j=e/\f'=g/\H'=K)|e'=>(e'=e/\f'=g/\H'=K)))->pF P (.block i c) e g K f H:=by
    rintro rfl rfl k;refine⟨w1,ACode.block (c1.mono ?_)⟩
    grind
   cases e1 with
   |exit j=>
    simp only at h;cases hj:Nat.beq j i with
    |true=>
     rw[hj,QT] at h
     simp_all
    |false=>
     rw[hj,QF] at h;cases h;have:¬j=i:=fun e=>by simp_all
     simp_all
   |_=>
    grind
 |loop c ih=>
  grind [dY,aQz]
 |region i ops draw=>
  intro f H e g K h;simp only[dY] at h;cases draw with
  |true=>
   rw[QT] at h;split at h
   ·rename_i g' K' hd;cases h;exact⟨qF E qh hd,aCq E qh hm ⟨rfl,rfl,rfl⟩ hd i⟩
   grind [aDc]
  |false=>
   rw[QF] at h;split at h
   ·rename_i g' K' hd;cases h;refine⟨aIz E qh _ _ _ hd,ACode.region ?_⟩;have:=aGq E qh (Q:=fun e' g'' K''=>e'=Exit.normal/\g''=g/\K''=K) ⟨rfl,rfl,rfl⟩ ops.toList 0 f H (fun j=>by simp) hd
    grind [Array.length_toList,List.range_eq_range']
   ·cases h
 |_=>grind [dY]
end
end Go.AM
namespace Go.AM
open Go.RowKit
variable [σ:Sg]
theorem aOa{len cap a:Nat}{k:IntKind}(h1:a<=len)(h2:len<=cap):bD len cap (some (.int k (a:Int))) none none=some (a,len,cap):=by
 have e1:bO none cap cap=some cap:=rfl;have e3:bO (some (Value.int k (a:Int))) 0 len=some a:=by simp only[bO];rw[if_pos ⟨by omega,by omega⟩];simp
 simp only[bD,e1,e3]
section
variable [γ:Gam]{P:PG}{E:Env P}{G:RG}{i n d:Nat}{r:OL2}{Q:FQ}{t:Tr Value}{l:LV}{S H0:AH}{A0 A:NQ}{L L':OL}{v u:Value}{x:Operand}{gd:OB}{af:Array Edge}{ps:String}{ty:TY}
theorem aVq{ta e:TY}{lo:Operand}{kk:IntKind}{ii:TI}{a:Option Addr}{b cap p:Nat}{ks:KL}{rw':LX}(hw:gok G.ops l gd=true)(qd:Nat.ble (d+1) n=true)(hx:opv l x=some (.slice a rw'.length cap))(hu:E.und ta=some (.slice e))(qi:E.inf e=some ii)
 (h1:opv l lo=some (.int kk ((p:Nat):Int)))(hr:RowD (qA G A) (qH G H0) b ks rw' a cap)(hk:ks.length=ii.size)(hp:p<=rw'.length)
 (h:∀a',RowD (qA G A) (qH G H0) b ks (rw'.drop p) a' (cap - p)->SO E G (i+1) r Q (fr n t ((d,.slice a' (rw'.drop p).length (cap - p))::l)) H0 A L):SO E G i (⟨some d,.slice ta x (some lo) none none,ty,ps,af,gd⟩::r) Q (fr n t l) H0 A L:=by
 have qe:(rw'.drop p).length=rw'.length - p:=List.length_drop;have hb:bD rw'.length cap (some (.int kk ((p:Nat):Int))) none none=some (p,rw'.length,cap):=aOa hp hr.le;have hO:OpO l (some lo) (some (.int kk ((p:Nat):Int))):=.some h1;have row:∀q q',a=some q->q'.block=q.block->(rw'.length=p\/q'=q.add (p*ks.length))->RowD (qA G A) (qH G H0) b ks (rw'.drop p) (some q') (cap - p):=by
  intro q q' hq o9 hq';refine⟨by rw[qe];have:=hr.len;omega,by rw[qe];have h4:=Nat.mul_le_mul_right b (show rw'.length - p<=rw'.length by omega);have:=hr.bytes;omega,by rw[qe];have:=hr.le;omega,(fun h=>by cases h),(fun p' h'=>by cases h';rw[o9];exact hr.inA q hq),(fun p' h'=>by cases h';have:=hr.sz q hq;unfold SzA at this ⊢;rw[o9];exact this),fun j hj=>?_⟩;rw[qe] at hj;obtain⟨p2,xs,c,e1,e2,e3,e4,e5⟩:=hr.at' (p+j) (by omega);rw[hq] at e1;cases e1;have e6:q'=q.add (p*ks.length):=by
   rcases hq' with h|h
   ·omega
   ·exact h
  refine⟨q',xs,c,rfl,by rw[o9];exact e2,by rw[List.getElem?_drop];exact e3,?_,e5⟩;rw[e6,jP,<-Nat.add_mul];exact e4
 cases a with
 |none=>
  have ye:rw'.length=0:=by
   rcases Nat.eq_zero_or_pos rw'.length with e|e
   ·exact e
   ·obtain⟨p,_,_,e1,_⟩:=hr.at' 0 e;cases e1
  have xj:p=0:=by omega
  subst xj;rw[ye] at hx hb;rcases hr.nil rfl with e|⟨e,sp⟩
  ·subst e;have h0:=h none ⟨by rw[qe];omega,by rw[qe,ye];simp,by rw[qe,ye];simp,fun _=>.inl rfl,(fun p h=>by cases h),(fun p h=>by cases h),fun j hj=>by rw[qe] at hj;omega⟩;rw[qe,ye] at h0;exact zT hw qd hx hu qi (by rw[show(some lo).map (aK (fr n t l))=some (.int kk ((0:Nat):Int)) from hO.ok];exact hb) h0
  ·subst e;have h0:=h none ⟨by rw[qe];omega,by rw[qe,ye];simp,by rw[qe,ye];simp,fun _=>.inr ⟨rfl,sp⟩,(fun p h=>by cases h),(fun p h=>by cases h),fun j hj=>by rw[qe] at hj;omega⟩;rw[qe,ye] at h0;exact zX hw qd hx hu qi (b:=(0,0,0)) (by rw[show(some lo).map (aK (fr n t l))=some (.int kk ((0:Nat):Int)) from hO.ok];rfl) h0
 |some q=>
  rcases Nat.mod_two_eq_zero_or_one q.block with qu|dj
  ·refine zW hw qd hx hu qi hr.le qu (by rw[show(some lo).map (aK (fr n t l))=_ from hO.ok];exact hb) ?_;rw[<-qe];refine h _ (row q _ rfl ?_ ?_)
   ·split
    ·rfl
    ·exact bT _ _
   ·by_cases e:cap=p
    ·have:=hr.le;exact .inl (by omega)
    ·rw[if_neg e,hk];exact .inr rfl
  ·have hget:=hr.sz q rfl;rw[hk] at hget;have dm:qA G A (q.block / 2):=by
    rcases hr.inA q rfl with h'|h'
    ·omega
    ·exact h'
   refine aAb hw qd hx hu qi hr.le dj dm hget (by rw[show(some lo).map (aK (fr n t l))=_ from hO.ok];exact hb) ?_;rw[<-qe];exact h _ (row q _ rfl (bT _ _) (.inr (by rw[hk])))
end
end Go.AM
namespace Go.AM
open Go.RowKit
variable [σ:Sg]
theorem aRl{φ:PL}{v v':Value}(h:VR φ v v')(hf:flat v=true):v'=v:=by
 cases v with
 |agg cs=>
  cases cs with
  |mk l=>
   cases h with
   |agg ha hv=>rw[jB ⟨ha,hv⟩ hf]
 |_=>exact aDy h hf
theorem aFu{φ:PL}:∀{l l':VL},VRs φ l l'->l.all flat=true->l'=l
 |[],l',h,_=>List.eq_nil_of_length_eq_zero h.1.symm
 |v::l,[],h,_=>by have:=h.1;simp at this
 |v::l,v'::l',h,hf=>by
  simp only[List.all_cons,QB] at hf;rw[aRl h.head hf.1,aFu h.tail hf.2]
section
variable {P:PG}(E:Env P)
abbrev bGb:=FuncId->List Value->Option Value
def bCl(P:PG)(tb:bGb):Prop:=∀g args r,tb g args=some r->args.all flat=true/\vK r=true/\∀w,Flat P g args w r
def mA(tb:bGb):Nat->fW
 |0,_,_,_=>none
 |n+1,g,args,H=>(match tb g args with
  |some r=>some (r,H)
  |none=>(match E.fn g with
   |some x=>(match dY E (mA tb n) n x.body (rC args x.ntmps) H with
    |some (.normal,f,H')=>(match bS E f H' x.results with
     |some vs=>some (bG vs,H')
     |none=>none)
    |some (.ret,f,H')=>(match bS E f H' x.results with
     |some vs=>some (bG vs,H')
     |none=>none)
    |_=>none)
   |none=>none))
theorem aNj{tb:bGb}(qz:bCl P tb)(hm:P.follows .mixedOrders=true):∀n,jV P (mA E tb n):=by
 intro n
 induction n with
 |zero=>intro g args H v H' h;cases h
 |succ n ih=>
  intro g args H v H' h;simp only[mA] at h;split at h
  ·rename_i r hr;cases h;obtain⟨h1,h2,h3⟩:=qz _ _ _ hr;refine⟨rfl,ACalls.flat h2 fun π φ args' w hv hR=>?_⟩;rw[aFu hv h1];exact h3 w
  ·split at h
   ·rename_i x hg
    have fin:∀{e f K},dY E (mA E tb n) n x.body (rC args x.ntmps) H=some (e,f,K)->(e=.normal\/e=.ret)->(match bS E f K x.results with|some vs=>some (bG vs,K)|none=>none)=some (v,H')->
     H'.w0=H.w0/\ACalls P g args H fun u K=>u=v/\K=H':=by
     intro e f K hr he hv;split at hv
     ·rename_i vs me;cases hv;obtain⟨w1,c1⟩:=aSp E ih hm n _ _ _ _ _ _ hr;refine⟨w1,ACalls.body E hg (c1.mono ?_)⟩;rintro e' f' K' ⟨rfl,rfl,rfl⟩;exact⟨he,vs,me,rfl,rfl⟩
     ·cases hv
    split at h
    ·rename_i f K hr;exact fin hr (.inl rfl) h
    ·rename_i f K hr;exact fin hr (.inr rfl) h
    ·cases h
   ·cases h
end
end Go.AM
namespace Go.AM
open Go.RowKit
variable [σ:Sg]
variable [γ:Gam]
section
variable {P:PG}{E:Env P}{G:RG}{i n d:Nat}{r:OL2}{Q:FQ}{t:Tr Value}{l:LV}{S H0:AH}{A0 A:NQ}{L L':OL}{v u:Value}{x y:Operand}{gd:OB}{af:Array Edge}{ps:String}{ty:TY}
theorem amax2{k:IntKind}{a b:Int}:uA true (.int k a) [.int k b]=some (.int k (max a b)):=by
 simp only[uA,decide_true,QT,if_true];congr 2;by_cases h:b>a
 ·rw[if_pos h];omega
 ·rw[if_neg h];omega
theorem amin2{k:IntKind}{a b:Int}:uA false (.int k a) [.int k b]=some (.int k (min a b)):=by
 simp only[uA,decide_true,QT,Bool.false_eq_true,if_false];congr 2;by_cases h:b<a
 ·rw[if_pos h];omega
 ·rw[if_neg h];omega
theorem bAe{c:Call}{k:IntKind}{a b m:Int}(hw:gok G.ops l gd=true)(qd:Nat.ble (d+1) n=true)(hc:c.callee=.builtin .max)(ha:c.args.toList=[x,y])(hx:opv l x=some (.int k a))(hy:opv l y=some (.int k b))(hm:max a b=m)
 (h:SO E G (i+1) r Q (fr n t ((d,.int k m)::l)) H0 A L):SO E G i (⟨some d,.call c,ty,ps,af,gd⟩::r) Q (fr n t l) H0 A L:=
 bL hw rfl qd (by simp only[dS,hc]) (fun H=>by subst hm;simp only[aop,hc,ha,List.map_cons,List.map_nil,aG hx,aG hy,amax2,aL]) h
theorem aYx{c:Call}{k:IntKind}{a b m:Int}(hw:gok G.ops l gd=true)(qd:Nat.ble (d+1) n=true)(hc:c.callee=.builtin .min)(ha:c.args.toList=[x,y])(hx:opv l x=some (.int k a))(hy:opv l y=some (.int k b))(hm:min a b=m)
 (h:SO E G (i+1) r Q (fr n t ((d,.int k m)::l)) H0 A L):SO E G i (⟨some d,.call c,ty,ps,af,gd⟩::r) Q (fr n t l) H0 A L:=
 bL hw rfl qd (by simp only[dS,hc]) (fun H=>by subst hm;simp only[aop,hc,ha,List.map_cons,List.map_nil,aG hx,aG hy,amin2,aL]) h
end
section
variable {P:PG}{E:Env P}{t:TY}{k:IntKind}{a b c:Int}
theorem bBy(hb:b≠0)(h:k.wrap (a.tdiv b)=c):aQ E .quo t (.int k a) (.int k b)=some (.int k c):=by simp only[aQ,cC];rw[if_neg hb,h,if_pos trivial]
theorem aYn(hb:b≠0)(h:a.tmod b=c):aQ E .rem t (.int k a) (.int k b)=some (.int k c):=by simp only[aQ,cC];rw[if_neg hb,h,if_pos trivial]
end
end Go.AM
namespace Go.AM
open Go.RowKit
variable [σ:Sg]
variable [γ:Gam]
section
variable {P:PG}{E:Env P}{ops:OA}{ms:NL}{W W':AH->Prop}
theorem RunD.drawZ{m:Nat}{o:Oper}{f g1 g:Fr}{H K1 K:AH}{L1 L2:List fU}(h1:RunD E true ops ms W 0 (ops.toList.take m) f H L1 g1 K1)(h2:RunD E false ops [] W' m [o] g1 K1 L2 g K)(ho:ops.toList.drop m=[o])
 (hq:bY E o.op=false)(v6:o.guard=none)(zh:((List.range m).all fun i=>((bef ops).getD m 0).testBit i)=true)(hm:P.follows .mixedOrders=true)(zg:cE ops (bef ops)=true)(zm:dO (bef ops) ms=true)(zn:ms.Pairwise (·<·))(hW:W H)(hy:γ.y=false\/∀c,o.op≠.call c)(id:Nat):
 pF P (.region id ops true) .normal g K f H:=by
 have zi:ops.size=m+1:=by
  have:=congrArg List.length ho
  grind
 have ng:ops[m]?=some o:=by
  have:(ops.toList.drop m)[0]?=some o:=by rw[ho];rfl
  grind
 obtain⟨v,hp,hz⟩:∃v,g1.put o.dst v=some g/\(aop E (aK g1) o.op K1=some (v,K)\/(K.w0=K1.w0/\∃c args,bM E (aK g1) o.op=some (c,args)/\ACalls P c args K1 fun u K'=>u=v/\K'=K)):=by
  cases h2 with
  |cons hs hp r=>
   cases r;have sw:aM ops (bX g1) o=true:=by grind [aM]
   rcases hs with⟨q,_⟩|⟨_,_,_,⟨q,_⟩,_⟩|⟨_,_,_,q⟩|⟨_,_,_,q0,q|⟨_,hF,⟨c,hc⟩,_⟩⟩
   ·rw[sw] at q;cases q
   ·rw[hq] at q;cases q
   ·grind
   ·grind
   simp_all
 have sw:aM ops (bX g1) o=true:=by grind [aM]
 have ua:=h1.w0;have wx:K.w0=K1.w0:=by
  grind [mT]
 refine⟨wx.trans ua,?_⟩;obtain⟨qe,⟨s0,yo,dv,dw⟩,qv⟩:=h1.at;have xl:L1.length=m:=by simp_all
 let A:List fU:=L1++[(g1,K1,v,true),(g,K,undef,false)]
 let d:fU:=(g,K,undef,false)
 let F:=fun i=>(A.getD i d).1
 let HH:=fun i=>(A.getD i d).2.1
 let V:=fun i=>(A.getD i d).2.2.1
 let M:=fun i=>(A.getD i d).2.2.2
 have cg:A.getD m d=(g1,K1,v,true):=by
  grind
 have ug:A.getD (m+1) d=(g,K,undef,false):=by
  grind
 have hA:∀i,i<m->∃s,L1[i]?=some s/\A.getD i d=s:=by
  grind
 have uh:∀i s',(L1++[(g1,K1,undef,false)])[i]?=some s'->(A.getD i d).1=s'.1/\(A.getD i d).2.1=s'.2.1:=by
  grind
 have zb:∀i o',i<m->ops[i]?=some o'->SD E true ops ms W i o' (F i) (HH i) (V i) (HH (i+1)) (M i)/\(F i).put o'.dst (V i)=some (F (i+1)):=by
  intro i o' hi vf;obtain⟨s,q1,q2⟩:=hA i hi
  grind
 have sx:F 0=f/\HH 0=H:=by
  grind
 have hMm:M m=true:=by simp only[M,cg]
 have nh:∀i,i<m->((bef ops).getD m 0).testBit i=true:=by
  simp_all
 have lt_of:∀i,i<ops.size->i≠m->i<m:=by intro i h1 h2;omega
 have ops_at:∀i (hi:i<m),ops[i]?=some (ops[i]'(by omega)):=fun i hi=>Array.getElem?_eq_getElem (by omega);have still:∀i,i<ops.size->M i=false->HH (i+1)=HH i:=by
  intro i hi hM;have qi:i<m:=lt_of i hi (fun e=>by grind);rcases(zb i _ qi (ops_at i qi)).1 with⟨_,_,_,h4⟩|⟨_,_,h4,_⟩|⟨_,h4,_⟩|⟨_,h4,_⟩
  ·exact h4
  ·exact h4
  ·rw[hM] at h4;cases h4
  grind
 have w0s:∀i,i<ops.size->(HH (i+1)).w0=(HH i).w0:=by
  intro i hi;by_cases e:i=m
  ·grind
  ·have qi:=lt_of i hi e;rcases(zb i _ qi (ops_at i qi)).1 with⟨_,_,_,h4⟩|⟨_,_,h4,_⟩|⟨_,_,_,h4⟩|⟨_,_,_,h4,_⟩
   ·rw[h4]
   ·rw[h4]
   ·exact mT E h4
   ·exact h4
 have mainW:∀i,i<m->M i=true->i∈ms/\W (HH (i+1)):=by
  intro i hi hM;rcases(zb i _ hi (ops_at i hi)).1 with⟨_,_,h4,_⟩|⟨_,h4,_⟩|⟨_,_,h4,_⟩|⟨_,_,h4,_⟩
  ·rw[hM] at h4;cases h4
  ·rw[hM] at h4;cases h4
  ·exact h4 rfl
  ·exact h4 rfl
 have allW:∀t,t<=m->W (HH t):=by
  intro t
  induction t with
  |zero=>grind
  |succ t ih=>
   grind
 have between:∀n a,a+n<=ops.size->(∀j,a<=j->j<a+n->M j=false)->HH (a+n)=HH a:=by
  intro n
  induction n with
  |zero=>intro a _ _;rfl
  |succ n ih=>
   intro a ha yh;rw[show a+(n+1)=a+n+1 by omega,still (a+n) (by omega) (yh _ (by omega) (by omega))];exact ih a (by omega) (fun j h1 h2=>yh j h1 (by omega))
 have T:TraceF E ops F HH V M fun _=>false:=by
  refine⟨⟨zg,fun i o' vf=>?_⟩,fun i o' vf _=>?_,(fun i o' vf h=>by cases h),still,fun i j yq hj yy zo=>.inl ?_,(fun k i j _ _ _ _ h=>by cases h),fun i j _ _ h=>by cases h⟩
  ·by_cases e:i=m
   ·subst e;rw[ng] at vf;cases vf;simp only[F,V,cg,ug];exact hp
   ·exact(zb i o' (lt_of i (alt_of_getElem? vf) e) vf).2
  ·by_cases e:i=m
   ·subst e;rw[ng] at vf;cases vf;simp only[F,HH,V,M,cg,ug];rcases hz with q|⟨_,c,args,q1,q2⟩
    ·exact .inr (.inr (.inl ⟨sw,trivial,q⟩))
    ·exact .inr (.inr (.inr ⟨sw,trivial,c,args,q1,q2⟩))
   ·have hi:i<m:=lt_of i (alt_of_getElem? vf) e;rcases(zb i o' hi vf).1 with⟨h1,h2,h3,h4⟩|⟨h1,h2,h3,⟨vd,h4⟩,h5⟩|⟨h1,h2,h3,h4⟩|⟨h1,h2,_,_,⟨c,args,h3,h4⟩|⟨hF,_⟩⟩
    ·exact .inl ⟨h1,h2,h3⟩
    ·refine .inr (.inl ⟨h1,h2,vd,fun t ht hb ha=>?_⟩);have htm:t<=m:=ha m (by omega) hMm (nh i hi);rcases h5 rfl with hp|hp|hp
     ·exact vH E hp h4 (HH t)
     ·have pz:∀j,j<m->M j=true->(j<t↔j<i):=by
       intro j hj zo;have d5:=(mainW j hj zo).1;simp only[fF,List.all_eq_true] at hp;have:=hp j d5;simp only[Bool.or_eq_true,QB,Nat.blt,Nat.ble_eq] at this;rcases this with⟨q1,q2⟩|⟨q1,q2⟩
       ·exact⟨fun _=>q1,fun _=>hb j (by omega) zo q2⟩
       ·have:=ha j (by omega) zo q2;constructor<;>intro<;>omega
      have:HH t=HH i:=by
       rcases Nat.le_total t i with qf|qf
       ·have e:=between (i - t) t (by omega) (fun j h1 h2=>by
         cases zo:M j with
         |false=>rfl
         |true=>have:=(pz j (by omega) zo).2 (by omega);omega)
        rw[show t+(i - t)=i by omega] at e;exact e.symm
       ·have e:=between (t - i) i (by omega) (fun j h1 h2=>by
         cases zo:M j with
         |false=>rfl
         |true=>have:=(pz j (by omega) zo).1 (by omega);omega)
        rw[show i+(t - i)=t by omega] at e;exact e
      rw[this];exact h4
     ·exact hp _ (allW t htm)
    ·exact .inr (.inr (.inl ⟨h1,h2,h4⟩))
    ·exact .inr (.inr (.inr ⟨h1,h2,c,args,h3,h4⟩))
    ·cases hF
  ·by_cases e:j=m
   ·subst e;exact nh i (by omega)
   ·exact aDw zm zn i j (mainW i (by omega) yy).1 (mainW j (by omega) zo).1 yq
 have:=T.region hm w0s (Q:=fun e' g' K'=>e'=.normal/\g'=g/\K'=K) (by simp only[F,HH,zi,ug];refine⟨?_,?_,?_⟩<;>first|trivial|rfl) id;rw[sx.1,sx.2] at this;exact this
end
section
variable {P:PG}{E:Env P}{S H0:AH}{A0 A:NQ}{L:OL}{K:AQ}
theorem aQa{ops:OA}{id:Nat}{f:Fr}(hm:P.follows .mixedOrders=true)(ms:NL)(Lw:OL)(jd:Lw.Sublist L)(zg:cE ops (bef ops)=true)(zm:dO (bef ops) ms=true)(zn:ms.Pairwise (·<·))(m:Nat)(o:Oper)(ho:ops.toList.drop m=[o])(hq:bY E o.op=false)(v6:o.guard=none)
 (zh:((List.range m).all fun i=>((bef ops).getD m 0).testBit i)=true)
 (h:SO E ⟨true,ops,ms,S,A0,H0,A,Lw⟩ 0 (ops.toList.take m) (fun f H=>∃Ls g K',RunD E false ops [] (HS S H0 A0 A Lw) m [o] f H Ls g K'/\K .normal g K') f H0 A L)(hy:γ.y=false\/∀c,o.op≠.call c:=by exact .inl rfl):SX P (.region id ops true) K f S A0 H0 A L:=by
 intro H hH;have hW:HS S H0 A0 A Lw H:=hH.subl jd;obtain⟨Ls,g,K',hr,Ls2,g2,K2,vq,rp⟩:=h (fun _=>⟨fun p hp=>jd.subset hp,hW.dist,fun j hj=>⟨hj,rfl⟩,rfl⟩) H hH;exact⟨.normal,g2,K2,rp,hr.drawZ vq ho hq v6 zh hm zg zm zn hW hy id⟩
theorem bCd{ops:OA}{ms:NL}{i m:Nat}{o:Oper}{Hw:AH}{Aw:NQ}{Lw:OL}{f:Fr}(h:SO E ⟨false,ops,[],S,A0,Hw,Aw,Lw⟩ m [o] (fun f H=>K .normal f H) f H0 A L):
 SO E ⟨true,ops,ms,S,A0,Hw,Aw,Lw⟩ i [] (fun f H=>∃Ls g K',RunD E false ops [] (HS S Hw A0 Aw Lw) m [o] f H Ls g K'/\K .normal g K') f H0 A L:=fun _ H hH=>⟨[],f,H,.nil,h (fun hD=>by cases hD) H hH⟩
end
end Go.AM
