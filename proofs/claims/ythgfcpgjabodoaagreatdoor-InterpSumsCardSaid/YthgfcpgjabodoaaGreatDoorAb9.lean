/-
  An abstract machine that runs a program of the given form, and its soundness, part 9.
-/
import Derived.Test.YthgfcpgjabodoaaGreatDoorAb8
import Derived.Lib.ItoaMem
set_option linter.unusedVariables false
set_option linter.unusedSimpArgs false
set_option linter.unusedSectionVars false
noncomputable section
namespace Go.AM
open Go.RowKit
def kZ (N : Nat) (κ : List Nat) (B j : Nat) : Nat := bif Nat.blt j N then j else match κ[j - N]? with
 | some i => i
 | none => B + j
theorem gQ {N B j : Nat} {κ : List Nat} (h : j < N) : kZ N κ B j = j := by unfold kZ; rw [show Nat.blt j N = true from Nat.ble_eq_true_of_le h, cond_true]
theorem kQ {N B j : Nat} {κ : List Nat} (h : N ≤ j) : kZ N κ B j = match κ[j - N]? with
 | some i => i
 | none => B + j := by unfold kZ; rw [show Nat.blt j N = false by (cases hb : Nat.blt j N with | false => rfl | true => exact absurd (Nat.le_of_ble_eq_true hb) (by omega)), cond_false]
def mO (S : AH) : Bool := (List.range S.nx).all fun j => match S.tr.get j with
 | some o => scO S.nx o
 | none => true
theorem yQ {S : AH} (h : mO S = true) {j : Nat} (hj : j < S.nx) {o : AObj} (ho : S.tr.get j = some o) : scO S.nx o = true := by
 unfold mO at h
 rw [List.all_eq_true] at h
 have := h j (List.mem_range.2 hj)
 rw [ho] at this
 exact this
def xC : OL → Tr AObj → Tr AObj
 | [], t => t
 | p :: r, t => (xC r t).set p.1 (some p.2)
theorem aBg : ∀ (l : OL) (t : Tr AObj) (j : Nat) (o : AObj), (xC l t).get j = some o → (j, o) ∈ l ∨ ((∀ p ∈ l, p.1 ≠ j) ∧ t.get j = some o)
 | [], t, j, o, h => .inr ⟨fun p hp => (by cases hp), h⟩
 | p :: r, t, j, o, h => by
  have h : ((xC r t).set p.1 (some p.2)).get j = some o := h
  rw [Tr.get_set] at h
  by_cases e : j = p.1
  ·rw [if_pos e] at h; cases h; subst e; exact .inl (List.mem_cons_self ..)
  ·rw [if_neg e] at h
   rcases aBg r t j o h with q | ⟨q1, q2⟩
   ·exact .inl (List.mem_cons_of_mem _ q)
   ·exact .inr ⟨fun x hx => by
     rcases List.mem_cons.1 hx with rfl | hx
     ·exact fun q => e q.symm
     ·exact q1 x hx, q2⟩
def imgL (ρ : Nat → Value) (ι : Nat → Nat) (l : OL) : OL := l.map fun p => (ι p.1, rnO ρ ι p.2)
section
variable {P : Program} {σ0 σ : Sg}
theorem ACalls.turn {g : FuncId} {args : List Value} {S : AH} {Li Lo : OL} {v : Value} {m : Nat} (ρ : Nat → Value) (hρ : Fits σ σ0 ρ) (hLi : ∀ p ∈ Li, p.1 < S.nx) (hLo : ∀ p ∈ Lo, p.1 < S.nx + m) (hall : ∀ p ∈ Li, ∃ q ∈ Lo, q.1 = p.1) (sc : mO S = true)
 (hc : XCall (σ := σ) P g (rnL ρ id args) (pD ρ S) fun u K => ∃ κ : List Nat, κ.length = m ∧ (∀ i ∈ κ, S.nx ≤ i ∧ i < K.nx) ∧ κ.Nodup ∧ S.nx ≤ K.nx ∧ (∀ j, j < S.nx → ¬ ids Li j → K.tr.get j = (pD ρ S).tr.get j) ∧
  (∀ p ∈ imgL ρ (kZ S.nx κ K.nx) Lo, K.tr.get p.1 = some p.2) ∧ u = rn ρ (kZ S.nx κ K.nx) v) :
 ACalls (σ := σ0) P g args S fun u K => u = v ∧ K = ⟨S.w0, S.nx + m, xC Lo S.tr⟩ := by
 refine ACalls.pull (σ0 := σ0) (σ := σ) (S' := ⟨S.w0, S.nx + m, xC Lo S.tr⟩) ρ hρ rfl (Nat.le_add_right _ _) fun wf => ?_
 obtain ⟨u, K, ⟨κ, k1, k2, k3, k4, k5, k6, rfl⟩, kw, hcall⟩ := hc
 refine ⟨_, K, ⟨kZ S.nx κ K.nx, fun j hj => gQ hj, fun j hj => ?_, fun j hj => ?_, fun i j hi hj he => ?_, rfl, fun j o hj => ?_⟩, kw, hcall⟩
 ·have hj : S.nx + m ≤ j := hj
  rw [kQ (by omega), List.getElem?_eq_none (by omega)]
  simp only; omega
 ·have hj : j < S.nx + m := hj
  rcases Nat.lt_or_ge j S.nx with h | h
  ·rw [gQ h]; omega
  ·have hk : j - S.nx < κ.length := by omega
   rw [kQ h, List.getElem?_eq_getElem hk]
   exact (k2 _ (List.getElem_mem hk)).2
 ·have hi : i < S.nx + m := hi
  have hj : j < S.nx + m := hj
  rcases Nat.lt_or_ge i S.nx with h1 | h1 <;> rcases Nat.lt_or_ge j S.nx with h2 | h2
  ·rw [gQ h1, gQ h2] at he; exact he
  ·have hk : j - S.nx < κ.length := by omega
   rw [gQ h1, kQ h2, List.getElem?_eq_getElem hk] at he
   have := (k2 _ (List.getElem_mem hk)).1
   simp only at he; omega
  ·have hk : i - S.nx < κ.length := by omega
   rw [kQ h1, gQ h2, List.getElem?_eq_getElem hk] at he
   have := (k2 _ (List.getElem_mem hk)).1
   simp only at he; omega
  ·have hki : i - S.nx < κ.length := by omega
   have hkj : j - S.nx < κ.length := by omega
   rw [kQ h1, kQ h2, List.getElem?_eq_getElem hki, List.getElem?_eq_getElem hkj] at he
   have := (List.getElem_inj k3).1 he
   omega
 ·have hj : (xC Lo S.tr).get j = some o := hj
  rcases aBg Lo S.tr j o hj with q | ⟨q1, q2⟩
  ·refine ⟨hLo _ q, ?_⟩
   exact k6 (kZ S.nx κ K.nx j, rnO ρ (kZ S.nx κ K.nx) o) (List.mem_map.2 ⟨_, q, rfl⟩)
  ·have hjn := wf j o q2
   have hni : ¬ ids Li j := by
    rintro ⟨p, hp, rfl⟩
    obtain ⟨r, hr, he⟩ := hall p hp
    exact q1 r hr he
   refine ⟨Nat.lt_of_lt_of_le hjn (Nat.le_add_right _ _), ?_⟩
   rw [gQ hjn, k5 j hjn hni, qZ q2, aEl (fun i hi => gQ hi) o (yQ sc hjn q2)]
end
theorem aAf (a : Addr) : rnA id a = a := by
 rcases Nat.mod_two_eq_zero_or_one a.block with h | h
 ·exact vA h
 ·rw [qS h]
  have : 2 * id (a.block / 2) + 1 = a.block := by simp only [id]; omega
  rw [this]
mutual
theorem aFa : ∀ v : Value, rn phs id v = v
 | .bool b => by rw [rn]
 | .int k m => by rw [rn]
 | .float k m => by rw [rn]
 | .complex k m m' => by rw [rn]
 | .string s => by rw [rn]
 | .pointer none => by rw [rn]
 | .pointer (some a) => by rw [rn, aAf]
 | .slice none l c => by rw [rn]
 | .slice (some a) l c => by rw [rn, aAf]
 | .map none => by rw [rn]
 | .map (some r) => by
  rw [rn]
  unfold rnB
  rcases Nat.mod_two_eq_zero_or_one r with h | h
  ·rw [aHj h]; rfl
  ·rw [aHp h, cond_false]
   have : 2 * id (r / 2) + 1 = r := by simp only [id]; omega
   rw [this]
 | .chan none => by rw [rn]
 | .chan (some r) => by
  rw [rn]
  rcases Nat.mod_two_eq_zero_or_one r with h | h
  ·rw [aHj h]; rfl
  ·rw [aHp h, cond_false, phs]
   have : 2 * (r / 2) + 1 = r := by omega
   rw [this]
 | .func fn ⟨a⟩ ⟨b⟩ => by rw [rn, qE a, qE b]
 | .nilFunc => by rw [rn]
 | .iface t v => by rw [rn, aFa v]
 | .nilIface => by rw [rn]
 | .agg ⟨a⟩ => by rw [rn, qE a]
 | .tuple ⟨a⟩ => by rw [rn, qE a]
theorem qE : ∀ l : List Value, rnL phs id l = l
 | [] => by rw [rnL]
 | v :: r => by rw [rnL, aFa v, qE r]
end
theorem aKm (o : AObj) : rnO phs id o = o := by
 cases o with
 | cells cs sz ex => rw [rnO, qE]
 | map es clock =>
  rw [rnO]
  congr 1
  conv => rhs; rw [← List.map_id es]
  apply List.map_congr_left
  intro e _
  rw [aFa, aFa]; rfl
 | iter s p => rw [rnO]
theorem aQg {S : AH} {j : Nat} {o : AObj} (h : S.tr.get j = some o) : (pD phs S).tr.get j = some o := by rw [qZ h, aKm]
def qX : List Value → List Value → Bool
 | [], [] => true
 | v :: r, v' :: r' => veq v v' && qX r r'
 | _, _ => false
theorem oO : ∀ {l l' : List Value}, qX l l' = true → l = l'
 | [], [], _ => rfl
 | v :: r, v' :: r', h => by
  simp only [qX, Bool.and_eq_true] at h
  rw [aAt h.1, oO h.2]
 | [], _ :: _, h => by simp [qX] at h
 | _ :: _, [], h => by simp [qX] at h
def oeq : AObj → AObj → Bool
 | .cells cs sz ex, .cells cs' sz' ex' => qX cs cs' && (Nat.beq sz sz' && ex == ex')
 | .map [] c, .map [] c' => Nat.beq c c'
 | _, _ => false
theorem aSh {o o' : AObj} (h : oeq o o' = true) : o = o' := by
 unfold oeq at h
 split at h
 ·simp only [Bool.and_eq_true] at h
  obtain ⟨h1, h2, h3⟩ := h
  rw [oO h1, Nat.eq_of_beq_eq_true h2, eq_of_beq h3]
 ·rw [Nat.eq_of_beq_eq_true h]
 ·cases h
def aGk (S : AH) : OL → Bool
 | [] => true
 | p :: r => Nat.blt p.1 S.nx && ((match S.tr.get p.1 with
  | some o => oeq o p.2
  | none => false) && (r.all (fun q => !(Nat.beq p.1 q.1)) && aGk S r))
theorem aAo {S : AH} : ∀ {l : OL}, aGk S l = true → (∀ p ∈ l, S.tr.get p.1 = some p.2 ∧ p.1 < S.nx) ∧ l.Pairwise fun p q => p.1 ≠ q.1
 | [], _ => ⟨fun p hp => (by cases hp), List.Pairwise.nil⟩
 | p :: r, h => by
  simp only [aGk, Bool.and_eq_true] at h
  obtain ⟨h1, h2, h3, h4⟩ := h
  obtain ⟨q1, q2⟩ := aAo h4
  have hp : S.tr.get p.1 = some p.2 := by
   split at h2
   ·rename_i o ho
    rw [ho, aSh h2]
   ·cases h2
  refine ⟨fun x hx => ?_, List.Pairwise.cons (fun q hq e => ?_) q2⟩
  ·rcases List.mem_cons.1 hx with rfl | hx
   ·exact ⟨hp, Nat.le_of_ble_eq_true h1⟩
   ·exact q1 x hx
  ·have := List.all_eq_true.1 h3 q hq
   rw [e] at this
   simp at this
end Go.AM
namespace Go.AM
open Go.RowKit
def Bz (z : Nat) : Prop := z = 1 ∨ z = fG + 5
theorem Bz.fits {z : Nat} (h : Bz z) : lQ z 1 5 = true := by rcases h with rfl | rfl <;> rfl
def zx (z : Nat) (bs : List UInt8) (d : Nat) : Nat := match bs with
 | [] => d
 | _ :: _ => z
theorem aIt (z d : Nat) : zx z [] d = d := rfl
theorem aFy (z d : Nat) (b : UInt8) (bs : List UInt8) : zx z (b :: bs) d = z := rfl
theorem aFr {bs : List UInt8} (h : bs ≠ []) (z d : Nat) : zx z bs d = z := by
 cases bs with
 | nil => exact absurd rfl h
 | cons b bs => rfl
theorem Bz.zx {z d : Nat} (h : Bz z) (k : Bz d) (bs : List UInt8) : Bz (zx z bs d) := by cases bs <;> assumption
def bro (M z : Nat) : List UInt8 → OL
 | [] => []
 | b :: bs => [(M, .cells ((b :: bs).map bL) z false)]
def bsv (M : Nat) : List UInt8 → Value
 | [] => .slice none 0 0
 | b :: bs => .slice (some ⟨2 * M + 1, 0, none⟩) (b :: bs).length (b :: bs).length
theorem dO {M z : Nat} {bs : List UInt8} (h : bs ≠ []) : bro M z bs = [(M, .cells (bs.map bL) z false)] := by
 cases bs with
 | nil => exact absurd rfl h
 | cons b bs => rfl
theorem iG {M : Nat} {bs : List UInt8} (h : bs ≠ []) : bsv M bs = .slice (some ⟨2 * M + 1, 0, none⟩) bs.length bs.length := by
 cases bs with
 | nil => exact absurd rfl h
 | cons b bs => rfl
theorem rN (M : Nat) (bs : List UInt8) : ∃ a, bsv M bs = .slice a bs.length bs.length := by cases bs <;> exact ⟨_, rfl⟩
variable [σ : Sg]
section
variable {P : Program} {E : Env P} {G : RG} {i n d : Nat} {r : List Oper} {Q : Fr → AH → Prop} {t : Tr Value} {l : List (Nat × Value)} {S H0 H H1 : AH} {A0 A A1 : Nat → Prop} {L L' Li Lo : OL} {v u : Value}
 {ty : TypeId} {ps : String} {af : Array Edge} {gd : Option (Nat × Bool)} {x y z : Operand}
theorem rM {c : Call} {sT xT : TypeId} {dx : TypeDesc} {ii : TI} {zv : Value} {M zz : Nat} {w : Value} {bs nw : List UInt8} (hw : gok G.ops l gd = true) (hdn : Nat.ble (d + 1) n = true) (hm : G.D = true → i ∈ G.ms) (hc : c.callee = .builtin .append) (ha : c.args.toList = [x, y]) (ht : c.argTypes.toList = [sT, xT])
 (hx : opv l x = some (bsv M bs)) (hy : opv l y = some w) (hu : E.und sT = some (.slice 5)) (hux : E.und xT = some dx) (hdx : gX dx = false) (hi : E.inf 5 = some ii) (hz : ii.zero = some zv) (hs : ii.size = 1) (hbt : ii.bytes = 1) (h0 : nw ≠ []) (hf : kL G.S H0 G.A0 A L 1 nw.length w (nw.map bL))
 (hr : Takes (bro M zz bs) L L') (hzz : Bz zz) (hbig : bs.length + nw.length ≤ 1099511627776) (hD' : G.D = true → G.Lw.Sublist L')
 (h : ∀ M, SO E G (i + 1) r Q (fr n t ((d, bsv M (bs ++ nw)) :: l)) H0 A (bro M (zx zz bs 1) (bs ++ nw) ++ L')) : SO E G i (⟨some d, .call c, ty, ps, af, gd⟩ :: r) Q (fr n t l) H0 A L := by
 have hm0 : nw.length ≠ 0 := fun e => h0 (List.eq_nil_of_length_eq_zero e)
 have hne : bs ++ nw ≠ [] := by simp [h0]
 cases bs with
 | nil =>
  obtain rfl := hr.nil'
  refine sJ (m := nw.length) (base := none) (sl := 0) (old := []) (sz := 1) (bt := 1) (cs' := nw.map bL) hw hdn hm hc ha ht hx hy hu hux hdx hi hz hs (by decide) hbt hm0 hf (.inl ⟨rfl, rfl, rfl⟩) (jW (by simp at hbig; omega)) (by simp at hbig; omega) rfl (Nat.zero_add _) fun N => ?_
  have := h N
  rw [List.nil_append, iG h0, dO h0, aIt] at this
  exact this
 | cons b bs =>
  have hrm := hr.one
  refine nC hw rfl hdn hm fun hD H hH => ?_
  have e1 := aIw hz
  have e2 : Nat.beq nw.length 0 = false := by cases hq : nw.length with | zero => exact absurd hq hm0 | succ k => rfl
  have e3 := aFx (a := (b :: bs).length) hm0
  have hg : H.tr.get M = some (.cells ((b :: bs).map bL) zz false) := (hH.own _ hrm.mem).1
  have hk := (hH.kill hrm).push (.cells ((b :: bs).map bL ++ nw.map bL) zz false)
  have hh := h H.nx
  rw [iG hne, dO hne, aFy, List.map_append, List.length_append] at hh
  refine ⟨_, _, H0, A, (H.nx, .cells ((b :: bs).map bL ++ nw.map bL) zz false) :: L', .inl ?_, hk, (hD.list hD').push _, hh⟩
  have e4 : (Nat.beq (0 + (b :: bs).length * 1) ((b :: bs).map bL).length && (iZ ((b :: bs).length + nw.length) 1 && (Nat.ble ((b :: bs).length + nw.length) 140737488355328 && (Nat.beq (nw.map bL).length (nw.length * 1) && cX (nw.map bL))))) = true := by
   simp only [Bool.and_eq_true]
   exact ⟨by simp, jW (by omega), Nat.ble_eq_true_of_le (by omega), by simp, qU _⟩
  have hx2 : opv l x = some (.slice (some ⟨2 * M + 1, 0, none⟩) (b :: bs).length (b :: bs).length) := hx
  simp only [aop, hc, ha, ht, hY, cC hx2, cC hy, hu, hux, hdx, cond_false, hi, hf.1, hs, e1, hbt, hf.2.2.1 H hH, e2, kM, eI, hg, hzz.fits, cond_true, e3, e4, dZ, List.drop_zero]
theorem vG {c : Call} {sT xT : TypeId} {ii : TI} {zv : Value} {M zz : Nat} {bs : List UInt8} {s : ByteArray} {nw : List UInt8} (hw : gok G.ops l gd = true) (hdn : Nat.ble (d + 1) n = true) (hm : G.D = true → i ∈ G.ms) (hc : c.callee = .builtin .append) (ha : c.args.toList = [x, y]) (ht : c.argTypes.toList = [sT, xT])
 (hx : opv l x = some (bsv M bs)) (hy : opv l y = some (.string s)) (hsn : s.data.toList = nw) (hu : E.und sT = some (.slice 5)) (hux : E.und xT = some .string) (hi : E.inf 5 = some ii) (hz : ii.zero = some zv) (hs : ii.size = 1) (hbt : ii.bytes = 1) (h0 : nw ≠ [])
 (hr : Takes (bro M zz bs) L L') (hzz : Bz zz) (hbig : bs.length + nw.length ≤ 1099511627776) (hD' : G.D = true → G.Lw.Sublist L')
 (h : ∀ M, SO E G (i + 1) r Q (fr n t ((d, bsv M (bs ++ nw)) :: l)) H0 A (bro M (zx zz bs (fG + 5)) (bs ++ nw) ++ L')) : SO E G i (⟨some d, .call c, ty, ps, af, gd⟩ :: r) Q (fr n t l) H0 A L := by
 subst hsn
 have hm0 : s.data.toList.length ≠ 0 := fun e => h0 (List.eq_nil_of_length_eq_zero e)
 have hne : bs ++ s.data.toList ≠ [] := by simp [h0]
 cases bs with
 | nil =>
  obtain rfl := hr.nil'
  refine aDk hw hdn hm hc ha ht hx hy hu hux hi hz hs hbt h0 (by simp at hbig; simp; omega) rfl fun N => ?_
  have := h N
  rw [List.nil_append, iG h0, dO h0, aIt] at this
  exact this
 | cons b bs =>
  have hrm := hr.one
  refine nC hw rfl hdn hm fun hD H hH => ?_
  have e1 := aIw hz
  have e2 : Nat.beq s.data.toList.length 0 = false := by cases hq : s.data.toList.length with | zero => exact absurd hq hm0 | succ k => rfl
  have e3 := aFx (a := (b :: bs).length) hm0
  have hg : H.tr.get M = some (.cells ((b :: bs).map bL) zz false) := (hH.own _ hrm.mem).1
  have hk := (hH.kill hrm).push (.cells ((b :: bs).map bL ++ s.data.toList.map bL) zz false)
  have hh := h H.nx
  rw [iG hne, dO hne, aFy, List.map_append, List.length_append] at hh
  refine ⟨_, _, H0, A, (H.nx, .cells ((b :: bs).map bL ++ s.data.toList.map bL) zz false) :: L', .inl ?_, hk, (hD.list hD').push _, hh⟩
  have e4 : (Nat.beq (0 + (b :: bs).length * 1) ((b :: bs).map bL).length && (iZ ((b :: bs).length + s.data.toList.length) 1 && (Nat.ble ((b :: bs).length + s.data.toList.length) 140737488355328 && (Nat.beq (s.data.toList.map bL).length (s.data.toList.length * 1) && cX (s.data.toList.map bL))))) = true := by
   simp only [Bool.and_eq_true]
   exact ⟨by simp, jW (by omega), Nat.ble_eq_true_of_le (by omega), by simp, qU _⟩
  have e5 : eH 1 s.data.toList.length (.string s) H = some (s.data.toList.map bL) := (xM rfl rfl H).2.2
  have hx2 : opv l x = some (.slice (some ⟨2 * M + 1, 0, none⟩) (b :: bs).length (b :: bs).length) := hx
  simp only [aop, hc, ha, ht, hY, cC hx2, cC hy, hu, hux, gX, cond_false, hi, iW, hs, e1, hbt, e5, e2, kM, eI, hg, hzz.fits, cond_true, e3, e4, dZ, List.drop_zero]
end
end Go.AM
namespace Go.AM
open Go.RowKit
theorem lE {off : Nat} {d : Array UInt8} {c : Array Value} : (Sort.putCells bL off d c).size = c.size := by simp [Sort.putCells]
theorem aOa {off : Nat} {d : Array UInt8} {c : Array Value} {j : Nat} (hj : j < d.size) (hle : off + d.size ≤ c.size) : (Sort.putCells bL off d c)[off + j]? = some (bL d[j]!) := by
 simp only [Sort.putCells, Array.getElem?_mapIdx]
 rw [Array.getElem?_eq_getElem (by omega)]
 simp only [Option.map_some]
 rw [if_pos (by omega), show off + j - off = j by omega]
theorem aKh {off : Nat} {d : Array UInt8} {c : Array Value} {j : Nat} (hj : off + d.size ≤ j) : (Sort.putCells bL off d c)[j]? = c[j]? := by
 simp only [Sort.putCells, Array.getElem?_mapIdx]
 cases h : c[j]? with
 | none => rfl
 | some x => simp only [Option.map_some]; rw [if_neg (by omega)]
theorem Upd.app {N : Nat} {o o' : AObj} {L1 L2 : OL} (h : Upd N o o' L1 L2) : ∀ {T : OL}, Upd N o o' (T ++ L1) (T ++ L2)
 | [] => h
 | x :: T => .succ (h.app (T := T))
variable [σ : Sg]
theorem VR.byte {φ : List Place} (b : UInt8) : VR φ (bL b) (bL b) := by unfold bL; exact .int _ _
theorem aLk [Pins] {φ : List Place} {H : AH} {w : World} {N n : Nat} {cs : List Value} {sz : Nat} {dk : Array UInt8} {ex : Bool} {p : Place} (R : Rel φ H w) (hg : H.tr.get N = some (.cells cs sz ex)) (hp : φ[N]? = some p) (hl : dk.size ≤ cs.length) :
 Rel φ { H with tr := H.tr.set N (some (.cells (dk.toList.map bL ++ cs.drop dk.size) sz ex)) } ((Sort.putRow bL w p.blk p.base dk).drewN n) := by
 obtain ⟨q, hq, hN, hO⟩ := R.obj _ _ hg
 rw [hp] at hq; cases hq
 obtain ⟨C, e, lo, hi, hx, hf, ht, hs, hle, hex, hr⟩ := hO
 have hlen' : (dk.toList.map bL ++ cs.drop dk.size).length = cs.length := by simp; omega
 have hblk := R.lt N p hp
 have hh : ∀ k : Nat, ((Sort.putRow bL w p.blk p.base dk).drewN n).heap[k]? = (w.heap.modify p.blk (Sort.onCells (Sort.putCells bL p.base dk)))[k]? := fun k => rfl
 have other : ∀ k : Nat, k ≠ p.blk → ((Sort.putRow bL w p.blk p.base dk).drewN n).heap[k]? = w.heap[k]? := by
  intro k hne
  rw [hh, Array.getElem?_modify, if_neg (fun h => hne h.symm)]
 have hsize : ((Sort.putRow bL w p.blk p.base dk).drewN n).heap.size = w.heap.size := by
  have h2 : ((Sort.putRow bL w p.blk p.base dk).drewN n).heap.size = (w.heap.modify p.blk (Sort.onCells (Sort.putCells bL p.base dk))).size := rfl
  rw [h2, Array.size_modify]
 refine ⟨⟨R.below.os, R.below.tape, R.below.output, ?_, fun k hk => ?_⟩, R.len, fun j o' hj => ?_, fun j k o1 o2 p1 p2 hj hk hp1 hp2 hE => ?_, fun b x hb => ⟨(other b (fun e => (R.pin b x hb).2 N p hp e.symm)).trans (R.pin b x hb).1, (R.pin b x hb).2⟩, fun i q hq => by rw [hsize]; exact R.lt i q hq⟩
 ·have h1 : H.w0.heap.size ≤ w.heap.size := R.below.size
  show H.w0.heap.size ≤ _
  rw [hsize]; exact h1
 ·have hk' : k < H.w0.heap.size := hk
  rw [other k (by omega)]; exact R.below.block k hk
 ·by_cases hji : j = N
  ·subst hji
   simp only [Tr.get_set_same] at hj
   cases hj
   have hsz : (Sort.putCells bL p.base dk C).toList.length = C.size := by rw [Array.length_toList]; exact lE
   refine ⟨p, hp, hN, Sort.putCells bL p.base dk C, e, lo, hi, ?_, ?_, ?_, hs, ?_, ?_, ?_⟩
   ·rw [hh, Array.getElem?_modify, if_pos rfl, hx]; rfl
   ·rw [lE]; exact hf
   ·rw [lE]; exact ht
   ·rw [lE, hlen']; exact hle
   ·rw [lE, hlen']; exact hex
   ·rw [hlen']
    refine ⟨by rw [hlen', List.length_take, List.length_drop, hsz]; omega, fun i u u' hu hu' => ?_⟩
    have hi' := lt_of_getElem? hu
    rw [hlen'] at hi'
    rw [List.getElem?_take, if_pos hi', List.getElem?_drop, Array.getElem?_toList] at hu'
    rcases Nat.lt_or_ge i dk.size with h | h
    ·rw [aOa h (by omega)] at hu'
     rw [List.getElem?_append_left (by simpa using h), List.getElem?_map, Array.getElem?_toList, Array.getElem?_eq_getElem h] at hu
     cases hu; cases hu'
     rw [getElem!_pos dk i h]
     exact VR.byte _
    ·rw [aKh (by omega)] at hu'
     rw [List.getElem?_append_right (by simpa using h), List.getElem?_drop] at hu
     have e1 : dk.size + (i - (dk.toList.map bL).length) = i := by simp; omega
     rw [e1] at hu
     obtain ⟨u2, h9, h10⟩ := hr.get hu
     rw [List.getElem?_take, if_pos hi', List.getElem?_drop, Array.getElem?_toList] at h9
     rw [h9] at hu'; cases hu'
     exact h10
  ·simp only [Tr.get_set_ne _ _ hji] at hj
   obtain ⟨q, hq, hNq, hOq⟩ := R.obj _ _ hj
   refine ⟨q, hq, hNq, ?_⟩
   have hne : q.blk ≠ p.blk := fun hE => hji (R.inj j N _ _ q p hj hg hq hp hE)
   rw [other _ hne]; exact hOq
 ·have back : ∀ j o', (H.tr.set N (some (AObj.cells (dk.toList.map bL ++ cs.drop dk.size) sz ex))).get j = some o' → ∃ o'', H.tr.get j = some o'' := by
   intro j o' h
   by_cases hji : j = N
   ·subst hji; exact ⟨_, hg⟩
   ·exact ⟨o', by rwa [Tr.get_set_ne _ _ hji] at h⟩
  obtain ⟨o1', h1⟩ := back _ _ hj
  obtain ⟨o2', h2⟩ := back _ _ hk
  exact R.inj j k _ _ p1 p2 h1 h2 hp1 hp2 hE
theorem aHg [Pins] {φ : List Place} {H : AH} {w : World} {N m nd : Nat} {cs : List Value} {sz : Nat} {ex : Bool} {ds : Array UInt8} {v' : Value} (R : Rel φ H w) (hg : H.tr.get N = some (.cells cs sz ex)) (hd : ∀ j, j < ds.size → cs[j]? = some (bL ds[j]!)) (hnd : ds.size = nd) (hne : 0 < nd) (hle0 : nd ≤ cs.length) (hv : VR φ (.slice (some ⟨2 * N + 1, 0, none⟩) nd m) v') :
 ∃ p cap, φ[N]? = some p ∧ v' = .slice (some ⟨p.blk, p.base, none⟩) nd cap ∧ Sort.Holds bL w p.blk p.base ds := by
 subst hnd
 cases hv with
 | @slc _ a' _ _ cap h =>
  rcases h with ⟨h, _⟩ | ⟨_, h1, h2, h3⟩
  ·simp only at h; omega
  ·rcases h3 with h3 | ⟨h3, h4⟩
   ·omega
   ·rcases h3 with ⟨h3, _⟩ | ⟨_, _, h5, p, hp, h6, h7⟩
    ·simp only at h3; omega
    ·rw [eI] at hp
     simp only [Nat.add_zero] at h7
     obtain ⟨q, hq, hN, hO⟩ := R.obj _ _ hg
     rw [hp] at hq; cases hq
     obtain ⟨C, e, lo, hi, hx, hf, ht, hs, hle, hex, hr⟩ := hO
     have ea : a' = ⟨p.blk, p.base, none⟩ := by cases a'; simp only at h5 h6 h7; subst h5; subst h6; subst h7; rfl
     subst ea
     refine ⟨p, cap, hp, rfl, fun j hj => ?_⟩
     have hC : C[p.base + j]? = some (bL ds[j]!) := by
      obtain ⟨u', h9, h10⟩ := hr.get (hd j hj)
      rw [List.getElem?_take, if_pos (by omega), List.getElem?_drop, Array.getElem?_toList] at h9
      rw [h9]
      unfold bL at h10 ⊢
      cases h10
      rfl
     have hfr := hf (p.base + j) (by omega)
     refine ⟨?_, ?_⟩
     ·simp only [World.cell?, hx]
      rw [hC]
      simp
     ·simp only [World.frozen?, hx]
      rw [← Bool.decide_and]; exact decide_eq_false (fun q => absurd (hfr q.1) (by omega))
section
variable {P : Program} {E : Env P} {G : RG} {i n d : Nat} {r : List Oper} {Q : Fr → AH → Prop} {t : Tr Value} {l : List (Nat × Value)} {H0 : AH} {A : Nat → Prop} {L : OL}
 {ty : TypeId} {ps : String} {af : Array Edge} {gd : Option (Nat × Bool)} {x : Operand}
theorem aGq {S : AH} {A0 : Nat → Prop} {K sz' m cap : Nat} {new rest : List Value} {ex : Bool} (hm : (K, AObj.cells (new ++ rest) sz' ex) ∈ L) (hl : new.length = m) : kL S H0 A0 A L 1 m (.slice (some ⟨2 * K + 1, 0, none⟩) m cap) new :=
 ⟨rfl, by omega, fun H hH => by
  simp only [eH]
  rw [fX (hH.own _ hm).1 0 (m * 1) none (by simp; omega)]
  simp [← hl], rfl⟩
theorem yK {ta e : TypeId} {na : Nat} {lo hi mx : Option Operand} {ii : TI} {N off sz p q m : Nat} {cs : List Value} {ex : Bool} (hw : gok G.ops l gd = true) (hdn : Nat.ble (d + 1) n = true) (hx : opv l x = some (.pointer (some ⟨2 * N + 1, off, none⟩))) (hu : E.und ta = some (.array na e)) (hi' : E.inf e = some ii)
 (hm : (N, AObj.cells cs sz ex) ∈ qL G L) (hsz : Nat.beq sz ii.size = true) (hoff : Nat.ble (off + na * ii.size) cs.length = true) (hb : gE na na (lo.map (cF (fr n t l))) (hi.map (cF (fr n t l))) (mx.map (cF (fr n t l))) = some (p, q, m))
 (h : SO E G (i + 1) r Q (fr n t ((d, .slice (some ⟨2 * N + 1, off + p * ii.size, none⟩) (q - p) (m - p)) :: l)) H0 A L) : SO E G i (⟨some d, .slice ta x lo hi mx, ty, ps, af, gd⟩ :: r) Q (fr n t l) H0 A L :=
 oD rfl hw rfl hdn (fun H hH => by
  have e3 : Nat.beq 1 0 = false := rfl
  simp only [aop, cC hx, uZ, hu, hi', hb, kM, e3, cond_false, eI, (hH.own _ hm).1, hsz, hoff, Bool.and_self, cond_true, cO, zJ]) h
structure Fresh (H H' : AH) (Lo : OL) : Prop where
 kept : Kept H.nx H H'
 out : ∀ p ∈ Lo, H'.tr.get p.1 = some p.2 ∧ H.nx ≤ p.1 ∧ p.1 < H'.nx
 dist : Lo.Pairwise (fun p q => p.1 ≠ q.1)
theorem aIy {c : Call} {g : FuncId} {vs : List Value} (T : Value → OL → Prop) (hw : gok G.ops l gd = true) (hdn : Nat.ble (d + 1) n = true) (hm : G.D = true → i ∈ G.ms) (hc : c.callee = .value (.func g)) (hg : ∃ fn, E.fn g = some fn) (ha : Opvs l c.args.toList vs)
 (hk : ∀ H, HS G.S H0 G.A0 A L H → XCall P g vs H fun u H' => ∃ Lo, Fresh H H' Lo ∧ T u Lo)
 (h : ∀ u Lo, T u Lo → SO E G (i + 1) r Q (fr n t ((d, u) :: l)) H0 A (Lo ++ L)) : SO E G i (⟨some d, .call c, ty, ps, af, gd⟩ :: r) Q (fr n t l) H0 A L :=
 nC hw rfl hdn hm fun hD H hH => by
  obtain ⟨fn, hg⟩ := hg
  obtain ⟨u, H', ⟨Lo, k, hT⟩, hw0, hcall⟩ := hk H hH
  have hf := hH.later k.kept
  refine ⟨u, H', H0, A, Lo ++ L, .inr ⟨hw0, g, vs, ?_, hcall⟩, ⟨hf.kept, hf.base, hf.w0, hf.sub, hf.lt, fun p hp => ?_, List.pairwise_append.2 ⟨k.dist, hf.dist, fun p hp q hq => ?_⟩⟩, (fun hDt => ⟨fun p hp => List.mem_append_right _ ((hD hDt).1 p hp), (hD hDt).2⟩), h u Lo hT⟩
  ·simp only [dJ, hc, oI, hg, ha.ok, List.append_nil, List.nil_append]
  ·rcases List.mem_append.1 hp with hp | hp
   ·obtain ⟨q1, q2, q3⟩ := k.out p hp
    exact ⟨q1, Nat.le_trans hH.kept.nx q2, q3, fun h => by have := hH.lt _ h; omega⟩
   ·exact hf.own p hp
  ·have := (k.out p hp).2.1
   have := (hH.own q hq).2.2.1
   omega
end
end Go.AM
namespace Go.AM
open Go.RowKit
structure CE where
 g : FuncId
 as : List Value
 v : Value
def ceL (l : List CE) (g : FuncId) (args : List Value) : Option Value :=
 match l with
 | [] => none
 | e :: r => bif Nat.beq e.g g && qX e.as args then some e.v else ceL r g args
def CE.Ok (P : Program) (ρ : Nat → Value) (e : CE) : Prop := (∀ S : AH, XCall (σ := noSg) P e.g (rnL ρ id e.as) S fun u K => u = rn ρ id e.v ∧ Kept S.nx S K) ∧ ∀ ι, rn ρ ι e.v = rn ρ id e.v
theorem aAc : ∀ {l : List CE} {g : FuncId} {args : List Value} {v : Value}, ceL l g args = some v → ∃ e ∈ l, e.g = g ∧ e.as = args ∧ e.v = v
 | [], g, args, v, h => by cases h
 | e :: r, g, args, v, h => by
  unfold ceL at h
  cases hc : (Nat.beq e.g g && qX e.as args) with
  | false =>
   rw [hc, cond_false] at h
   obtain ⟨x, hx, q⟩ := aAc h
   exact ⟨x, List.mem_cons_of_mem _ hx, q⟩
  | true =>
   rw [hc, cond_true] at h
   cases h
   simp only [Bool.and_eq_true] at hc
   exact ⟨e, List.mem_cons_self .., Nat.eq_of_beq_eq_true hc.1, oO hc.2, rfl⟩
def tcX (l : List CE) : cN := fun g args H => match ceL l g args with
 | some v => bif mO H then some (v, H, []) else none
 | none => none
theorem kY {P : Program} {lv : List Value} {hv : lv.all kX = true} {l : List CE} (hl : ∀ e ∈ l, e.Ok P (cB lv)) : cH (σ := sgL lv hv) P (tcX l) := by
 intro g args H v H' L h hL
 unfold tcX at h
 split at h
 ·rename_i v0 h0
  cases hc : mO H with
  | false => rw [hc] at h; cases h
  | true =>
   rw [hc, cond_true] at h
   cases h
   obtain ⟨e, he, rfl, rfl, rfl⟩ := aAc h0
   obtain ⟨o1, o2⟩ := hl e he
   refine ⟨rfl, ACalls.turn (σ0 := sgL lv hv) (σ := noSg) (Li := []) (Lo := []) (m := 0) (cB lv) (Fits.plain (gZ hv)) (fun p hp => by cases hp) (fun p hp => by cases hp) (fun p hp => by cases hp) hc ((o1 (pD (cB lv) H)).mono fun u K kw hu => ?_)⟩
   exact ⟨[], rfl, (fun i hi => by cases hi), List.nodup_nil, hu.2.nx, fun j hj _ => hu.2.get j hj, (fun p hp => by cases hp), hu.1.trans (o2 _).symm⟩
 ·cases h
structure NE where
 g : FuncId
 as : List Value
 k : Nat
 xs : List Value
 o : AObj
def NE.v (e : NE) (N : Nat) : Value := .tuple ⟨.slice (some ⟨2 * N + 1, 0, none⟩) e.k e.k :: e.xs⟩
def NE.Ok (P : Program) (ρ : Nat → Value) (e : NE) : Prop := (∀ S : AH, XCall (σ := noSg) P e.g (rnL ρ id e.as) S fun u K => ∃ N, S.nx ≤ N ∧ N < K.nx ∧ Kept S.nx S K ∧ K.tr.get N = some (rnO ρ id e.o) ∧ u = .tuple ⟨.slice (some ⟨2 * N + 1, 0, none⟩) e.k e.k :: rnL ρ id e.xs⟩) ∧ (∀ ι, rnO ρ ι e.o = rnO ρ id e.o) ∧ ∀ ι, rnL ρ ι e.xs = rnL ρ id e.xs
def tcN (e : NE) : cN := fun g args H => bif Nat.beq e.g g && (qX e.as args && mO H) then some (e.v H.nx, ⟨H.w0, H.nx + 1, xC [(H.nx, e.o)] H.tr⟩, []) else none
theorem kU {P : Program} {lv : List Value} {hv : lv.all kX = true} {e : NE} (hl : e.Ok P (cB lv)) : cH (σ := sgL lv hv) P (tcN e) := by
 intro g args H v H' L h hL
 unfold tcN at h
 cases hc : (Nat.beq e.g g && (qX e.as args && mO H)) with
 | false => rw [hc] at h; cases h
 | true =>
  rw [hc, cond_true] at h
  cases h
  simp only [Bool.and_eq_true] at hc
  obtain ⟨h1, h2, h3⟩ := hc
  obtain rfl := Nat.eq_of_beq_eq_true h1
  obtain rfl := oO h2
  obtain ⟨o1, o2, o3⟩ := hl
  refine ⟨rfl, ACalls.turn (σ0 := sgL lv hv) (σ := noSg) (Li := []) (Lo := [(H.nx, e.o)]) (m := 1) (cB lv) (Fits.plain (gZ hv)) (fun p hp => by cases hp) (fun p hp => ?_) (fun p hp => by cases hp) h3 ((o1 (pD (cB lv) H)).mono fun u K kw hu => ?_)⟩
  ·rcases List.mem_singleton.1 hp with rfl; exact Nat.lt_succ_self _
  ·obtain ⟨N, q1, q2, q3, q4, rfl⟩ := hu
   have e1 : kZ H.nx [N] K.nx H.nx = N := by rw [kQ (Nat.le_refl _), Nat.sub_self]; rfl
   refine ⟨[N], rfl, (fun i hi => by rcases List.mem_singleton.1 hi with rfl; exact ⟨q1, q2⟩), List.nodup_cons.2 ⟨(fun h => by cases h), List.nodup_nil⟩, q3.nx, fun j hj _ => q3.get j hj, fun p hp => ?_, ?_⟩
   ·obtain ⟨p0, hp0, rfl⟩ := List.mem_map.1 hp
    rcases List.mem_singleton.1 hp0 with rfl
    show K.tr.get (kZ H.nx [N] K.nx H.nx) = some (rnO _ _ e.o)
    rw [e1, o2]; exact q4
   ·have e2 : rnA (kZ H.nx [N] K.nx) ⟨2 * H.nx + 1, 0, none⟩ = ⟨2 * N + 1, 0, none⟩ := by
     rw [qS (by show (2 * H.nx + 1) % 2 = 1; omega)]
     show (⟨2 * kZ H.nx [N] K.nx ((2 * H.nx + 1) / 2) + 1, 0, none⟩ : Addr) = _
     rw [eI, e1]
    rw [NE.v, rn, rnL, rn, e2, o3 (kZ H.nx [N] K.nx)]
end Go.AM
namespace Go.AM
open Go.RowKit
section
variable [σ : Sg] {P : Program} {E : Env P} {G : RG} {i n d : Nat} {r : List Oper} {Q : Fr → AH → Prop} {t : Tr Value} {l : List (Nat × Value)} {H0 : AH} {A : Nat → Prop} {L : OL}
 {ty : TypeId} {ps : String} {af : Array Edge} {gd : Option (Nat × Bool)} {x : Operand}
theorem aHr {sT dT e : TypeId} {N m c sz : Nat} {cs : List Value} {ex : Bool} {bs : List UInt8} (hw : gok G.ops l gd = true) (hdn : Nat.ble (d + 1) n = true) (hx : opv l x = some (.slice (some ⟨2 * N + 1, 0, none⟩) m c)) (hs : E.und sT = some (.slice e)) (he : E.und e = some (.int .u8)) (hd : E.und dT = some .string)
 (hmem : (N, AObj.cells cs sz ex) ∈ qL G L) (hl : cs.length = m) (hb : lX cs = some bs) (h : SO E G (i + 1) r Q (fr n t ((d, .string ⟨⟨bs⟩⟩) :: l)) H0 A L) :
 SO E G i (⟨some d, .convert sT dT x, ty, ps, af, gd⟩ :: r) Q (fr n t l) H0 A L :=
 oD (by simp only [dK, hd]) hw rfl hdn (fun H hH => by
  have hg := fX (hH.own _ hmem).1 0 m none (by omega)
  rw [List.drop_zero, ← hl, List.take_length] at hg
  simp only [aop, cC hx, mR, hs, hd, he, ← hl, hg, hb]) h
theorem aEg {sT dT e : TypeId} {m c : Nat} (hw : gok G.ops l gd = true) (hdn : Nat.ble (d + 1) n = true) (hx : opv l x = some (.slice none m c)) (hs : E.und sT = some (.slice e)) (he : E.und e = some (.int .u8)) (hd : E.und dT = some .string)
 (h : SO E G (i + 1) r Q (fr n t ((d, .string ⟨⟨[]⟩⟩) :: l)) H0 A L) : SO E G i (⟨some d, .convert sT dT x, ty, ps, af, gd⟩ :: r) Q (fr n t l) H0 A L :=
 oD (by simp only [dK, hd]) hw rfl hdn (fun H hH => by simp only [aop, cC hx, mR, hs, hd, he]) h
end
end Go.AM
namespace Go.AM
open Go.RowKit
section
variable {P : Program} {σ0 σ : Sg}
end
end Go.AM
