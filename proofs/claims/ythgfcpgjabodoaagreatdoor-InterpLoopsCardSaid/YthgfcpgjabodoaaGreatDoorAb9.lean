/-
  An abstract machine that runs a program of the given form, and its soundness, part 9.
-/
import Derived.Test.YthgfcpgjabodoaaGreatDoorAb8
import Derived.Lib.ItoaMem
set_option linter.unusedVariables false
set_option linter.unusedSimpArgs false
set_option linter.unusedSectionVars false
noncomputable section
namespace Go.AM
open Go.RowKit
def fI (N : Nat) (κ : List Nat) (B j : Nat) : Nat := bif Nat.blt j N then j else match κ[j - N]? with
 | some i => i
 | none => B + j
theorem cY {N B j : Nat} {κ : List Nat} (h : j < N) : fI N κ B j = j := by unfold fI; rw [show Nat.blt j N = true from Nat.ble_eq_true_of_le h, cond_true]
theorem eN {N B j : Nat} {κ : List Nat} (h : N ≤ j) : fI N κ B j = match κ[j - N]? with
 | some i => i
 | none => B + j := by unfold fI; rw [show Nat.blt j N = false by (cases hb : Nat.blt j N with | false => rfl | true => exact absurd (Nat.le_of_ble_eq_true hb) (by omega)), cond_false]
def kB (S : AH) : Bool := (List.range S.nx).all fun j => match S.tr.get j with
 | some o => scO S.nx o
 | none => true
theorem yL {S : AH} (h : kB S = true) {j : Nat} (hj : j < S.nx) {o : AObj} (ho : S.tr.get j = some o) : scO S.nx o = true := by
 unfold kB at h
 rw [List.all_eq_true] at h
 have := h j (List.mem_range.2 hj)
 rw [ho] at this
 exact this
def pV : OL → Tr AObj → Tr AObj
 | [], t => t
 | p :: r, t => (pV r t).set p.1 (some p.2)
theorem uT : ∀ (l : OL) (t : Tr AObj) (j : Nat) (o : AObj), (pV l t).get j = some o → (j, o) ∈ l ∨ ((∀ p ∈ l, p.1 ≠ j) ∧ t.get j = some o)
 | [], t, j, o, h => .inr ⟨fun p hp => (by cases hp), h⟩
 | p :: r, t, j, o, h => by
  have h : ((pV r t).set p.1 (some p.2)).get j = some o := h
  rw [Tr.get_set] at h
  by_cases e : j = p.1
  ·rw [if_pos e] at h; cases h; subst e; exact .inl (List.mem_cons_self ..)
  ·rw [if_neg e] at h
   rcases uT r t j o h with q | ⟨q1, q2⟩
   ·exact .inl (List.mem_cons_of_mem _ q)
   ·exact .inr ⟨fun x hx => by
     rcases List.mem_cons.1 hx with rfl | hx
     ·exact fun q => e q.symm
     ·exact q1 x hx, q2⟩
def uE (ρ : Nat → Value) (ι : Nat → Nat) (l : OL) : OL := l.map fun p => (ι p.1, rnO ρ ι p.2)
section
variable {P : Program} {σ0 σ : Sg}
theorem ACalls.turn {g : FuncId} {args : List Value} {S : AH} {Li Lo : OL} {v : Value} {m : Nat} (ρ : Nat → Value) (hρ : Fits σ σ0 ρ) (hLi : ∀ p ∈ Li, p.1 < S.nx) (hLo : ∀ p ∈ Lo, p.1 < S.nx + m) (hall : ∀ p ∈ Li, ∃ q ∈ Lo, q.1 = p.1) (sc : kB S = true)
 (hc : XCall (σ := σ) P g (rnL ρ id args) (kU ρ S) fun u K => ∃ κ : List Nat, κ.length = m ∧ (∀ i ∈ κ, S.nx ≤ i ∧ i < K.nx) ∧ κ.Nodup ∧ S.nx ≤ K.nx ∧ (∀ j, j < S.nx → ¬ ids Li j → K.tr.get j = (kU ρ S).tr.get j) ∧
  (∀ p ∈ uE ρ (fI S.nx κ K.nx) Lo, K.tr.get p.1 = some p.2) ∧ u = rn ρ (fI S.nx κ K.nx) v) :
 ACalls (σ := σ0) P g args S fun u K => u = v ∧ K = ⟨S.w0, S.nx + m, pV Lo S.tr⟩ := by
 refine ACalls.pull (σ0 := σ0) (σ := σ) (S' := ⟨S.w0, S.nx + m, pV Lo S.tr⟩) ρ hρ rfl (Nat.le_add_right _ _) fun wf => ?_
 obtain ⟨u, K, ⟨κ, k1, k2, k3, k4, k5, k6, rfl⟩, kw, hcall⟩ := hc
 refine ⟨_, K, ⟨fI S.nx κ K.nx, fun j hj => cY hj, fun j hj => ?_, fun j hj => ?_, fun i j hi hj he => ?_, rfl, fun j o hj => ?_⟩, kw, hcall⟩
 ·have hj : S.nx + m ≤ j := hj
  rw [eN (by omega), List.getElem?_eq_none (by omega)]
  simp only; omega
 ·have hj : j < S.nx + m := hj
  rcases Nat.lt_or_ge j S.nx with h | h
  ·rw [cY h]; omega
  ·have hk : j - S.nx < κ.length := by omega
   rw [eN h, List.getElem?_eq_getElem hk]
   exact (k2 _ (List.getElem_mem hk)).2
 ·have hi : i < S.nx + m := hi
  have hj : j < S.nx + m := hj
  rcases Nat.lt_or_ge i S.nx with h1 | h1 <;> rcases Nat.lt_or_ge j S.nx with h2 | h2
  ·rw [cY h1, cY h2] at he; exact he
  ·have hk : j - S.nx < κ.length := by omega
   rw [cY h1, eN h2, List.getElem?_eq_getElem hk] at he
   have := (k2 _ (List.getElem_mem hk)).1
   simp only at he; omega
  ·have hk : i - S.nx < κ.length := by omega
   rw [eN h1, cY h2, List.getElem?_eq_getElem hk] at he
   have := (k2 _ (List.getElem_mem hk)).1
   simp only at he; omega
  ·have hki : i - S.nx < κ.length := by omega
   have hkj : j - S.nx < κ.length := by omega
   rw [eN h1, eN h2, List.getElem?_eq_getElem hki, List.getElem?_eq_getElem hkj] at he
   have := (List.getElem_inj k3).1 he
   omega
 ·have hj : (pV Lo S.tr).get j = some o := hj
  rcases uT Lo S.tr j o hj with q | ⟨q1, q2⟩
  ·refine ⟨hLo _ q, ?_⟩
   exact k6 (fI S.nx κ K.nx j, rnO ρ (fI S.nx κ K.nx) o) (List.mem_map.2 ⟨_, q, rfl⟩)
  ·have hjn := wf j o q2
   have hni : ¬ ids Li j := by
    rintro ⟨p, hp, rfl⟩
    obtain ⟨r, hr, he⟩ := hall p hp
    exact q1 r hr he
   refine ⟨Nat.lt_of_lt_of_le hjn (Nat.le_add_right _ _), ?_⟩
   rw [cY hjn, k5 j hjn hni, iK q2, wG (fun i hi => cY hi) o (yL sc hjn q2)]
end
theorem pW (a : Addr) : rnA id a = a := by
 rcases Nat.mod_two_eq_zero_or_one a.block with h | h
 ·exact uW h
 ·rw [nW h]
  have : 2 * id (a.block / 2) + 1 = a.block := by simp only [id]; omega
  rw [this]
mutual
theorem aFm : ∀ v : Value, rn phs id v = v
 | .bool b => by rw [rn]
 | .int k m => by rw [rn]
 | .float k m => by rw [rn]
 | .complex k m m' => by rw [rn]
 | .string s => by rw [rn]
 | .pointer none => by rw [rn]
 | .pointer (some a) => by rw [rn, pW]
 | .slice none l c => by rw [rn]
 | .slice (some a) l c => by rw [rn, pW]
 | .map none => by rw [rn]
 | .map (some r) => by
  rw [rn]
  unfold rnB
  rcases Nat.mod_two_eq_zero_or_one r with h | h
  ·rw [aHo h]; rfl
  ·rw [aIc h, cond_false]
   have : 2 * id (r / 2) + 1 = r := by simp only [id]; omega
   rw [this]
 | .chan none => by rw [rn]
 | .chan (some r) => by
  rw [rn]
  rcases Nat.mod_two_eq_zero_or_one r with h | h
  ·rw [aHo h]; rfl
  ·rw [aIc h, cond_false, phs]
   have : 2 * (r / 2) + 1 = r := by omega
   rw [this]
 | .func fn ⟨a⟩ ⟨b⟩ => by rw [rn, pA a, pA b]
 | .nilFunc => by rw [rn]
 | .iface t v => by rw [rn, aFm v]
 | .nilIface => by rw [rn]
 | .agg ⟨a⟩ => by rw [rn, pA a]
 | .tuple ⟨a⟩ => by rw [rn, pA a]
theorem pA : ∀ l : List Value, rnL phs id l = l
 | [] => by rw [rnL]
 | v :: r => by rw [rnL, aFm v, pA r]
end
theorem aIv (o : AObj) : rnO phs id o = o := by
 cases o with
 | cells cs sz ex => rw [rnO, pA]
 | map es clock =>
  rw [rnO]
  congr 1
  conv => rhs; rw [← List.map_id es]
  apply List.map_congr_left
  intro e _
  rw [aFm, aFm]; rfl
 | iter s p => rw [rnO]
theorem aPx {S : AH} {j : Nat} {o : AObj} (h : S.tr.get j = some o) : (kU phs S).tr.get j = some o := by rw [iK h, aIv]
def oI : List Value → List Value → Bool
 | [], [] => true
 | v :: r, v' :: r' => veq v v' && oI r r'
 | _, _ => false
theorem lN : ∀ {l l' : List Value}, oI l l' = true → l = l'
 | [], [], _ => rfl
 | v :: r, v' :: r', h => by
  simp only [oI, Bool.and_eq_true] at h
  rw [rS h.1, lN h.2]
 | [], _ :: _, h => by simp [oI] at h
 | _ :: _, [], h => by simp [oI] at h
def oeq : AObj → AObj → Bool
 | .cells cs sz ex, .cells cs' sz' ex' => oI cs cs' && (Nat.beq sz sz' && ex == ex')
 | .map [] c, .map [] c' => Nat.beq c c'
 | _, _ => false
theorem aNg {o o' : AObj} (h : oeq o o' = true) : o = o' := by
 unfold oeq at h
 split at h
 ·simp only [Bool.and_eq_true] at h
  obtain ⟨h1, h2, h3⟩ := h
  rw [lN h1, Nat.eq_of_beq_eq_true h2, eq_of_beq h3]
 ·rw [Nat.eq_of_beq_eq_true h]
 ·cases h
def aHb (S : AH) : OL → Bool
 | [] => true
 | p :: r => Nat.blt p.1 S.nx && ((match S.tr.get p.1 with
  | some o => oeq o p.2
  | none => false) && (r.all (fun q => !(Nat.beq p.1 q.1)) && aHb S r))
theorem aAl {S : AH} : ∀ {l : OL}, aHb S l = true → (∀ p ∈ l, S.tr.get p.1 = some p.2 ∧ p.1 < S.nx) ∧ l.Pairwise fun p q => p.1 ≠ q.1
 | [], _ => ⟨fun p hp => (by cases hp), List.Pairwise.nil⟩
 | p :: r, h => by
  simp only [aHb, Bool.and_eq_true] at h
  obtain ⟨h1, h2, h3, h4⟩ := h
  obtain ⟨q1, q2⟩ := aAl h4
  have hp : S.tr.get p.1 = some p.2 := by
   split at h2
   ·rename_i o ho
    rw [ho, aNg h2]
   ·cases h2
  refine ⟨fun x hx => ?_, List.Pairwise.cons (fun q hq e => ?_) q2⟩
  ·rcases List.mem_cons.1 hx with rfl | hx
   ·exact ⟨hp, Nat.le_of_ble_eq_true h1⟩
   ·exact q1 x hx
  ·have := List.all_eq_true.1 h3 q hq
   rw [e] at this
   simp at this
end Go.AM
namespace Go.AM
open Go.RowKit
def Bz (z : Nat) : Prop := z = 1 ∨ z = fK + 5
theorem Bz.fits {z : Nat} (h : Bz z) : lR z 1 5 = true := by rcases h with rfl | rfl <;> rfl
def zx (z : Nat) (bs : List UInt8) (d : Nat) : Nat := match bs with
 | [] => d
 | _ :: _ => z
theorem aIj (z d : Nat) : zx z [] d = d := rfl
theorem aFi (z d : Nat) (b : UInt8) (bs : List UInt8) : zx z (b :: bs) d = z := rfl
theorem tJ {bs : List UInt8} (h : bs ≠ []) (z d : Nat) : zx z bs d = z := by
 cases bs with
 | nil => exact absurd rfl h
 | cons b bs => rfl
theorem Bz.zx {z d : Nat} (h : Bz z) (k : Bz d) (bs : List UInt8) : Bz (zx z bs d) := by cases bs <;> assumption
def bro (M z : Nat) : List UInt8 → OL
 | [] => []
 | b :: bs => [(M, .cells ((b :: bs).map aN) z false)]
def bsv (M : Nat) : List UInt8 → Value
 | [] => .slice none 0 0
 | b :: bs => .slice (some ⟨2 * M + 1, 0, none⟩) (b :: bs).length (b :: bs).length
theorem cN {M z : Nat} {bs : List UInt8} (h : bs ≠ []) : bro M z bs = [(M, .cells (bs.map aN) z false)] := by
 cases bs with
 | nil => exact absurd rfl h
 | cons b bs => rfl
theorem eU {M : Nat} {bs : List UInt8} (h : bs ≠ []) : bsv M bs = .slice (some ⟨2 * M + 1, 0, none⟩) bs.length bs.length := by
 cases bs with
 | nil => exact absurd rfl h
 | cons b bs => rfl
theorem kM (M : Nat) (bs : List UInt8) : ∃ a, bsv M bs = .slice a bs.length bs.length := by cases bs <;> exact ⟨_, rfl⟩
variable [σ : Sg]
section
variable {P : Program} {E : Env P} {G : RG} {i n d : Nat} {r : List Oper} {Q : Fr → AH → Prop} {t : Tr Value} {l : List (Nat × Value)} {S H0 H H1 : AH} {A0 A A1 : Nat → Prop} {L L' Li Lo : OL} {v u : Value}
 {ty : TypeId} {ps : String} {af : Array Edge} {gd : Option (Nat × Bool)} {x y z : Operand}
theorem kX {c : Call} {sT xT : TypeId} {dx : TypeDesc} {ii : TI} {zv : Value} {M zz : Nat} {w : Value} {bs nw : List UInt8} (hw : gok G.ops l gd = true) (hdn : Nat.ble (d + 1) n = true) (hm : G.D = true → i ∈ G.ms) (hc : c.callee = .builtin .append) (ha : c.args.toList = [x, y]) (ht : c.argTypes.toList = [sT, xT])
 (hx : opv l x = some (bsv M bs)) (hy : opv l y = some w) (hu : E.und sT = some (.slice 5)) (hux : E.und xT = some dx) (hdx : gX dx = false) (hi : E.inf 5 = some ii) (hz : ii.zero = some zv) (hs : ii.size = 1) (hbt : ii.bytes = 1) (h0 : nw ≠ []) (hf : kH G.S H0 G.A0 A L 1 nw.length w (nw.map aN))
 (hr : Takes (bro M zz bs) L L') (hzz : Bz zz) (hbig : bs.length + nw.length ≤ 1099511627776) (hD' : G.D = true → G.Lw.Sublist L')
 (h : ∀ M, SO E G (i + 1) r Q (fr n t ((d, bsv M (bs ++ nw)) :: l)) H0 A (bro M (zx zz bs 1) (bs ++ nw) ++ L')) : SO E G i (⟨some d, .call c, ty, ps, af, gd⟩ :: r) Q (fr n t l) H0 A L := by
 have hm0 : nw.length ≠ 0 := fun e => h0 (List.eq_nil_of_length_eq_zero e)
 have hne : bs ++ nw ≠ [] := by simp [h0]
 cases bs with
 | nil =>
  obtain rfl := hr.nil'
  refine sY (m := nw.length) (base := none) (sl := 0) (old := []) (sz := 1) (bt := 1) (cs' := nw.map aN) hw hdn hm hc ha ht hx hy hu hux hdx hi hz hs (by decide) hbt hm0 hf (.inl ⟨rfl, rfl, rfl⟩) (jU (by simp at hbig; omega)) (by simp at hbig; omega) rfl (Nat.zero_add _) fun N => ?_
  have := h N
  rw [List.nil_append, eU h0, cN h0, aIj] at this
  exact this
 | cons b bs =>
  have hrm := hr.one
  refine mP hw rfl hdn hm fun hD H hH => ?_
  have e1 := aKz hz
  have e2 : Nat.beq nw.length 0 = false := by cases hq : nw.length with | zero => exact absurd hq hm0 | succ k => rfl
  have e3 := aEy (a := (b :: bs).length) hm0
  have hg : H.tr.get M = some (.cells ((b :: bs).map aN) zz false) := (hH.own _ hrm.mem).1
  have hk := (hH.kill hrm).push (.cells ((b :: bs).map aN ++ nw.map aN) zz false)
  have hh := h H.nx
  rw [eU hne, cN hne, aFi, List.map_append, List.length_append] at hh
  refine ⟨_, _, H0, A, (H.nx, .cells ((b :: bs).map aN ++ nw.map aN) zz false) :: L', .inl ?_, hk, (hD.list hD').push _, hh⟩
  have e4 : (Nat.beq (0 + (b :: bs).length * 1) ((b :: bs).map aN).length && (jC ((b :: bs).length + nw.length) 1 && (Nat.ble ((b :: bs).length + nw.length) 140737488355328 && (Nat.beq (nw.map aN).length (nw.length * 1) && cO (nw.map aN))))) = true := by
   simp only [Bool.and_eq_true]
   exact ⟨by simp, jU (by omega), Nat.ble_eq_true_of_le (by omega), by simp, qP _⟩
  have hx2 : opv l x = some (.slice (some ⟨2 * M + 1, 0, none⟩) (b :: bs).length (b :: bs).length) := hx
  simp only [aop, hc, ha, ht, iJ, bF hx2, bF hy, hu, hux, hdx, cond_false, hi, hf.1, hs, e1, hbt, hf.2.2.1 H hH, e2, iU, cR, hg, hzz.fits, cond_true, e3, e4, eD, List.drop_zero]
theorem uU {c : Call} {sT xT : TypeId} {ii : TI} {zv : Value} {M zz : Nat} {bs : List UInt8} {s : ByteArray} {nw : List UInt8} (hw : gok G.ops l gd = true) (hdn : Nat.ble (d + 1) n = true) (hm : G.D = true → i ∈ G.ms) (hc : c.callee = .builtin .append) (ha : c.args.toList = [x, y]) (ht : c.argTypes.toList = [sT, xT])
 (hx : opv l x = some (bsv M bs)) (hy : opv l y = some (.string s)) (hsn : s.data.toList = nw) (hu : E.und sT = some (.slice 5)) (hux : E.und xT = some .string) (hi : E.inf 5 = some ii) (hz : ii.zero = some zv) (hs : ii.size = 1) (hbt : ii.bytes = 1) (h0 : nw ≠ [])
 (hr : Takes (bro M zz bs) L L') (hzz : Bz zz) (hbig : bs.length + nw.length ≤ 1099511627776) (hD' : G.D = true → G.Lw.Sublist L')
 (h : ∀ M, SO E G (i + 1) r Q (fr n t ((d, bsv M (bs ++ nw)) :: l)) H0 A (bro M (zx zz bs (fK + 5)) (bs ++ nw) ++ L')) : SO E G i (⟨some d, .call c, ty, ps, af, gd⟩ :: r) Q (fr n t l) H0 A L := by
 subst hsn
 have hm0 : s.data.toList.length ≠ 0 := fun e => h0 (List.eq_nil_of_length_eq_zero e)
 have hne : bs ++ s.data.toList ≠ [] := by simp [h0]
 cases bs with
 | nil =>
  obtain rfl := hr.nil'
  refine aEm hw hdn hm hc ha ht hx hy hu hux hi hz hs hbt h0 (by simp at hbig; simp; omega) rfl fun N => ?_
  have := h N
  rw [List.nil_append, eU h0, cN h0, aIj] at this
  exact this
 | cons b bs =>
  have hrm := hr.one
  refine mP hw rfl hdn hm fun hD H hH => ?_
  have e1 := aKz hz
  have e2 : Nat.beq s.data.toList.length 0 = false := by cases hq : s.data.toList.length with | zero => exact absurd hq hm0 | succ k => rfl
  have e3 := aEy (a := (b :: bs).length) hm0
  have hg : H.tr.get M = some (.cells ((b :: bs).map aN) zz false) := (hH.own _ hrm.mem).1
  have hk := (hH.kill hrm).push (.cells ((b :: bs).map aN ++ s.data.toList.map aN) zz false)
  have hh := h H.nx
  rw [eU hne, cN hne, aFi, List.map_append, List.length_append] at hh
  refine ⟨_, _, H0, A, (H.nx, .cells ((b :: bs).map aN ++ s.data.toList.map aN) zz false) :: L', .inl ?_, hk, (hD.list hD').push _, hh⟩
  have e4 : (Nat.beq (0 + (b :: bs).length * 1) ((b :: bs).map aN).length && (jC ((b :: bs).length + s.data.toList.length) 1 && (Nat.ble ((b :: bs).length + s.data.toList.length) 140737488355328 && (Nat.beq (s.data.toList.map aN).length (s.data.toList.length * 1) && cO (s.data.toList.map aN))))) = true := by
   simp only [Bool.and_eq_true]
   exact ⟨by simp, jU (by omega), Nat.ble_eq_true_of_le (by omega), by simp, qP _⟩
  have e5 : eM 1 s.data.toList.length (.string s) H = some (s.data.toList.map aN) := (yG rfl rfl H).2.2
  have hx2 : opv l x = some (.slice (some ⟨2 * M + 1, 0, none⟩) (b :: bs).length (b :: bs).length) := hx
  simp only [aop, hc, ha, ht, iJ, bF hx2, bF hy, hu, hux, gX, cond_false, hi, jB, hs, e1, hbt, e5, e2, iU, cR, hg, hzz.fits, cond_true, e3, e4, eD, List.drop_zero]
end
end Go.AM
namespace Go.AM
open Go.RowKit
theorem lK {off : Nat} {d : Array UInt8} {c : Array Value} : (Sort.putCells aN off d c).size = c.size := by simp [Sort.putCells]
theorem aPi {off : Nat} {d : Array UInt8} {c : Array Value} {j : Nat} (hj : j < d.size) (hle : off + d.size ≤ c.size) : (Sort.putCells aN off d c)[off + j]? = some (aN d[j]!) := by
 simp only [Sort.putCells, Array.getElem?_mapIdx]
 rw [Array.getElem?_eq_getElem (by omega)]
 simp only [Option.map_some]
 rw [if_pos (by omega), show off + j - off = j by omega]
theorem aJs {off : Nat} {d : Array UInt8} {c : Array Value} {j : Nat} (hj : off + d.size ≤ j) : (Sort.putCells aN off d c)[j]? = c[j]? := by
 simp only [Sort.putCells, Array.getElem?_mapIdx]
 cases h : c[j]? with
 | none => rfl
 | some x => simp only [Option.map_some]; rw [if_neg (by omega)]
theorem Upd.app {N : Nat} {o o' : AObj} {L1 L2 : OL} (h : Upd N o o' L1 L2) : ∀ {T : OL}, Upd N o o' (T ++ L1) (T ++ L2)
 | [] => h
 | x :: T => .succ (h.app (T := T))
variable [σ : Sg]
theorem VR.byte {φ : List Place} (b : UInt8) : VR φ (aN b) (aN b) := by unfold aN; exact .int _ _
theorem aIr [Pins] {φ : List Place} {H : AH} {w : World} {N n : Nat} {cs : List Value} {sz : Nat} {dk : Array UInt8} {ex : Bool} {p : Place} (R : Rel φ H w) (hg : H.tr.get N = some (.cells cs sz ex)) (hp : φ[N]? = some p) (hl : dk.size ≤ cs.length) :
 Rel φ { H with tr := H.tr.set N (some (.cells (dk.toList.map aN ++ cs.drop dk.size) sz ex)) } ((Sort.putRow aN w p.blk p.base dk).drewN n) := by
 obtain ⟨q, hq, hN, hO⟩ := R.obj _ _ hg
 rw [hp] at hq; cases hq
 obtain ⟨C, e, lo, hi, hx, hf, ht, hs, hle, hex, hr⟩ := hO
 have hlen' : (dk.toList.map aN ++ cs.drop dk.size).length = cs.length := by simp; omega
 have hblk := R.lt N p hp
 have hh : ∀ k : Nat, ((Sort.putRow aN w p.blk p.base dk).drewN n).heap[k]? = (w.heap.modify p.blk (Sort.onCells (Sort.putCells aN p.base dk)))[k]? := fun k => rfl
 have other : ∀ k : Nat, k ≠ p.blk → ((Sort.putRow aN w p.blk p.base dk).drewN n).heap[k]? = w.heap[k]? := by
  intro k hne
  rw [hh, Array.getElem?_modify, if_neg (fun h => hne h.symm)]
 have hsize : ((Sort.putRow aN w p.blk p.base dk).drewN n).heap.size = w.heap.size := by
  have h2 : ((Sort.putRow aN w p.blk p.base dk).drewN n).heap.size = (w.heap.modify p.blk (Sort.onCells (Sort.putCells aN p.base dk))).size := rfl
  rw [h2, Array.size_modify]
 refine ⟨⟨R.below.os, R.below.tape, R.below.output, ?_, fun k hk => ?_⟩, R.len, fun j o' hj => ?_, fun j k o1 o2 p1 p2 hj hk hp1 hp2 hE => ?_, fun b x hb => ⟨(other b (fun e => (R.pin b x hb).2 N p hp e.symm)).trans (R.pin b x hb).1, (R.pin b x hb).2⟩, fun i q hq => by rw [hsize]; exact R.lt i q hq⟩
 ·have h1 : H.w0.heap.size ≤ w.heap.size := R.below.size
  show H.w0.heap.size ≤ _
  rw [hsize]; exact h1
 ·have hk' : k < H.w0.heap.size := hk
  rw [other k (by omega)]; exact R.below.block k hk
 ·by_cases hji : j = N
  ·subst hji
   simp only [Tr.get_set_same] at hj
   cases hj
   have hsz : (Sort.putCells aN p.base dk C).toList.length = C.size := by rw [Array.length_toList]; exact lK
   refine ⟨p, hp, hN, Sort.putCells aN p.base dk C, e, lo, hi, ?_, ?_, ?_, hs, ?_, ?_, ?_⟩
   ·rw [hh, Array.getElem?_modify, if_pos rfl, hx]; rfl
   ·rw [lK]; exact hf
   ·rw [lK]; exact ht
   ·rw [lK, hlen']; exact hle
   ·rw [lK, hlen']; exact hex
   ·rw [hlen']
    refine ⟨by rw [hlen', List.length_take, List.length_drop, hsz]; omega, fun i u u' hu hu' => ?_⟩
    have hi' := lt_of_getElem? hu
    rw [hlen'] at hi'
    rw [List.getElem?_take, if_pos hi', List.getElem?_drop, Array.getElem?_toList] at hu'
    rcases Nat.lt_or_ge i dk.size with h | h
    ·rw [aPi h (by omega)] at hu'
     rw [List.getElem?_append_left (by simpa using h), List.getElem?_map, Array.getElem?_toList, Array.getElem?_eq_getElem h] at hu
     cases hu; cases hu'
     rw [getElem!_pos dk i h]
     exact VR.byte _
    ·rw [aJs (by omega)] at hu'
     rw [List.getElem?_append_right (by simpa using h), List.getElem?_drop] at hu
     have e1 : dk.size + (i - (dk.toList.map aN).length) = i := by simp; omega
     rw [e1] at hu
     obtain ⟨u2, h9, h10⟩ := hr.get hu
     rw [List.getElem?_take, if_pos hi', List.getElem?_drop, Array.getElem?_toList] at h9
     rw [h9] at hu'; cases hu'
     exact h10
  ·simp only [Tr.get_set_ne _ _ hji] at hj
   obtain ⟨q, hq, hNq, hOq⟩ := R.obj _ _ hj
   refine ⟨q, hq, hNq, ?_⟩
   have hne : q.blk ≠ p.blk := fun hE => hji (R.inj j N _ _ q p hj hg hq hp hE)
   rw [other _ hne]; exact hOq
 ·have back : ∀ j o', (H.tr.set N (some (AObj.cells (dk.toList.map aN ++ cs.drop dk.size) sz ex))).get j = some o' → ∃ o'', H.tr.get j = some o'' := by
   intro j o' h
   by_cases hji : j = N
   ·subst hji; exact ⟨_, hg⟩
   ·exact ⟨o', by rwa [Tr.get_set_ne _ _ hji] at h⟩
  obtain ⟨o1', h1⟩ := back _ _ hj
  obtain ⟨o2', h2⟩ := back _ _ hk
  exact R.inj j k _ _ p1 p2 h1 h2 hp1 hp2 hE
theorem aHk [Pins] {φ : List Place} {H : AH} {w : World} {N m nd : Nat} {cs : List Value} {sz : Nat} {ex : Bool} {ds : Array UInt8} {v' : Value} (R : Rel φ H w) (hg : H.tr.get N = some (.cells cs sz ex)) (hd : ∀ j, j < ds.size → cs[j]? = some (aN ds[j]!)) (hnd : ds.size = nd) (hne : 0 < nd) (hle0 : nd ≤ cs.length) (hv : VR φ (.slice (some ⟨2 * N + 1, 0, none⟩) nd m) v') :
 ∃ p cap, φ[N]? = some p ∧ v' = .slice (some ⟨p.blk, p.base, none⟩) nd cap ∧ Sort.Holds aN w p.blk p.base ds := by
 subst hnd
 cases hv with
 | @slc _ a' _ _ cap h =>
  rcases h with ⟨h, _⟩ | ⟨_, h1, h2, h3⟩
  ·simp only at h; omega
  ·rcases h3 with h3 | ⟨h3, h4⟩
   ·omega
   ·rcases h3 with ⟨h3, _⟩ | ⟨_, _, h5, p, hp, h6, h7⟩
    ·simp only at h3; omega
    ·rw [cR] at hp
     simp only [Nat.add_zero] at h7
     obtain ⟨q, hq, hN, hO⟩ := R.obj _ _ hg
     rw [hp] at hq; cases hq
     obtain ⟨C, e, lo, hi, hx, hf, ht, hs, hle, hex, hr⟩ := hO
     have ea : a' = ⟨p.blk, p.base, none⟩ := by cases a'; simp only at h5 h6 h7; subst h5; subst h6; subst h7; rfl
     subst ea
     refine ⟨p, cap, hp, rfl, fun j hj => ?_⟩
     have hC : C[p.base + j]? = some (aN ds[j]!) := by
      obtain ⟨u', h9, h10⟩ := hr.get (hd j hj)
      rw [List.getElem?_take, if_pos (by omega), List.getElem?_drop, Array.getElem?_toList] at h9
      rw [h9]
      unfold aN at h10 ⊢
      cases h10
      rfl
     have hfr := hf (p.base + j) (by omega)
     refine ⟨?_, ?_⟩
     ·simp only [World.cell?, hx]
      rw [hC]
      simp
     ·simp only [World.frozen?, hx]
      rw [← Bool.decide_and]; exact decide_eq_false (fun q => absurd (hfr q.1) (by omega))
section
variable {P : Program} {E : Env P} {G : RG} {i n d : Nat} {r : List Oper} {Q : Fr → AH → Prop} {t : Tr Value} {l : List (Nat × Value)} {H0 : AH} {A : Nat → Prop} {L : OL}
 {ty : TypeId} {ps : String} {af : Array Edge} {gd : Option (Nat × Bool)} {x : Operand}
theorem aHr {S : AH} {A0 : Nat → Prop} {K sz' m cap : Nat} {new rest : List Value} {ex : Bool} (hm : (K, AObj.cells (new ++ rest) sz' ex) ∈ L) (hl : new.length = m) : kH S H0 A0 A L 1 m (.slice (some ⟨2 * K + 1, 0, none⟩) m cap) new :=
 ⟨rfl, by omega, fun H hH => by
  simp only [eM]
  rw [fC (hH.own _ hm).1 0 (m * 1) none (by simp; omega)]
  simp [← hl], rfl⟩
theorem yP {ta e : TypeId} {na : Nat} {lo hi mx : Option Operand} {ii : TI} {N off sz p q m : Nat} {cs : List Value} {ex : Bool} (hw : gok G.ops l gd = true) (hdn : Nat.ble (d + 1) n = true) (hx : opv l x = some (.pointer (some ⟨2 * N + 1, off, none⟩))) (hu : E.und ta = some (.array na e)) (hi' : E.inf e = some ii)
 (hm : (N, AObj.cells cs sz ex) ∈ qL G L) (hsz : Nat.beq sz ii.size = true) (hoff : Nat.ble (off + na * ii.size) cs.length = true) (hb : gH na na (lo.map (bS (fr n t l))) (hi.map (bS (fr n t l))) (mx.map (bS (fr n t l))) = some (p, q, m))
 (h : SO E G (i + 1) r Q (fr n t ((d, .slice (some ⟨2 * N + 1, off + p * ii.size, none⟩) (q - p) (m - p)) :: l)) H0 A L) : SO E G i (⟨some d, .slice ta x lo hi mx, ty, ps, af, gd⟩ :: r) Q (fr n t l) H0 A L :=
 nP rfl hw rfl hdn (fun H hH => by
  have e3 : Nat.beq 1 0 = false := rfl
  simp only [aop, bF hx, xE, hu, hi', hb, iU, e3, cond_false, cR, (hH.own _ hm).1, hsz, hoff, Bool.and_self, cond_true, cH, uO]) h
structure Fresh (H H' : AH) (Lo : OL) : Prop where
 kept : Kept H.nx H H'
 out : ∀ p ∈ Lo, H'.tr.get p.1 = some p.2 ∧ H.nx ≤ p.1 ∧ p.1 < H'.nx
 dist : Lo.Pairwise (fun p q => p.1 ≠ q.1)
theorem wE {c : Call} {g : FuncId} {vs : List Value} (T : Value → OL → Prop) (hw : gok G.ops l gd = true) (hdn : Nat.ble (d + 1) n = true) (hm : G.D = true → i ∈ G.ms) (hc : c.callee = .value (.func g)) (hg : ∃ fn, E.fn g = some fn) (ha : Opvs l c.args.toList vs)
 (hk : ∀ H, HS G.S H0 G.A0 A L H → XCall P g vs H fun u H' => ∃ Lo, Fresh H H' Lo ∧ T u Lo)
 (h : ∀ u Lo, T u Lo → SO E G (i + 1) r Q (fr n t ((d, u) :: l)) H0 A (Lo ++ L)) : SO E G i (⟨some d, .call c, ty, ps, af, gd⟩ :: r) Q (fr n t l) H0 A L :=
 mP hw rfl hdn hm fun hD H hH => by
  obtain ⟨fn, hg⟩ := hg
  obtain ⟨u, H', ⟨Lo, k, hT⟩, hw0, hcall⟩ := hk H hH
  have hf := hH.later k.kept
  refine ⟨u, H', H0, A, Lo ++ L, .inr ⟨hw0, g, vs, ?_, hcall⟩, ⟨hf.kept, hf.base, hf.w0, hf.sub, hf.lt, fun p hp => ?_, List.pairwise_append.2 ⟨k.dist, hf.dist, fun p hp q hq => ?_⟩⟩, (fun hDt => ⟨fun p hp => List.mem_append_right _ ((hD hDt).1 p hp), (hD hDt).2⟩), h u Lo hT⟩
  ·simp only [dE, hc, oC, hg, ha.ok, List.append_nil, List.nil_append]
  ·rcases List.mem_append.1 hp with hp | hp
   ·obtain ⟨q1, q2, q3⟩ := k.out p hp
    exact ⟨q1, Nat.le_trans hH.kept.nx q2, q3, fun h => by have := hH.lt _ h; omega⟩
   ·exact hf.own p hp
  ·have := (k.out p hp).2.1
   have := (hH.own q hq).2.2.1
   omega
end
end Go.AM
namespace Go.AM
open Go.RowKit
structure CE where
 g : FuncId
 as : List Value
 v : Value
def ceL (l : List CE) (g : FuncId) (args : List Value) : Option Value :=
 match l with
 | [] => none
 | e :: r => bif Nat.beq e.g g && oI e.as args then some e.v else ceL r g args
def CE.Ok (P : Program) (ρ : Nat → Value) (e : CE) : Prop := (∀ S : AH, XCall (σ := noSg) P e.g (rnL ρ id e.as) S fun u K => u = rn ρ id e.v ∧ Kept S.nx S K) ∧ ∀ ι, rn ρ ι e.v = rn ρ id e.v
theorem aFa : ∀ {l : List CE} {g : FuncId} {args : List Value} {v : Value}, ceL l g args = some v → ∃ e ∈ l, e.g = g ∧ e.as = args ∧ e.v = v
 | [], g, args, v, h => by cases h
 | e :: r, g, args, v, h => by
  unfold ceL at h
  cases hc : (Nat.beq e.g g && oI e.as args) with
  | false =>
   rw [hc, cond_false] at h
   obtain ⟨x, hx, q⟩ := aFa h
   exact ⟨x, List.mem_cons_of_mem _ hx, q⟩
  | true =>
   rw [hc, cond_true] at h
   cases h
   simp only [Bool.and_eq_true] at hc
   exact ⟨e, List.mem_cons_self .., Nat.eq_of_beq_eq_true hc.1, lN hc.2, rfl⟩
def tcX (l : List CE) : cE := fun g args H => match ceL l g args with
 | some v => bif kB H then some (v, H, []) else none
 | none => none
theorem sR {P : Program} {lv : List Value} {hv : lv.all lV = true} {l : List CE} (hl : ∀ e ∈ l, e.Ok P (aR lv)) : bY (σ := sgL lv hv) P (tcX l) := by
 intro g args H v H' L h hL
 unfold tcX at h
 split at h
 ·rename_i v0 h0
  cases hc : kB H with
  | false => rw [hc] at h; cases h
  | true =>
   rw [hc, cond_true] at h
   cases h
   obtain ⟨e, he, rfl, rfl, rfl⟩ := aFa h0
   obtain ⟨o1, o2⟩ := hl e he
   refine ⟨rfl, ACalls.turn (σ0 := sgL lv hv) (σ := noSg) (Li := []) (Lo := []) (m := 0) (aR lv) (Fits.plain (fA hv)) (fun p hp => by cases hp) (fun p hp => by cases hp) (fun p hp => by cases hp) hc ((o1 (kU (aR lv) H)).mono fun u K kw hu => ?_)⟩
   exact ⟨[], rfl, (fun i hi => by cases hi), List.nodup_nil, hu.2.nx, fun j hj _ => hu.2.get j hj, (fun p hp => by cases hp), hu.1.trans (o2 _).symm⟩
 ·cases h
structure NE where
 g : FuncId
 as : List Value
 k : Nat
 xs : List Value
 o : AObj
def NE.v (e : NE) (N : Nat) : Value := .tuple ⟨.slice (some ⟨2 * N + 1, 0, none⟩) e.k e.k :: e.xs⟩
def NE.Ok (P : Program) (ρ : Nat → Value) (e : NE) : Prop := (∀ S : AH, XCall (σ := noSg) P e.g (rnL ρ id e.as) S fun u K => ∃ N, S.nx ≤ N ∧ N < K.nx ∧ Kept S.nx S K ∧ K.tr.get N = some (rnO ρ id e.o) ∧ u = .tuple ⟨.slice (some ⟨2 * N + 1, 0, none⟩) e.k e.k :: rnL ρ id e.xs⟩) ∧ (∀ ι, rnO ρ ι e.o = rnO ρ id e.o) ∧ ∀ ι, rnL ρ ι e.xs = rnL ρ id e.xs
def tcN (e : NE) : cE := fun g args H => bif Nat.beq e.g g && (oI e.as args && kB H) then some (e.v H.nx, ⟨H.w0, H.nx + 1, pV [(H.nx, e.o)] H.tr⟩, []) else none
theorem sS {P : Program} {lv : List Value} {hv : lv.all lV = true} {e : NE} (hl : e.Ok P (aR lv)) : bY (σ := sgL lv hv) P (tcN e) := by
 intro g args H v H' L h hL
 unfold tcN at h
 cases hc : (Nat.beq e.g g && (oI e.as args && kB H)) with
 | false => rw [hc] at h; cases h
 | true =>
  rw [hc, cond_true] at h
  cases h
  simp only [Bool.and_eq_true] at hc
  obtain ⟨h1, h2, h3⟩ := hc
  obtain rfl := Nat.eq_of_beq_eq_true h1
  obtain rfl := lN h2
  obtain ⟨o1, o2, o3⟩ := hl
  refine ⟨rfl, ACalls.turn (σ0 := sgL lv hv) (σ := noSg) (Li := []) (Lo := [(H.nx, e.o)]) (m := 1) (aR lv) (Fits.plain (fA hv)) (fun p hp => by cases hp) (fun p hp => ?_) (fun p hp => by cases hp) h3 ((o1 (kU (aR lv) H)).mono fun u K kw hu => ?_)⟩
  ·rcases List.mem_singleton.1 hp with rfl; exact Nat.lt_succ_self _
  ·obtain ⟨N, q1, q2, q3, q4, rfl⟩ := hu
   have e1 : fI H.nx [N] K.nx H.nx = N := by rw [eN (Nat.le_refl _), Nat.sub_self]; rfl
   refine ⟨[N], rfl, (fun i hi => by rcases List.mem_singleton.1 hi with rfl; exact ⟨q1, q2⟩), List.nodup_cons.2 ⟨(fun h => by cases h), List.nodup_nil⟩, q3.nx, fun j hj _ => q3.get j hj, fun p hp => ?_, ?_⟩
   ·obtain ⟨p0, hp0, rfl⟩ := List.mem_map.1 hp
    rcases List.mem_singleton.1 hp0 with rfl
    show K.tr.get (fI H.nx [N] K.nx H.nx) = some (rnO _ _ e.o)
    rw [e1, o2]; exact q4
   ·have e2 : rnA (fI H.nx [N] K.nx) ⟨2 * H.nx + 1, 0, none⟩ = ⟨2 * N + 1, 0, none⟩ := by
     rw [nW (by show (2 * H.nx + 1) % 2 = 1; omega)]
     show (⟨2 * fI H.nx [N] K.nx ((2 * H.nx + 1) / 2) + 1, 0, none⟩ : Addr) = _
     rw [cR, e1]
    rw [NE.v, rn, rnL, rn, e2, o3 (fI H.nx [N] K.nx)]
end Go.AM
namespace Go.AM
open Go.RowKit
section
variable [σ : Sg] {P : Program} {E : Env P} {G : RG} {i n d : Nat} {r : List Oper} {Q : Fr → AH → Prop} {t : Tr Value} {l : List (Nat × Value)} {H0 : AH} {A : Nat → Prop} {L : OL}
 {ty : TypeId} {ps : String} {af : Array Edge} {gd : Option (Nat × Bool)} {x : Operand}
theorem aGx {sT dT e : TypeId} {N m c sz : Nat} {cs : List Value} {ex : Bool} {bs : List UInt8} (hw : gok G.ops l gd = true) (hdn : Nat.ble (d + 1) n = true) (hx : opv l x = some (.slice (some ⟨2 * N + 1, 0, none⟩) m c)) (hs : E.und sT = some (.slice e)) (he : E.und e = some (.int .u8)) (hd : E.und dT = some .string)
 (hmem : (N, AObj.cells cs sz ex) ∈ qL G L) (hl : cs.length = m) (hb : lO cs = some bs) (h : SO E G (i + 1) r Q (fr n t ((d, .string ⟨⟨bs⟩⟩) :: l)) H0 A L) :
 SO E G i (⟨some d, .convert sT dT x, ty, ps, af, gd⟩ :: r) Q (fr n t l) H0 A L :=
 nP (by simp only [dI, hd]) hw rfl hdn (fun H hH => by
  have hg := fC (hH.own _ hmem).1 0 m none (by omega)
  rw [List.drop_zero, ← hl, List.take_length] at hg
  simp only [aop, bF hx, mH, hs, hd, he, ← hl, hg, hb]) h
theorem aDs {sT dT e : TypeId} {m c : Nat} (hw : gok G.ops l gd = true) (hdn : Nat.ble (d + 1) n = true) (hx : opv l x = some (.slice none m c)) (hs : E.und sT = some (.slice e)) (he : E.und e = some (.int .u8)) (hd : E.und dT = some .string)
 (h : SO E G (i + 1) r Q (fr n t ((d, .string ⟨⟨[]⟩⟩) :: l)) H0 A L) : SO E G i (⟨some d, .convert sT dT x, ty, ps, af, gd⟩ :: r) Q (fr n t l) H0 A L :=
 nP (by simp only [dI, hd]) hw rfl hdn (fun H hH => by simp only [aop, bF hx, mH, hs, hd, he]) h
end
end Go.AM
namespace Go.AM
open Go.RowKit
def aDj : List Nat → Tr AObj → Tr AObj
 | [], t => t
 | i :: r, t => (aDj r t).set i none
theorem aBr : ∀ (l : List Nat) (t : Tr AObj) (j : Nat) (o : AObj), (aDj l t).get j = some o → j ∉ l ∧ t.get j = some o
 | [], t, j, o, h => ⟨fun q => (by cases q), h⟩
 | i :: r, t, j, o, h => by
  have h : ((aDj r t).set i none).get j = some o := h
  rw [Tr.get_set] at h
  by_cases e : j = i
  ·rw [if_pos e] at h; cases h
  ·rw [if_neg e] at h
   obtain ⟨q1, q2⟩ := aBr r t j o h
   exact ⟨fun hm => (by rcases List.mem_cons.1 hm with rfl | hm; exact e rfl; exact q1 hm), q2⟩
section
variable {P : Program} {σ0 σ : Sg}
theorem ACalls.turnD {g : FuncId} {args : List Value} {S : AH} {Li Lo : OL} {D : List Nat} {v : Value} {m : Nat} (ρ : Nat → Value) (hρ : Fits σ σ0 ρ) (hLo : ∀ p ∈ Lo, p.1 < S.nx + m) (hall : ∀ p ∈ Li, p.1 ∈ D ∨ ∃ q ∈ Lo, q.1 = p.1) (sc : ∀ j o, j ∉ D → j < S.nx → S.tr.get j = some o → scO S.nx o = true)
 (hc : XCall (σ := σ) P g (rnL ρ id args) (kU ρ S) fun u K => ∃ κ : List Nat, κ.length = m ∧ (∀ i ∈ κ, S.nx ≤ i ∧ i < K.nx) ∧ κ.Nodup ∧ S.nx ≤ K.nx ∧ (∀ j, j < S.nx → ¬ ids Li j → K.tr.get j = (kU ρ S).tr.get j) ∧
  (∀ p ∈ uE ρ (fI S.nx κ K.nx) Lo, K.tr.get p.1 = some p.2) ∧ u = rn ρ (fI S.nx κ K.nx) v) :
 ACalls (σ := σ0) P g args S fun u K => u = v ∧ K = ⟨S.w0, S.nx + m, pV Lo (aDj D S.tr)⟩ := by
 refine ACalls.pull (σ0 := σ0) (σ := σ) (S' := ⟨S.w0, S.nx + m, pV Lo (aDj D S.tr)⟩) ρ hρ rfl (Nat.le_add_right _ _) fun wf => ?_
 obtain ⟨u, K, ⟨κ, k1, k2, k3, k4, k5, k6, rfl⟩, kw, hcall⟩ := hc
 refine ⟨_, K, ⟨fI S.nx κ K.nx, fun j hj => cY hj, fun j hj => ?_, fun j hj => ?_, fun i j hi hj he => ?_, rfl, fun j o hj => ?_⟩, kw, hcall⟩
 ·have hj : S.nx + m ≤ j := hj
  rw [eN (by omega), List.getElem?_eq_none (by omega)]
  simp only; omega
 ·have hj : j < S.nx + m := hj
  rcases Nat.lt_or_ge j S.nx with h | h
  ·rw [cY h]; omega
  ·have hk : j - S.nx < κ.length := by omega
   rw [eN h, List.getElem?_eq_getElem hk]
   exact (k2 _ (List.getElem_mem hk)).2
 ·have hi : i < S.nx + m := hi
  have hj : j < S.nx + m := hj
  rcases Nat.lt_or_ge i S.nx with h1 | h1 <;> rcases Nat.lt_or_ge j S.nx with h2 | h2
  ·rw [cY h1, cY h2] at he; exact he
  ·have hk : j - S.nx < κ.length := by omega
   rw [cY h1, eN h2, List.getElem?_eq_getElem hk] at he
   have := (k2 _ (List.getElem_mem hk)).1
   simp only at he; omega
  ·have hk : i - S.nx < κ.length := by omega
   rw [eN h1, cY h2, List.getElem?_eq_getElem hk] at he
   have := (k2 _ (List.getElem_mem hk)).1
   simp only at he; omega
  ·have hki : i - S.nx < κ.length := by omega
   have hkj : j - S.nx < κ.length := by omega
   rw [eN h1, eN h2, List.getElem?_eq_getElem hki, List.getElem?_eq_getElem hkj] at he
   have := (List.getElem_inj k3).1 he
   omega
 ·have hj : (pV Lo (aDj D S.tr)).get j = some o := hj
  rcases uT Lo _ j o hj with q | ⟨q1, q2⟩
  ·refine ⟨hLo _ q, ?_⟩
   exact k6 (fI S.nx κ K.nx j, rnO ρ (fI S.nx κ K.nx) o) (List.mem_map.2 ⟨_, q, rfl⟩)
  ·obtain ⟨q2, q3⟩ := aBr D S.tr j o q2
   have hjn := wf j o q3
   have hni : ¬ ids Li j := by
    rintro ⟨p, hp, rfl⟩
    rcases hall p hp with hd | ⟨r, hr, he⟩
    ·exact q2 hd
    ·exact q1 r hr he
   refine ⟨Nat.lt_of_lt_of_le hjn (Nat.le_add_right _ _), ?_⟩
   rw [cY hjn, k5 j hjn hni, iK q3, wG (fun i hi => cY hi) o (sc j o q2 hjn q3)]
end
def aFh (r : Nat) (S : AH) : Bool := (List.range S.nx).all fun j => Nat.beq j r || match S.tr.get j with
 | some o => scO S.nx o
 | none => true
theorem yM {r : Nat} {S : AH} (h : aFh r S = true) {j : Nat} (hr : j ≠ r) (hj : j < S.nx) {o : AObj} (ho : S.tr.get j = some o) : scO S.nx o = true := by
 unfold aFh at h
 rw [List.all_eq_true] at h
 have := h j (List.mem_range.2 hj)
 rw [ho, Bool.or_eq_true] at this
 rcases this with q | q
 ·exact absurd (Nat.eq_of_beq_eq_true q) hr
 ·exact q
end Go.AM
