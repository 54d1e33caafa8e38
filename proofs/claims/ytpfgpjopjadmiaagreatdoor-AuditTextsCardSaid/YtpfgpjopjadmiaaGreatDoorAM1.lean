/-
  The abstract machine, part 1: values whose addresses are renamed, an abstract heap, and how it stands to a world.
-/
import Derived.Calls
import Derived.Orders
import Derived.Below
import Derived.Laws.Sem
import Derived.Laws.World
import Derived.Laws.Cells
import Derived.KernelRfl
set_option linter.unusedVariables false
set_option linter.unusedSimpArgs false
noncomputable section
namespace Go.AM
open Go.RowKit

/-- a trie over numbers -/
inductive Tr (α : Type) where
  | nil
  | node (v : Option α) (l r : Tr α)

/-- by the recursors themselves: what the kernel runs the fastest -/
def Tr.get {α : Type} (t : Tr α) : Nat → Option α :=
  Tr.rec (motive := fun _ => Nat → Option α) (fun _ => none) (fun v _ _ gl gr i => cond (Nat.beq i 0) v (cond (Nat.beq (i % 2) 1) (gl (i / 2)) (gr (i / 2 - 1)))) t
theorem Tr.get_nil {α : Type} (i : Nat) : (Tr.nil : Tr α).get i = none := rfl
theorem Tr.get_node {α : Type} (v : Option α) (l r : Tr α) (i : Nat) : (Tr.node v l r).get i = bif Nat.beq i 0 then v else bif Nat.beq (i % 2) 1 then l.get (i / 2) else r.get (i / 2 - 1) := rfl
def Tr.setN {α : Type} (n : Nat) : Nat → Option α → Tr α :=
  Nat.rec (motive := fun _ => Nat → Option α → Tr α) (fun _ _ => .nil) (fun _ sn i o => cond (Nat.beq i 0) (.node o .nil .nil) (cond (Nat.beq (i % 2) 1) (.node none (sn (i / 2) o) .nil) (.node none .nil (sn (i / 2 - 1) o)))) n
theorem Tr.setN_succ {α : Type} (n i : Nat) (o : Option α) : Tr.setN (n + 1) i o = bif Nat.beq i 0 then .node o .nil .nil else bif Nat.beq (i % 2) 1 then .node none (Tr.setN n (i / 2) o) .nil else .node none .nil (Tr.setN n (i / 2 - 1) o) := rfl
def Tr.set {α : Type} (t : Tr α) : Nat → Option α → Tr α :=
  Tr.rec (motive := fun _ => Nat → Option α → Tr α) (fun i o => Tr.setN (i + 1) i o) (fun v l r sl sr i o => cond (Nat.beq i 0) (.node o l r) (cond (Nat.beq (i % 2) 1) (.node v (sl (i / 2) o) r) (.node v l (sr (i / 2 - 1) o)))) t
theorem Tr.set_nil {α : Type} (i : Nat) (o : Option α) : (Tr.nil : Tr α).set i o = Tr.setN (i + 1) i o := rfl
theorem Tr.set_node {α : Type} (v : Option α) (l r : Tr α) (i : Nat) (o : Option α) : (Tr.node v l r).set i o = bif Nat.beq i 0 then .node o l r else bif Nat.beq (i % 2) 1 then .node v (l.set (i / 2) o) r else .node v l (r.set (i / 2 - 1) o) := rfl

theorem Tr.get_setN {α : Type} : ∀ (n i : Nat) (o : Option α) (j : Nat), i < n → (Tr.setN n i o).get j = if j = i then o else none := by
  intro n
  induction n with
  | zero => intro i o j h; omega
  | succ n ih =>
    intro i o j h
    simp only [Tr.setN_succ, cond_eq_ite, Nat.beq_eq]
    split
    · rename_i h0; subst h0
      simp only [Tr.get_node, Tr.get_nil, cond_eq_ite, Nat.beq_eq]
      split <;> simp_all
    · rename_i h0
      split
      · rename_i h1
        simp only [Tr.get_node, Tr.get_nil, cond_eq_ite, Nat.beq_eq]
        split
        · rw [if_neg (by omega)]
        · split
          · rw [ih _ _ _ (by omega)]
            by_cases e : j = i
            · rw [if_pos e, if_pos (by omega)]
            · rw [if_neg e, if_neg (by omega)]
          · rw [if_neg (by omega)]
      · rename_i h1
        simp only [Tr.get_node, Tr.get_nil, cond_eq_ite, Nat.beq_eq]
        split
        · rw [if_neg (by omega)]
        · split
          · rw [if_neg (by omega)]
          · rw [ih _ _ _ (by omega)]
            by_cases e : j = i
            · rw [if_pos e, if_pos (by omega)]
            · rw [if_neg e, if_neg (by omega)]
theorem Tr.get_set {α : Type} (t : Tr α) : ∀ (i : Nat) (o : Option α) (j : Nat), (t.set i o).get j = if j = i then o else t.get j := by
  induction t with
  | nil => intro i o j; rw [Tr.set_nil, Tr.get_setN _ _ _ _ (Nat.lt_succ_self i), Tr.get_nil]
  | node v l r ihl ihr =>
    intro i o j
    simp only [Tr.set_node, cond_eq_ite, Nat.beq_eq]
    split
    · rename_i h0; subst h0
      simp only [Tr.get_node, cond_eq_ite, Nat.beq_eq]
      split <;> simp_all
    · rename_i h0
      split
      · rename_i h1
        simp only [Tr.get_node, cond_eq_ite, Nat.beq_eq]
        split
        · rw [if_neg (by omega)]
        · split
          · rw [ihl]
            by_cases e : j = i
            · rw [if_pos e, if_pos (by omega)]
            · rw [if_neg e, if_neg (by omega)]
          · rw [if_neg (by omega)]
      · rename_i h1
        simp only [Tr.get_node, cond_eq_ite, Nat.beq_eq]
        split
        · rw [if_neg (by omega)]
        · split
          · rw [if_neg (by omega)]
          · rw [ihr]
            by_cases e : j = i
            · rw [if_pos e, if_pos (by omega)]
            · rw [if_neg e, if_neg (by omega)]
theorem Tr.get_set_same {α : Type} (t : Tr α) (i : Nat) (o : Option α) : (t.set i o).get i = o := by rw [Tr.get_set, if_pos rfl]
theorem Tr.get_set_ne {α : Type} (t : Tr α) {i j : Nat} (o : Option α) (h : j ≠ i) : (t.set i o).get j = t.get j := by rw [Tr.get_set, if_neg h]

/-- where an abstract block lies: the block, the first cell, the block's cells, the cells of an element -/
structure Place where
  blk : Nat
  base : Nat
  tot : Nat
  sz : Nat

def extAddr (a : Addr) : Addr := { block := 2 * a.block, off := a.off, spot := a.spot }

mutual
/-- a value of the world outside: block b has the abstract number 2b -/
def ext : Value → Value
  | .bool b => .bool b
  | .int k n => .int k n
  | .float k n => .float k n
  | .complex k n m => .complex k n m
  | .string s => .string s
  | .pointer none => .pointer none
  | .pointer (some a) => .pointer (some (extAddr a))
  | .slice none l c => .slice none l c
  | .slice (some a) l c => .slice (some (extAddr a)) l c
  | .map none => .map none
  | .map (some r) => .map (some (2 * r))
  | .chan none => .chan none
  | .chan (some r) => .chan (some (2 * r))
  | .func fn ⟨a⟩ ⟨b⟩ => .func fn ⟨extL a⟩ ⟨extL b⟩
  | .nilFunc => .nilFunc
  | .iface t v => .iface t (ext v)
  | .nilIface => .nilIface
  | .agg ⟨cs⟩ => .agg ⟨extL cs⟩
  | .tuple ⟨cs⟩ => .tuple ⟨extL cs⟩
def extL : List Value → List Value
  | [] => []
  | v :: r => ext v :: extL r
end

/-- what is known of a block's element type: a size below 2^40 says nothing, a greater one names the type -/
def tagB : Nat := 1099511627776
def esz (n : Nat) : Nat := if tagB ≤ n then 1 else n
theorem esz_small {n : Nat} (h : n < tagB) : esz n = n := if_neg (Nat.not_le_of_lt h)
theorem esz_tag {n : Nat} (h : tagB ≤ n) : esz n = 1 := if_pos h
def SzE (sz : Nat) (e : TypeId) : Prop := tagB ≤ sz → e + tagB = sz
def SzT (p : Place) (sz : Nat) (e : TypeId) : Prop := p.sz = sz ∧ SzE sz e ∧ (tagB + 5 < sz → p.base = 0)
theorem SzE.small {sz : Nat} {e : TypeId} (h : sz < tagB) : SzE sz e := fun q => absurd q (Nat.not_le_of_lt h)
theorem SzE.tag (e : TypeId) : SzE (e + tagB) e := fun _ => rfl
/-- an abstract address and the world's -/
def ARel (φ : List Place) (a a' : Addr) : Prop :=
  (a.block % 2 = 0 ∧ a'.block = a.block / 2 ∧ a'.off = a.off ∧ a'.spot = a.spot) ∨
  (a.block % 2 = 1 ∧ a.spot = none ∧ a'.spot = none ∧ ∃ p, φ[a.block / 2]? = some p ∧ a'.block = p.blk ∧ a'.off = p.base + a.off)

def SRel (φ : List Place) (a a' : Addr) (l c c' : Nat) : Prop :=
  (a.block % 2 = 0 ∧ c' = c ∧ ARel φ a a') ∨
  (a.block % 2 = 1 ∧ l ≤ c ∧ c ≤ c' ∧ (c' = 0 ∨ (ARel φ a a' ∧ ∀ p, φ[a.block / 2]? = some p → p.base + a.off + c' * esz p.sz ≤ p.tot)))

def BRel (φ : List Place) (r r' : Nat) : Prop :=
  (r % 2 = 0 ∧ r' = r / 2) ∨ (r % 2 = 1 ∧ ∃ p, φ[r / 2]? = some p ∧ r' = p.blk)

/-- an abstract value and the world's -/
inductive VR (φ : List Place) : Value → Value → Prop
  | bool (b : Bool) : VR φ (.bool b) (.bool b)
  | int (k : IntKind) (n : Int) : VR φ (.int k n) (.int k n)
  | float (k : FloatKind) (n : Nat) : VR φ (.float k n) (.float k n)
  | complex (k : FloatKind) (n m : Nat) : VR φ (.complex k n m) (.complex k n m)
  | string (s : ByteArray) : VR φ (.string s) (.string s)
  | pnil : VR φ (.pointer none) (.pointer none)
  | ptr {a a' : Addr} (h : ARel φ a a') : VR φ (.pointer (some a)) (.pointer (some a'))
  | snil (l c : Nat) : VR φ (.slice none l c) (.slice none l c)
  | slc {a a' : Addr} {l c c' : Nat} (h : SRel φ a a' l c c') : VR φ (.slice (some a) l c) (.slice (some a') l c')
  | mnil : VR φ (.map none) (.map none)
  | mp {r r' : Nat} (h : BRel φ r r') : VR φ (.map (some r)) (.map (some r'))
  | cnil : VR φ (.chan none) (.chan none)
  | ch {r r' : Nat} (h : BRel φ r r') : VR φ (.chan (some r)) (.chan (some r'))
  | func (fn : Fn) {a a' b b' : List Value} (ha : a.length = a'.length) (hb : b.length = b'.length)
      (va : ∀ (i : Nat) v v', a[i]? = some v → a'[i]? = some v' → VR φ v v') (vb : ∀ (i : Nat) v v', b[i]? = some v → b'[i]? = some v' → VR φ v v') : VR φ (.func fn ⟨a⟩ ⟨b⟩) (.func fn ⟨a'⟩ ⟨b'⟩)
  | nilFunc : VR φ .nilFunc .nilFunc
  | iface (t : TypeId) {v v' : Value} (h : VR φ v v') : VR φ (.iface t v) (.iface t v')
  | nilIface : VR φ .nilIface .nilIface
  | agg {a a' : List Value} (ha : a.length = a'.length) (va : ∀ (i : Nat) v v', a[i]? = some v → a'[i]? = some v' → VR φ v v') : VR φ (.agg ⟨a⟩) (.agg ⟨a'⟩)
  | tuple {a a' : List Value} (ha : a.length = a'.length) (va : ∀ (i : Nat) v v', a[i]? = some v → a'[i]? = some v' → VR φ v v') : VR φ (.tuple ⟨a⟩) (.tuple ⟨a'⟩)

/-- lists, value by value -/
def VRs (φ : List Place) (a a' : List Value) : Prop := a.length = a'.length ∧ ∀ (i : Nat) v v', a[i]? = some v → a'[i]? = some v' → VR φ v v'

theorem VRs.nil (φ : List Place) : VRs φ [] [] := ⟨rfl, fun i v v' h => by simp at h⟩
theorem VRs.cons {φ : List Place} {v v' : Value} {l l' : List Value} (h : VR φ v v') (hl : VRs φ l l') : VRs φ (v :: l) (v' :: l') := by
  refine ⟨by simp [hl.1], fun i u u' hu hu' => ?_⟩
  cases i with
  | zero => simp at hu hu'; subst hu; subst hu'; exact h
  | succ i => simp at hu hu'; exact hl.2 i u u' hu hu'
theorem VRs.head {φ : List Place} {v v' : Value} {l l' : List Value} (h : VRs φ (v :: l) (v' :: l')) : VR φ v v' := h.2 0 v v' rfl rfl
theorem VRs.tail {φ : List Place} {v v' : Value} {l l' : List Value} (h : VRs φ (v :: l) (v' :: l')) : VRs φ l l' :=
  ⟨by have := h.1; simpa using this, fun i u u' hu hu' => h.2 (i + 1) u u' (by simpa using hu) (by simpa using hu')⟩
theorem VRs.append {φ : List Place} {a a' b b' : List Value} (h : VRs φ a a') (k : VRs φ b b') : VRs φ (a ++ b) (a' ++ b') := by
  refine ⟨by simp [h.1, k.1], fun i u u' hu hu' => ?_⟩
  by_cases hi : i < a.length
  · rw [List.getElem?_append_left hi] at hu
    rw [List.getElem?_append_left (h.1 ▸ hi)] at hu'
    exact h.2 i u u' hu hu'
  · rw [List.getElem?_append_right (by omega)] at hu
    rw [List.getElem?_append_right (by have := h.1; omega)] at hu'
    rw [← h.1] at hu'
    exact k.2 _ u u' hu hu'
theorem VRs.get {φ : List Place} {a a' : List Value} (h : VRs φ a a') {i : Nat} {v : Value} (hv : a[i]? = some v) : ∃ v', a'[i]? = some v' ∧ VR φ v v' := by
  have hi : i < a.length := by
    rcases Nat.lt_or_ge i a.length with h' | h'
    · exact h'
    · simp [List.getElem?_eq_none h'] at hv
  have hi' : i < a'.length := h.1 ▸ hi
  exact ⟨a'[i], by simp [hi'], h.2 i v _ hv (by simp [hi'])⟩
theorem VRs.get' {φ : List Place} {a a' : List Value} (h : VRs φ a a') {i : Nat} {v' : Value} (hv : a'[i]? = some v') : ∃ v, a[i]? = some v ∧ VR φ v v' := by
  have hi : i < a'.length := by
    rcases Nat.lt_or_ge i a'.length with h' | h'
    · exact h'
    · simp [List.getElem?_eq_none h'] at hv
  have hi' : i < a.length := h.1 ▸ hi
  exact ⟨a[i], by simp [hi'], h.2 i _ v' (by simp [hi']) hv⟩
theorem VRs.drop {φ : List Place} {a a' : List Value} (h : VRs φ a a') (n : Nat) : VRs φ (a.drop n) (a'.drop n) :=
  ⟨by simp [h.1], fun i u u' hu hu' => h.2 (n + i) u u' (by simpa using hu) (by simpa using hu')⟩
theorem VRs.take {φ : List Place} {a a' : List Value} (h : VRs φ a a') (n : Nat) : VRs φ (a.take n) (a'.take n) := by
  refine ⟨by simp [h.1], fun i u u' hu hu' => ?_⟩
  rw [List.getElem?_take] at hu hu'
  split at hu
  · rename_i hi; rw [if_pos hi] at hu'; exact h.2 i u u' hu hu'
  · simp at hu
theorem VRs.replicate {φ : List Place} {v v' : Value} (h : VR φ v v') (n : Nat) : VRs φ (List.replicate n v) (List.replicate n v') := by
  induction n with
  | zero => exact VRs.nil φ
  | succ n ih => exact VRs.cons h ih

theorem VR.agg' {φ : List Place} {a a' : List Value} (h : VRs φ a a') : VR φ (.agg ⟨a⟩) (.agg ⟨a'⟩) := .agg h.1 h.2
theorem VR.tuple' {φ : List Place} {a a' : List Value} (h : VRs φ a a') : VR φ (.tuple ⟨a⟩) (.tuple ⟨a'⟩) := .tuple h.1 h.2
theorem VR.undef (φ : List Place) : VR φ undef undef := VR.tuple' (VRs.nil φ)

/-! ### more places -/
theorem getElem?_prefix {α : Type} {l l' : List α} (h : l <+: l') {i : Nat} {x : α} (hx : l[i]? = some x) : l'[i]? = some x := by
  obtain ⟨t, rfl⟩ := h
  have hi : i < l.length := by
    rcases Nat.lt_or_ge i l.length with h' | h'
    · exact h'
    · simp [List.getElem?_eq_none h'] at hx
  rw [List.getElem?_append_left hi]; exact hx

theorem ARel.mono {φ φ' : List Place} (h : φ <+: φ') {a a' : Addr} (r : ARel φ a a') : ARel φ' a a' := by
  rcases r with r | ⟨r1, r2, r3, p, hp, r4⟩
  · exact .inl r
  · exact .inr ⟨r1, r2, r3, p, getElem?_prefix h hp, r4⟩
theorem BRel.mono {φ φ' : List Place} (h : φ <+: φ') {a a' : Nat} (r : BRel φ a a') : BRel φ' a a' := by
  rcases r with r | ⟨r1, p, hp, r4⟩
  · exact .inl r
  · exact .inr ⟨r1, p, getElem?_prefix h hp, r4⟩
theorem SRel.mono {φ φ' : List Place} (h : φ <+: φ') {a a' : Addr} {l c c' : Nat} (r : SRel φ a a' l c c') : SRel φ' a a' l c c' := by
  rcases r with ⟨r1, r2, r3⟩ | ⟨r1, r2, r3, r4⟩
  · exact .inl ⟨r1, r2, r3.mono h⟩
  · refine .inr ⟨r1, r2, r3, r4.imp id fun ⟨r5, r6⟩ => ⟨r5.mono h, fun p hp => ?_⟩⟩
    rcases r5 with r5 | ⟨_, _, _, q, hq, _⟩
    · omega
    · have := getElem?_prefix h hq
      rw [this] at hp; cases hp
      exact r6 _ hq
theorem VR.mono {φ φ' : List Place} (h : φ <+: φ') {v v' : Value} (r : VR φ v v') : VR φ' v v' := by
  induction r with
  | bool b => exact .bool b
  | int k n => exact .int k n
  | float k n => exact .float k n
  | complex k n m => exact .complex k n m
  | string s => exact .string s
  | pnil => exact .pnil
  | ptr r => exact .ptr (r.mono h)
  | snil l c => exact .snil l c
  | slc r => exact .slc (r.mono h)
  | mnil => exact .mnil
  | mp r => exact .mp (r.mono h)
  | cnil => exact .cnil
  | ch r => exact .ch (r.mono h)
  | func fn ha hb _ _ iha ihb => exact .func fn ha hb iha ihb
  | nilFunc => exact .nilFunc
  | iface t _ ih => exact .iface t ih
  | nilIface => exact .nilIface
  | agg ha _ ih => exact .agg ha ih
  | tuple ha _ ih => exact .tuple ha ih
theorem VRs.mono {φ φ' : List Place} (h : φ <+: φ') {a a' : List Value} (r : VRs φ a a') : VRs φ' a a' := ⟨r.1, fun i v v' hv hv' => (r.2 i v v' hv hv').mono h⟩

theorem ARel.ext (φ : List Place) (a : Addr) : ARel φ (extAddr a) a := .inl ⟨by simp [extAddr], by simp [extAddr], rfl, rfl⟩
mutual
theorem VR.ext (φ : List Place) : ∀ v : Value, VR φ (ext v) v
  | .bool b => by rw [AM.ext]; exact .bool b
  | .int k n => by rw [AM.ext]; exact .int k n
  | .float k n => by rw [AM.ext]; exact .float k n
  | .complex k n m => by rw [AM.ext]; exact .complex k n m
  | .string s => by rw [AM.ext]; exact .string s
  | .pointer none => by rw [AM.ext]; exact .pnil
  | .pointer (some a) => by rw [AM.ext]; exact .ptr (.ext φ a)
  | .slice none l c => by rw [AM.ext]; exact .snil l c
  | .slice (some a) l c => by rw [AM.ext]; exact .slc (.inl ⟨by simp [extAddr], rfl, .ext φ a⟩)
  | .map none => by rw [AM.ext]; exact .mnil
  | .map (some r) => by rw [AM.ext]; exact .mp (.inl ⟨by omega, by omega⟩)
  | .chan none => by rw [AM.ext]; exact .cnil
  | .chan (some r) => by rw [AM.ext]; exact .ch (.inl ⟨by omega, by omega⟩)
  | .func fn ⟨a⟩ ⟨b⟩ => by rw [AM.ext]; exact .func fn (VRs.ext φ a).1 (VRs.ext φ b).1 (VRs.ext φ a).2 (VRs.ext φ b).2
  | .nilFunc => by rw [AM.ext]; exact .nilFunc
  | .iface t v => by rw [AM.ext]; exact .iface t (VR.ext φ v)
  | .nilIface => by rw [AM.ext]; exact .nilIface
  | .agg ⟨a⟩ => by rw [AM.ext]; exact VR.agg' (VRs.ext φ a)
  | .tuple ⟨a⟩ => by rw [AM.ext]; exact VR.tuple' (VRs.ext φ a)
theorem VRs.ext (φ : List Place) : ∀ l : List Value, VRs φ (extL l) l
  | [] => by rw [extL]; exact VRs.nil φ
  | v :: r => by rw [extL]; exact VRs.cons (VR.ext φ v) (VRs.ext φ r)
end

/-! ### the abstract heap -/
inductive AObj where
  | cells (cs : List Value) (sz : Nat) (ex : Bool)
  | map (es : List (Value × Value × Nat)) (clock : Nat)
  | iter (s : ByteArray) (pos : Nat)

structure AH where
  w0 : World
  nx : Nat
  tr : Tr AObj

/-- the entries of a map -/
def ERel (φ : List Place) (es : List (Value × Value × Nat)) (es' : List MapEntry) : Prop :=
  es.length = es'.length ∧ ∀ (i : Nat) k v b e, es[i]? = some (k, v, b) → es'[i]? = some e → VR φ k e.key ∧ VR φ v e.val ∧ b = e.born

def ORel (φ : List Place) (p : Place) (o : AObj) (x : Option Obj) : Prop :=
  match o with
  | .cells cs sz ex => ∃ (C : Array Value) (e : TypeId) (lo hi : Nat), x = some (.cells C e (lo, hi)) ∧ (∀ k, k < C.size → lo ≤ k → lo = hi) ∧ p.tot = C.size ∧ SzT p sz e ∧ p.base + cs.length ≤ C.size ∧
      (ex = true → p.base + cs.length = C.size) ∧ VRs φ cs ((C.toList.drop p.base).take cs.length)
  | .map es clock => ∃ es' : Array MapEntry, x = some (.map es' clock) ∧ ERel φ es es'.toList
  | .iter s pos => x = some (.stringIter s pos)

/-- blocks that nobody knows and nobody turns -/
structure Pin where
  f : Nat → Option Obj
abbrev Pins : Type := Inhabited Pin
def Pins.pin (π : Pins) (b : Nat) : Option Obj := (@default Pin π).f b
structure Rel [π : Pins] (φ : List Place) (H : AH) (w : World) : Prop where
  below : Below H.w0.heap.size H.w0 w
  len : φ.length = H.nx
  obj : ∀ i o, H.tr.get i = some o → ∃ p, φ[i]? = some p ∧ H.w0.heap.size ≤ p.blk ∧ ORel φ p o w.heap[p.blk]?
  inj : ∀ i j o o' p q, H.tr.get i = some o → H.tr.get j = some o' → φ[i]? = some p → φ[j]? = some q → p.blk = q.blk → i = j
  pin : ∀ b x, π.pin b = some x → w.heap[b]? = some x ∧ ∀ (i : Nat) p, φ[i]? = some p → p.blk ≠ b
  lt : ∀ (i : Nat) p, φ[i]? = some p → p.blk < w.heap.size
end Go.AM
