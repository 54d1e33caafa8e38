/-
  The abstract machine, part 3: operations that touch no memory.
-/
import Derived.Test.YtpfgpjopjadmiaaGreatDoorAM2
import Derived.Laws.StructEq
import Derived.ChangeKeysEq
set_option linter.unusedVariables false
set_option linter.unusedSimpArgs false
noncomputable section
namespace Go.AM
open Go.RowKit

/-- what the machine asks of a type -/
structure TI where
  size : Nat
  bytes : Nat
  zero : Option Value

/-- what the machine asks of a function -/
structure AFn where
  ntmps : Nat
  results : List ResultVar
  body : Code

structure Env (P : Program) where
  fn : Nat → Option AFn
  fn_ok : ∀ f x, fn f = some x → ∃ F, P.funcs[f]? = some F ∧ F.body = some x.body ∧ F.ntmps = x.ntmps ∧ F.results.toList = x.results ∧ (F.name == "runtime.NumGoroutine") = false
  und : Nat → Option TypeDesc
  und_ok : ∀ t d, und t = some d → P.underlying t = some d
  inf : Nat → Option TI
  inf_ok : ∀ t x, inf t = some x → ∃ i, P.info? t = some i ∧ i.size = x.size ∧ i.bytes = x.bytes ∧ i.zero = x.zero
  sz_lt : ∀ t x, inf t = some x → x.size < tagB
  zs_ok : ∀ t x z, inf t = some x → x.zero = some z → z.cells.size = x.size
  eqT : Nat → Bool
  eqT_ok : ∀ t, eqT t = true → P.stoodInHeld t = false ∧ P.eqGuardType P.depth t = false

def zeroFits (i : TypeInfo) : Bool :=
  match i.zero with
  | some z => Nat.beq z.cells.size i.size
  | none => true

def Env.own (P : Program) (names : ∀ (f : Nat) (F : Func), P.funcs[f]? = some F → (F.name == "runtime.NumGoroutine") = false) (eqT : Nat → Bool) (h : ∀ t, eqT t = true → P.stoodInHeld t = false ∧ P.eqGuardType P.depth t = false) : Env P where
  fn f := match P.funcs[f]? with
    | some F => (match F.body with
      | some c => some ⟨F.ntmps, F.results.toList, c⟩
      | none => none)
    | none => none
  fn_ok f x h := by
    split at h
    · rename_i F hF
      split at h
      · rename_i c hc
        cases h
        exact ⟨F, hF, hc, rfl, rfl, names f F hF⟩
      · cases h
    · cases h
  und := P.underlying
  und_ok _ _ h := h
  inf t := match P.info? t with
    | some i => bif zeroFits i && Nat.blt i.size tagB then some ⟨i.size, i.bytes, i.zero⟩ else none
    | none => none
  inf_ok t x h := by
    split at h
    · rename_i i hi
      cases hz : (zeroFits i && Nat.blt i.size tagB) with
      | false => rw [hz] at h; cases h
      | true => rw [hz, cond_true] at h; cases h; exact ⟨i, hi, rfl, rfl, rfl⟩
    · cases h
  sz_lt t x h := by
    split at h
    · rename_i i hi
      cases hz : (zeroFits i && Nat.blt i.size tagB) with
      | false => rw [hz] at h; cases h
      | true =>
        rw [hz, cond_true] at h; cases h
        rw [Bool.and_eq_true] at hz
        exact Nat.le_of_ble_eq_true hz.2
    · cases h
  zs_ok t x z h hz := by
    split at h
    · rename_i i hi
      cases hf : (zeroFits i && Nat.blt i.size tagB) with
      | false => rw [hf] at h; cases h
      | true =>
        rw [hf, cond_true] at h
        cases h
        simp only at hz
        rw [Bool.and_eq_true] at hf
        replace hf := hf.1
        simp only [zeroFits, hz] at hf
        exact Nat.eq_of_beq_eq_true hf
    · cases h
  eqT := eqT
  eqT_ok := h

section
variable {P : Program}
theorem run_sizeOf' (E : Env P) {t : TypeId} {x : TI} (h : E.inf t = some x) (w : World) : (sizeOf t).run P w = .ok x.size w := by
  obtain ⟨i, hi, h1, _⟩ := E.inf_ok t x h
  simp [sizeOf, typeInfo, hi, h1]
theorem run_typeInfo' (E : Env P) {t : TypeId} {x : TI} (h : E.inf t = some x) (w : World) : ∃ i, (typeInfo t).run P w = .ok i w ∧ i.size = x.size ∧ i.bytes = x.bytes ∧ i.zero = x.zero := by
  obtain ⟨i, hi, h1⟩ := E.inf_ok t x h
  exact ⟨i, by simp [typeInfo, hi], h1⟩
theorem run_zeroValue' (E : Env P) {t : TypeId} {x : TI} {z : Value} (h : E.inf t = some x) (hz : x.zero = some z) (w : World) : (zeroValue t).run P w = .ok z w := by
  obtain ⟨i, hi, h1, h2, h3⟩ := E.inf_ok t x h
  simp [zeroValue, typeInfo, hi, h3, hz]
theorem run_und (E : Env P) {t : TypeId} {d : TypeDesc} (h : E.und t = some d) (w : World) : (underlying t).run P w = .ok d w := run_underlying (E.und_ok t d h) w
end

/-- an operation's run, abstractly: the value v and the heap H' -/
def SOk [Pins] (P : Program) (s : Sem Value) (φ : List Place) (w : World) (v : Value) (H' : AH) : Prop :=
  ∃ φ' v' w', φ <+: φ' ∧ Rel φ' H' w' ∧ VR φ' v v' ∧ s.run P w = .ok v' w'

theorem SOk.here [Pins] {P : Program} {s : Sem Value} {φ : List Place} {w : World} {v v' : Value} {H : AH} (R : Rel φ H w) (hv : VR φ v v') (h : s.run P w = .ok v' w) : SOk P s φ w v H :=
  ⟨φ, v', w, List.prefix_refl _, R, hv, h⟩

/-! ### flat values -/
def flat1 : Value → Bool
  | .bool _ | .int _ _ | .string _ => true
  | _ => false
def flatL : List Value → Bool
  | [] => true
  | v :: r => flat1 v && flatL r
def flat : Value → Bool
  | .agg ⟨cs⟩ => flatL cs
  | v => flat1 v

theorem flat1_eq {φ : List Place} {v v' : Value} (h : VR φ v v') (hf : flat1 v = true) : v' = v := by
  cases h <;> first | rfl | (simp [flat1] at hf)
theorem flatL_eq {φ : List Place} : ∀ {l l' : List Value}, VRs φ l l' → flatL l = true → l' = l
  | [], [], _, _ => rfl
  | [], _ :: _, h, _ => by have := h.1; simp at this
  | _ :: _, [], h, _ => by have := h.1; simp at this
  | v :: l, v' :: l', h, hf => by
    simp only [flatL, Bool.and_eq_true] at hf
    rw [flat1_eq h.head hf.1, flatL_eq h.tail hf.2]
theorem flat_eq {φ : List Place} {v v' : Value} (h : VR φ v v') (hf : flat v = true) : v' = v := by
  cases h with
  | agg ha hv => rw [flatL_eq ⟨ha, hv⟩ hf]
  | _ => first | rfl | (simp [flat, flat1] at hf)

theorem VR.cells {φ : List Place} {v v' : Value} (h : VR φ v v') : VRs φ v.cells.toList v'.cells.toList := by
  cases h with
  | agg ha hv => exact ⟨ha, hv⟩
  | func fn ha hb va vb => exact VRs.cons (.func fn ha hb va vb) (VRs.nil φ)
  | tuple ha hv => exact VRs.cons (.tuple ha hv) (VRs.nil φ)
  | bool b => exact VRs.cons (.bool b) (VRs.nil φ)
  | int k n => exact VRs.cons (.int k n) (VRs.nil φ)
  | float k n => exact VRs.cons (.float k n) (VRs.nil φ)
  | complex k n m => exact VRs.cons (.complex k n m) (VRs.nil φ)
  | string s => exact VRs.cons (.string s) (VRs.nil φ)
  | pnil => exact VRs.cons .pnil (VRs.nil φ)
  | ptr r => exact VRs.cons (.ptr r) (VRs.nil φ)
  | snil l c => exact VRs.cons (.snil l c) (VRs.nil φ)
  | slc r => exact VRs.cons (.slc r) (VRs.nil φ)
  | mnil => exact VRs.cons .mnil (VRs.nil φ)
  | mp r => exact VRs.cons (.mp r) (VRs.nil φ)
  | cnil => exact VRs.cons .cnil (VRs.nil φ)
  | ch r => exact VRs.cons (.ch r) (VRs.nil φ)
  | nilFunc => exact VRs.cons .nilFunc (VRs.nil φ)
  | iface t h => exact VRs.cons (.iface t h) (VRs.nil φ)
  | nilIface => exact VRs.cons .nilIface (VRs.nil φ)

/-! ### equality -/
def isAggD : TypeDesc → Bool
  | .struct _ | .array _ _ => true
  | _ => false

/-- a part of an aggregate -/
def apart {P : Program} (E : Env P) (t : TypeId) (cs : List Value) (off : Nat) : Option Value :=
  match E.und t with
  | some d =>
    bif isAggD d then
      (match E.inf t with
      | some i => bif Nat.ble (off + i.size) cs.length then some (.agg ⟨(cs.drop off).take i.size⟩) else none
      | none => none)
    else cs[off]?
  | none => none

theorem run_isAgg {P : Program} (E : Env P) {t : TypeId} {d : TypeDesc} (h : E.und t = some d) (w : World) : (isAgg t).run P w = .ok (isAggD d) w := by
  simp only [isAgg, Sem.run_bind, run_und E h, Result.andThen_ok]
  cases d <;> rfl

theorem apart_ok {P : Program} (E : Env P) {φ : List Place} {t : TypeId} {cs cs' : List Value} {off : Nat} {v : Value} (hc : VRs φ cs cs') (h : apart E t cs off = some v) (w : World) :
    ∃ v', (part t ⟨cs'⟩ off).run P w = .ok v' w ∧ VR φ v v' := by
  unfold apart at h
  split at h
  · rename_i d hd
    cases hag : isAggD d with
    | true =>
      rw [hag, cond_true] at h
      split at h
      · rename_i i hi
        cases hle : Nat.ble (off + i.size) cs.length with
        | false => rw [hle] at h; cases h
        | true =>
          rw [hle, cond_true] at h
          cases h
          refine ⟨.agg ⟨(cs'.drop off).take i.size⟩, ?_, VR.agg' ((hc.drop off).take i.size)⟩
          simp only [part, Sem.run_bind, run_isAgg E hd, hag, Result.andThen_ok, if_true, run_sizeOf' E hi, Sem.run_pure]
          simp only [List.extract_toArray, List.extract_eq_drop_take']
          congr 2
          rw [List.drop_take]
          simp
      · cases h
    | false =>
      rw [hag, cond_false] at h
      obtain ⟨v', h1, h2⟩ := hc.get h
      refine ⟨v', ?_, h2⟩
      simp only [part, Sem.run_bind, run_isAgg E hd, hag, Result.andThen_ok, Bool.false_eq_true, if_false, List.getElem?_toArray, h1, Sem.run_pure]
  · cases h

def aeqElems (f : Nat → Option Bool) : Nat → Nat → Option Bool
  | _, 0 => some true
  | i, n + 1 => match f i with
    | some true => aeqElems f (i + 1) n
    | some false => some false
    | none => none

def aeqFields {P : Program} (E : Env P) (f : TypeId → Value → Value → Option Bool) (xs ys : List Value) : List Field → Option Bool
  | [] => some true
  | fd :: fs =>
    bif fd.name == "_" then aeqFields E f xs ys fs else
    match apart E fd.type xs fd.offset, apart E fd.type ys fd.offset with
    | some a, some b => (match f fd.type a b with
      | some true => aeqFields E f xs ys fs
      | some false => some false
      | none => none)
    | _, _ => none

def aeq {P : Program} (E : Env P) : Nat → TypeId → Value → Value → Option Bool
  | 0, _, _, _ => none
  | d + 1, t, x, y =>
    match E.und t, x, y with
    | some (.int _), .int k a, .int k' b => if k = k' then some (a == b) else none
    | some .bool, .bool a, .bool b => some (a == b)
    | some .string, .string a, .string b => some (a.data.toList == b.data.toList)
    | some (.struct fs), .agg ⟨xs⟩, .agg ⟨ys⟩ => bif E.eqT t then aeqFields E (aeq E d) xs ys fs.toList else none
    | some (.array n e), .agg ⟨xs⟩, .agg ⟨ys⟩ => (match E.inf e with
      | some i => aeqElems (fun j => match apart E e xs (j * i.size), apart E e ys (j * i.size) with
        | some a, some b => aeq E d e a b
        | _, _ => none) 0 n
      | none => none)
    | _, _, _ => none

theorem apart_run {P : Program} (E : Env P) {t : TypeId} {cs : List Value} {off : Nat} {v : Value} (h : apart E t cs off = some v) (w : World) : (part t ⟨cs⟩ off).run P w = .ok v w := by
  unfold apart at h
  split at h
  · rename_i d hd
    cases hag : isAggD d with
    | true =>
      rw [hag, cond_true] at h
      split at h
      · rename_i i hi
        cases hle : Nat.ble (off + i.size) cs.length with
        | false => rw [hle] at h; cases h
        | true =>
          rw [hle, cond_true] at h
          cases h
          simp only [part, Sem.run_bind, run_isAgg E hd, hag, Result.andThen_ok, if_true, run_sizeOf' E hi, Sem.run_pure]
          simp only [List.extract_toArray, List.extract_eq_drop_take']
          congr 2
          rw [List.drop_take]
          simp
      · cases h
    | false =>
      rw [hag, cond_false] at h
      simp only [part, Sem.run_bind, run_isAgg E hd, hag, Result.andThen_ok, Bool.false_eq_true, if_false, List.getElem?_toArray, h, Sem.run_pure]
  · cases h

theorem aeqFields_ok {P : Program} (E : Env P) {f : TypeId → Value → Value → Option Bool} {d : Nat} (hf : ∀ t x y b w, f t x y = some b → (Op.equalIn d t x y).run P w = .ok b w) (xs ys : List Value) :
    ∀ (fs : List Field) (b : Bool) (w : World), aeqFields E f xs ys fs = some b → (Op.eqFields d ⟨xs⟩ ⟨ys⟩ fs).run P w = .ok b w := by
  intro fs
  induction fs with
  | nil => intro b w h; simp [aeqFields] at h; subst h; simp [Op.eqFields]
  | cons fd fs ih =>
    intro b w h
    simp only [aeqFields] at h
    cases hn : (fd.name == "_") with
    | true =>
      rw [hn, cond_true] at h
      simp only [Op.eqFields]
      rw [if_neg (by simpa using hn)]
      exact ih b w h
    | false =>
      rw [hn, cond_false] at h
      have hn' : fd.name ≠ "_" := by simpa using hn
      split at h
      · rename_i a c ha hc
        simp only [Op.eqFields, if_pos hn', Sem.run_bind, apart_run E ha, apart_run E hc, Result.andThen_ok]
        split at h
        · rename_i hr
          simp only [hf _ _ _ _ w hr, Result.andThen_ok, Bool.not_true, Bool.false_eq_true, if_false]
          exact ih b w h
        · rename_i hr
          cases h
          simp only [hf _ _ _ _ w hr, Result.andThen_ok, Bool.not_false, if_true, Sem.run_pure]
        · cases h
      · cases h

theorem aeqElems_ok {P : Program} {f : Nat → Option Bool} {d : Nat} {e : TypeId} {size : Nat} {xs ys : List Value}
    (hf : ∀ j b w, f j = some b → ∃ u v, (part e ⟨xs⟩ (j * size)).run P w = .ok u w ∧ (part e ⟨ys⟩ (j * size)).run P w = .ok v w ∧ (Op.equalIn d e u v).run P w = .ok b w) :
    ∀ (n i : Nat) (b : Bool) (w : World), aeqElems f i n = some b → (Op.eqItems d e size ⟨xs⟩ ⟨ys⟩ (List.range' i n)).run P w = .ok b w := by
  intro n
  induction n with
  | zero => intro i b w h; simp [aeqElems] at h; subst h; simp [Op.eqItems]
  | succ n ih =>
    intro i b w h
    simp only [aeqElems] at h
    rw [List.range'_succ]
    simp only [Op.eqItems, Sem.run_bind]
    split at h
    · rename_i hr
      obtain ⟨u, v, h1, h2, h3⟩ := hf i _ w hr
      simp only [h1, h2, h3, Result.andThen_ok, Bool.not_true, Bool.false_eq_true, if_false]
      exact ih (i + 1) b w h
    · rename_i hr
      cases h
      obtain ⟨u, v, h1, h2, h3⟩ := hf i _ w hr
      simp only [h1, h2, h3, Result.andThen_ok, Bool.not_false, if_true, Sem.run_pure]
    · cases h

theorem aeq_ok {P : Program} (E : Env P) (m : Nat) : ∀ (d : Nat) (t : TypeId) (x y : Value) (b : Bool) (w : World), aeq E d t x y = some b → (Op.equalIn (d + m) t x y).run P w = .ok b w := by
  intro d
  induction d with
  | zero => intro t x y b w h; simp [aeq] at h
  | succ d ih =>
    intro t x y b w h
    rw [show d + 1 + m = (d + m) + 1 by omega]
    simp only [aeq] at h
    split at h
    · rename_i hu
      split at h
      · rename_i hk; subst hk; cases h
        exact run_equalIn_int w _ t _ _ _ _ (E.und_ok _ _ hu)
      · cases h
    · rename_i hu
      cases h
      exact run_equalIn_bool w _ t _ _ (E.und_ok _ _ hu)
    · rename_i hu
      cases h
      rw [run_equalIn_string w _ t _ _ (E.und_ok _ _ hu), ByteArray.toList_eq, ByteArray.toList_eq]
    · rename_i fs xs ys hu
      cases he : E.eqT t with
      | false => rw [he] at h; cases h
      | true =>
        rw [he, cond_true] at h
        have hfs : P.fieldsOf t = fs := by simp [Program.fieldsOf, E.und_ok _ _ hu]
        rw [run_equalIn_struct w _ t _ _ (by rw [hfs]; exact E.und_ok _ _ hu) (E.eqT_ok t he).1, hfs]
        exact aeqFields_ok E (fun t x y b w h => ih t x y b w h) xs ys _ b w h
    · rename_i n e xs ys hu
      split at h
      · rename_i i hi
        obtain ⟨i', hi', h1, _⟩ := E.inf_ok e i hi
        have hcells : P.cellsOf e = i.size := by simp [Program.cellsOf, hi', h1]
        rw [run_equalIn_array (w := w) _ _ _ (E.und_ok _ _ hu) hi', hcells, List.range_eq_range']
        refine aeqElems_ok (fun j b w hj => ?_) n 0 b w h
        split at hj
        · rename_i a c ha hc
          exact ⟨a, c, apart_run E ha w, apart_run E hc w, ih _ _ _ _ w hj⟩
        · cases hj
      · cases h
    · cases h

/-! ### binary operations -/
def abinInt (op : BinOp) (k : IntKind) (a b : Int) : Option Value :=
  match op with
  | .add => some (.int k (k.wrap (a + b)))
  | .sub => some (.int k (k.wrap (a - b)))
  | .mul => some (.int k (k.wrap (a * b)))
  | .quo => if b = 0 then none else some (.int k (k.wrap (a.tdiv b)))
  | .rem => if b = 0 then none else some (.int k (a.tmod b))
  | .and => some (.int k (bits .and k a b))
  | .or => some (.int k (bits .or k a b))
  | .xor => some (.int k (bits .xor k a b))
  | .andNot => some (.int k (bits .andNot k a b))
  | .eql => some (.bool (a == b))
  | .neq => some (.bool (a != b))
  | .lss => some (.bool (decide (a < b)))
  | .leq => some (.bool (decide (a ≤ b)))
  | .gtr => some (.bool (decide (a > b)))
  | .geq => some (.bool (decide (a ≥ b)))
  | _ => none

def abinStr (op : BinOp) (a b : ByteArray) : Option Value :=
  match op with
  | .add => if a.size + b.size ≤ 9223372036854775807 then some (.string ⟨⟨a.data.toList ++ b.data.toList⟩⟩) else none
  | .eql => some (.bool (a.data.toList == b.data.toList))
  | .neq => some (.bool !(a.data.toList == b.data.toList))
  | .lss => some (.bool (Op.bytesLess a.data.toList b.data.toList))
  | .leq => some (.bool (Op.bytesLess a.data.toList b.data.toList || a.data.toList == b.data.toList))
  | .gtr => some (.bool !(Op.bytesLess a.data.toList b.data.toList || a.data.toList == b.data.toList))
  | .geq => some (.bool !(Op.bytesLess a.data.toList b.data.toList))
  | _ => none

/-- '==' or '!=' -/
def eqAs (op : BinOp) (b : Bool) : Option Value :=
  match op with
  | .eql => some (.bool b)
  | .neq => some (.bool !b)
  | _ => none

/-- two addresses are one -/
def asameA (a b : Addr) : Bool := Nat.beq a.block b.block && (Nat.beq a.off b.off && (a.spot.isNone && b.spot.isNone))
theorem asameA_eq {a b : Addr} (h : asameA a b = true) : a = b := by
  unfold asameA at h
  simp only [Bool.and_eq_true] at h
  obtain ⟨h1, h2, h3, h4⟩ := h
  have h1 := Nat.eq_of_beq_eq_true h1
  have h2 := Nat.eq_of_beq_eq_true h2
  obtain ⟨b1, o1, s1⟩ := a
  obtain ⟨b2, o2, s2⟩ := b
  cases s1 <;> cases s2 <;> simp_all
theorem ARel.inj {φ : List Place} {a b c : Addr} (h1 : ARel φ a b) (h2 : ARel φ a c) : b = c := by
  obtain ⟨b1, o1, s1⟩ := b
  obtain ⟨b2, o2, s2⟩ := c
  rcases h1 with ⟨q1, q2, q3, q4⟩ | ⟨q1, _, q4, p, q5, q2, q3⟩ <;> rcases h2 with ⟨r1, r2, r3, r4⟩ | ⟨r1, _, r4, q, r5, r2, r3⟩
  · simp only at q2 q3 q4 r2 r3 r4; subst q2 q3 q4 r2 r3 r4; rfl
  · omega
  · omega
  · rw [q5] at r5; cases r5
    simp only at q2 q3 q4 r2 r3 r4; subst q2 q3 q4 r2 r3 r4; rfl
def abin {P : Program} (E : Env P) (op : BinOp) (t : TypeId) (x y : Value) : Option Value :=
  match x, y with
  | .int k a, .int k' b =>
    (match op with
    | .shl => if b < 0 then none else some (.int k (k.wrap (a * 2 ^ (min b.toNat k.bits))))
    | .shr => if b < 0 then none else some (.int k (a.fdiv (2 ^ (min b.toNat k.bits))))
    | _ => if k = k' then abinInt op k a b else none)
  | .string a, .string b => abinStr op a b
  | .bool a, .bool b => (match E.und t with
    | some .bool => eqAs op (a == b)
    | _ => none)
  | .agg ⟨xs⟩, .agg ⟨ys⟩ =>
    bif flatL xs && (flatL ys && E.eqT t) then (match aeq E 9 t x y with
      | some b => eqAs op b
      | none => none)
    else none
  | .slice a _ _, .slice none _ _ => (match E.und t with
    | some (.slice _) => eqAs op a.isNone
    | _ => none)
  | .pointer a, .pointer none => (match E.und t with
    | some (.pointer _) => eqAs op a.isNone
    | _ => none)
  | .pointer (some a), .pointer (some b) => (match E.und t with
    | some (.pointer e) => (match E.inf e with
      | some i => bif !(Nat.beq i.size 0) && asameA a b then eqAs op true else none
      | none => none)
    | _ => none)
  | .map a, .map none => (match E.und t with
    | some (.map _ _) => eqAs op a.isNone
    | _ => none)
  | .nilFunc, .nilFunc => (match E.und t with
    | some (.func _ _ _) => eqAs op true
    | _ => none)
  | .func _ _ _, .nilFunc => (match E.und t with
    | some (.func _ _ _) => eqAs op false
    | _ => none)
  | _, _ => none

theorem eqAs_run {P : Program} {op : BinOp} {t : TypeId} {x y v : Value} {b : Bool} {w : World} (h : eqAs op b = some v) (he : (Op.equal t x y).run P w = .ok b w)
    (hx : binOp .eql t x y = (do pure (.bool (← Op.equal t x y)))) (hy : binOp .neq t x y = (do pure (.bool (!(← Op.equal t x y))))) : (binOp op t x y).run P w = .ok v w := by
  cases op <;> simp [eqAs] at h <;> subst h
  · rw [hx]; simp [he]
  · rw [hy]; simp [he]

section
variable {P : Program} (w : World) (d : Nat) {t : TypeId}
theorem equalIn_slice_nil {e : TypeId} (hu : P.underlying t = some (.slice e)) (a : Option Addr) (l c l2 c2 : Nat) : (Op.equalIn (d + 1) t (.slice a l c) (.slice none l2 c2)).run P w = .ok a.isNone w := by
  cases a <;> simp [Op.equalIn, run_underlying hu]
theorem equalIn_pointer_nil {e : TypeId} (hu : P.underlying t = some (.pointer e)) (a : Option Addr) : (Op.equalIn (d + 1) t (.pointer a) (.pointer none)).run P w = .ok a.isNone w := by
  cases a <;> simp [Op.equalIn, run_underlying hu]
theorem equalIn_pointer_same (E : Env P) {e : TypeId} {i : TI} (hu : P.underlying t = some (.pointer e)) (hi : E.inf e = some i) (hz : ¬ i.size = 0) (a : Addr) : (Op.equalIn (d + 1) t (.pointer (some a)) (.pointer (some a))).run P w = .ok true w := by
  simp [Op.equalIn, run_underlying hu, run_sizeOf' E hi, hz, sameAddr]
theorem equalIn_map_nil {k e : TypeId} (hu : P.underlying t = some (.map k e)) (a : Option Nat) : (Op.equalIn (d + 1) t (.map a) (.map none)).run P w = .ok a.isNone w := by
  cases a <;> simp [Op.equalIn, run_underlying hu]
theorem equalIn_nilFunc {k e : Array TypeId} {b : Bool} (hu : P.underlying t = some (.func k e b)) : (Op.equalIn (d + 1) t .nilFunc .nilFunc).run P w = .ok true w := by
  simp [Op.equalIn, run_underlying hu]
theorem equalIn_func_nil {k e : Array TypeId} {b : Bool} (hu : P.underlying t = some (.func k e b)) (f : Fn) (x y : Array Value) : (Op.equalIn (d + 1) t (.func f x y) .nilFunc).run P w = .ok false w := by
  simp [Op.equalIn, run_underlying hu]
end

theorem abin_ok {P : Program} (E : Env P) {φ : List Place} {op : BinOp} {t : TypeId} {x y x' y' v : Value} (hx : VR φ x x') (hy : VR φ y y') (h : abin E op t x y = some v) (p q : Operand) (w : World) :
    ∃ v', VR φ v v' ∧ (do eqGuard op t p q x' y'; binOp op t x' y').run P w = .ok v' w := by
  unfold abin at h
  split at h
  · -- ints
    cases hx; cases hy
    rename_i k a k' b
    simp only [Sem.run_bind, eqGuard_at_int, Sem.run_pure, Result.andThen_ok]
    split at h
    · split at h
      · cases h
      · rename_i hb; cases h
        refine ⟨_, .int _ _, ?_⟩
        rw [binOp_shl]; simp [Op.shift, hb]
    · split at h
      · cases h
      · rename_i hb; cases h
        refine ⟨_, .int _ _, ?_⟩
        rw [binOp_shr]; simp [Op.shift, hb]
    · split at h
      · rename_i hk; subst hk
        cases op <;> simp only [abinInt] at h
        case add => cases h; exact ⟨_, .int _ _, by rw [binOp_add]; rfl⟩
        case sub => cases h; exact ⟨_, .int _ _, by rw [binOp_sub]; rfl⟩
        case mul => cases h; exact ⟨_, .int _ _, by rw [binOp_mul]; rfl⟩
        case quo =>
          split at h
          · cases h
          · rename_i hb; cases h; exact ⟨_, .int _ _, by rw [binOp_quo]; simp [Op.intDiv, hb]⟩
        case rem =>
          split at h
          · cases h
          · rename_i hb; cases h; exact ⟨_, .int _ _, by rw [binOp_rem]; simp [Op.intDiv, hb]⟩
        case and => cases h; exact ⟨_, .int _ _, by rw [binOp_and, intBits_and]; rfl⟩
        case or => cases h; exact ⟨_, .int _ _, by rw [binOp_or, intBits_or]; rfl⟩
        case xor => cases h; exact ⟨_, .int _ _, by rw [binOp_xor, intBits_xor]; rfl⟩
        case andNot => cases h; exact ⟨_, .int _ _, by rw [binOp_andNot, intBits_andNot]; rfl⟩
        case eql => cases h; exact ⟨_, .bool _, by rw [binOp_eql]; rfl⟩
        case neq => cases h; exact ⟨_, .bool _, by rw [binOp_neq]; rfl⟩
        case lss => cases h; exact ⟨_, .bool _, by rw [binOp_lss]; rfl⟩
        case leq => cases h; exact ⟨_, .bool _, by rw [binOp_leq]; rfl⟩
        case gtr => cases h; exact ⟨_, .bool _, by rw [binOp_gtr]; rfl⟩
        case geq => cases h; exact ⟨_, .bool _, by rw [binOp_geq]; rfl⟩
        all_goals cases h
      · cases h
  · -- strings
    cases hx; cases hy
    rename_i a b
    simp only [Sem.run_bind, eqGuard_at_string, Sem.run_pure, Result.andThen_ok]
    have hb : binOp op t (.string a) (.string b) = Op.stringOp op a b := by cases op <;> rfl
    rw [hb]
    cases op <;> simp only [abinStr] at h
    case add =>
      split at h
      · rename_i hle; cases h
        refine ⟨_, .string _, ?_⟩
        simp only [Op.stringOp, IntKind.max_i64]
        rw [if_neg (by omega)]
        have : a ++ b = ⟨⟨a.data.toList ++ b.data.toList⟩⟩ := by
          apply ByteArray.ext
          simp [ByteArray.data_append]
        rw [this]; rfl
      · cases h
    case eql => cases h; exact ⟨_, .bool _, by simp [Op.stringOp, ByteArray.toList_eq]⟩
    case neq => cases h; exact ⟨_, .bool _, by simp [Op.stringOp, ByteArray.toList_eq]⟩
    case lss => cases h; exact ⟨_, .bool _, by simp [Op.stringOp, ByteArray.toList_eq]⟩
    case leq => cases h; exact ⟨_, .bool _, by simp [Op.stringOp, ByteArray.toList_eq]⟩
    case gtr => cases h; exact ⟨_, .bool _, by simp [Op.stringOp, ByteArray.toList_eq]⟩
    case geq => cases h; exact ⟨_, .bool _, by simp [Op.stringOp, ByteArray.toList_eq]⟩
    all_goals cases h
  · -- bools
    cases hx; cases hy
    rename_i a b
    simp only [Sem.run_bind, eqGuard_at_bool, Sem.run_pure, Result.andThen_ok]
    split at h
    · rename_i hu
      have hv : ∃ c, v = .bool c := by cases op <;> simp [eqAs] at h <;> exact ⟨_, h.symm⟩
      obtain ⟨c, rfl⟩ := hv
      exact ⟨_, .bool _, eqAs_run h (run_equal_bool w t _ _ (E.und_ok _ _ hu)) (by cases a <;> rfl) (by cases a <;> rfl)⟩
    · cases h
  · -- aggregates
    rename_i xs ys
    cases hf : (flatL xs && (flatL ys && E.eqT t)) with
    | false => rw [hf] at h; cases h
    | true =>
      rw [hf, cond_true] at h
      simp only [Bool.and_eq_true] at hf
      obtain rfl := flat_eq hx hf.1
      obtain rfl := flat_eq hy hf.2.1
      split at h
      · rename_i b hb
        have hv : ∃ c, v = .bool c := by cases op <;> simp [eqAs] at h <;> exact ⟨_, h.symm⟩
        obtain ⟨c, rfl⟩ := hv
        refine ⟨_, .bool _, ?_⟩
        simp only [Sem.run_bind, run_eqGuard_agg w op t p q _ _ (E.eqT_ok t hf.2.2).2, Result.andThen_ok]
        exact eqAs_run h (aeq_ok E 9991 9 t _ _ b w hb) rfl rfl
      · cases h
  · -- slices
    rename_i a l c l2 c2
    cases hy
    have hv : ∀ d, eqAs op d = some v → ∃ c, v = .bool c := by intro d h; cases op <;> simp [eqAs] at h <;> exact ⟨_, h.symm⟩
    split at h
    · rename_i e hu
      obtain ⟨cc, rfl⟩ := hv _ h
      cases hx with
      | snil l c =>
        refine ⟨_, .bool _, ?_⟩
        simp only [Sem.run_bind, eqGuard_at_slice, Sem.run_pure, Result.andThen_ok]
        exact eqAs_run h (equalIn_slice_nil w 9999 (E.und_ok _ _ hu) _ _ _ _ _) rfl rfl
      | slc r =>
        refine ⟨_, .bool _, ?_⟩
        simp only [Sem.run_bind, eqGuard_at_slice, Sem.run_pure, Result.andThen_ok]
        exact eqAs_run h (equalIn_slice_nil w 9999 (E.und_ok _ _ hu) _ _ _ _ _) rfl rfl
    · cases h
  · -- pointers
    cases hy
    have hv : ∀ d, eqAs op d = some v → ∃ c, v = .bool c := by intro d h; cases op <;> simp [eqAs] at h <;> exact ⟨_, h.symm⟩
    split at h
    · rename_i e hu
      obtain ⟨cc, rfl⟩ := hv _ h
      cases hx with
      | pnil =>
        refine ⟨_, .bool _, ?_⟩
        simp only [Sem.run_bind, eqGuard_at_pointer, Sem.run_pure, Result.andThen_ok]
        exact eqAs_run h (equalIn_pointer_nil w 9999 (E.und_ok _ _ hu) _) rfl rfl
      | ptr r =>
        refine ⟨_, .bool _, ?_⟩
        simp only [Sem.run_bind, eqGuard_at_pointer, Sem.run_pure, Result.andThen_ok]
        exact eqAs_run h (equalIn_pointer_nil w 9999 (E.und_ok _ _ hu) _) rfl rfl
    · cases h
  · -- two pointers
    rename_i a b
    have hv : ∀ d, eqAs op d = some v → ∃ c, v = .bool c := by intro d h; cases op <;> simp [eqAs] at h <;> exact ⟨_, h.symm⟩
    split at h
    · rename_i e hu
      split at h
      · rename_i i hi
        cases hb : (!(Nat.beq i.size 0) && asameA a b) with
        | false => rw [hb] at h; cases h
        | true =>
          rw [hb, cond_true] at h
          simp only [Bool.and_eq_true, Bool.not_eq_true'] at hb
          obtain rfl := asameA_eq hb.2
          have hz : ¬ i.size = 0 := fun q => by rw [q] at hb; exact absurd hb.1 (by decide)
          obtain ⟨cc, rfl⟩ := hv _ h
          cases hx with
          | ptr r =>
            cases hy with
            | ptr r2 =>
              obtain rfl := ARel.inj r r2
              refine ⟨_, .bool _, ?_⟩
              simp only [Sem.run_bind, eqGuard_at_pointer, Sem.run_pure, Result.andThen_ok]
              exact eqAs_run h (equalIn_pointer_same w 9999 E (E.und_ok _ _ hu) hi hz _) rfl rfl
      · cases h
    · cases h
  · -- maps
    cases hy
    have hv : ∀ d, eqAs op d = some v → ∃ c, v = .bool c := by intro d h; cases op <;> simp [eqAs] at h <;> exact ⟨_, h.symm⟩
    split at h
    · rename_i e hu
      obtain ⟨cc, rfl⟩ := hv _ h
      cases hx with
      | mnil =>
        refine ⟨_, .bool _, ?_⟩
        simp only [Sem.run_bind, eqGuard_at_map, Sem.run_pure, Result.andThen_ok]
        exact eqAs_run h (equalIn_map_nil w 9999 (E.und_ok _ _ hu) _) rfl rfl
      | mp r =>
        refine ⟨_, .bool _, ?_⟩
        simp only [Sem.run_bind, eqGuard_at_map, Sem.run_pure, Result.andThen_ok]
        exact eqAs_run h (equalIn_map_nil w 9999 (E.und_ok _ _ hu) _) rfl rfl
    · cases h
  · -- nil functions
    cases hx; cases hy
    have hv : ∀ d, eqAs op d = some v → ∃ c, v = .bool c := by intro d h; cases op <;> simp [eqAs] at h <;> exact ⟨_, h.symm⟩
    split at h
    · rename_i hu
      obtain ⟨cc, rfl⟩ := hv _ h
      refine ⟨_, .bool _, ?_⟩
      simp only [Sem.run_bind, eqGuard_at_nilFunc, Sem.run_pure, Result.andThen_ok]
      exact eqAs_run h (equalIn_nilFunc w 9999 (E.und_ok _ _ hu)) rfl rfl
    · cases h
  · -- functions against nil
    cases hx; cases hy
    have hv : ∀ d, eqAs op d = some v → ∃ c, v = .bool c := by intro d h; cases op <;> simp [eqAs] at h <;> exact ⟨_, h.symm⟩
    split at h
    · rename_i hu
      obtain ⟨cc, rfl⟩ := hv _ h
      refine ⟨_, .bool _, ?_⟩
      simp only [Sem.run_bind, eqGuard_at_func, Sem.run_pure, Result.andThen_ok]
      exact eqAs_run h (equalIn_func_nil w 9999 (E.und_ok _ _ hu) _ _ _) rfl rfl
    · cases h
  · cases h

end Go.AM
