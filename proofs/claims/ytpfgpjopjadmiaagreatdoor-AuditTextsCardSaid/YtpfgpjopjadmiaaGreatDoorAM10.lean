/-
  The abstract machine, part 10: a region in whatever order its edges allow.
-/
import Derived.Test.YtpfgpjopjadmiaaGreatDoorAM9
set_option linter.unusedVariables false
set_option linter.unusedSimpArgs false
noncomputable section
namespace Go.AM
open Go.RowKit

/-! ### what lies before an operation -/
def maskOf (acc : List Nat) : List Edge → Nat
  | [] => 0
  | e :: r => bif Region.binds .any e then (2 ^ e.on ||| acc.getD e.on 0) ||| maskOf acc r else maskOf acc r

def befGo : List Oper → List Nat → List Nat
  | [], acc => acc
  | o :: r, acc => befGo r (acc ++ [maskOf acc o.after.toList])

def bef (ops : Array Oper) : List Nat := befGo ops.toList []

def Closed (ops : Array Oper) (S : Nat → Bool) : Prop := ∀ (i : Nat) (o : Oper), ops[i]? = some o → S i = true → ∀ e ∈ o.after, Region.binds .any e = true → S e.on = true

theorem maskOf_bit {acc : List Nat} {j : Nat} : ∀ (es : List Edge), (maskOf acc es).testBit j = true → ∃ e ∈ es, Region.binds .any e = true ∧ (e.on = j ∨ (acc.getD e.on 0).testBit j = true) := by
  intro es
  induction es with
  | nil => intro h; simp [maskOf] at h
  | cons e es ih =>
    intro h
    simp only [maskOf] at h
    cases hb : Region.binds .any e with
    | false =>
      rw [hb, cond_false] at h
      obtain ⟨e', h1, h2⟩ := ih h
      exact ⟨e', List.mem_cons_of_mem _ h1, h2⟩
    | true =>
      rw [hb, cond_true, Nat.testBit_or, Nat.testBit_or, Bool.or_eq_true, Bool.or_eq_true] at h
      rcases h with (h | h) | h
      · refine ⟨e, List.mem_cons_self .., hb, .inl ?_⟩
        rw [Nat.testBit_two_pow] at h
        simpa using h
      · exact ⟨e, List.mem_cons_self .., hb, .inr h⟩
      · obtain ⟨e', h1, h2⟩ := ih h
        exact ⟨e', List.mem_cons_of_mem _ h1, h2⟩

theorem befGo_sound {ops : Array Oper} {S : Nat → Bool} (hS : Closed ops S) : ∀ (l : List Oper) (acc : List Nat), (∀ k, l[k]? = ops[acc.length + k]?) →
    (∀ i j, ((acc.getD i 0).testBit j = true) → S i = true → S j = true) → ∀ i j, (((befGo l acc).getD i 0).testBit j = true) → S i = true → S j = true := by
  intro l
  induction l with
  | nil => intro acc _ h; exact h
  | cons o r ih =>
    intro acc hl h
    simp only [befGo]
    refine ih _ (fun k => ?_) (fun i j hb hi => ?_)
    · have := hl (k + 1)
      simp only [List.getElem?_cons_succ] at this
      rw [this]
      simp only [List.length_append, List.length_singleton]
      congr 1; omega
    · by_cases hlt : i < acc.length
      · rw [List.getD_eq_getElem?_getD, List.getElem?_append_left hlt, ← List.getD_eq_getElem?_getD] at hb
        exact h i j hb hi
      · by_cases he : i = acc.length
        · subst he
          rw [List.getD_eq_getElem?_getD, List.getElem?_append_right (Nat.le_refl _)] at hb
          simp at hb
          have ho : ops[acc.length]? = some o := by have := hl 0; simpa using this.symm
          obtain ⟨e, h1, h2, h3⟩ := maskOf_bit _ hb
          have hon := hS _ o ho hi e (by simpa using h1) h2
          rcases h3 with h3 | h3
          · rw [← h3]; exact hon
          · exact h _ _ h3 hon
        · rw [List.getD_eq_getElem?_getD, List.getElem?_eq_none (by simp; omega)] at hb
          simp at hb

theorem bef_sound {ops : Array Oper} {S : Nat → Bool} (hS : Closed ops S) {i j : Nat} (hb : ((bef ops).getD i 0).testBit j = true) (hi : S i = true) : S j = true :=
  befGo_sound hS ops.toList [] (fun k => by simp) (fun i j h => by simp at h) i j hb hi

/-- every two operations that touch one slot are ordered; edges lead back; no select -/
def orderOk (ops : Array Oper) (bs : List Nat) : Bool :=
  (List.range ops.size).all fun j => match ops[j]? with
    | some oj => (oj.after.toList.all fun e => !(Region.binds .any e) || Nat.blt e.on j) && (match oj.op with | .select .. => false | _ => true) &&
        (List.range j).all fun i => match ops[i]? with
          | some oi => oi.apart ops oj || (bs.getD j 0).testBit i
          | none => true
    | none => true

theorem orderOk_pair {ops : Array Oper} {bs : List Nat} (h : orderOk ops bs = true) {i j : Nat} {oi oj : Oper} (hij : i < j) (hi : ops[i]? = some oi) (hj : ops[j]? = some oj) : oi.apart ops oj = true ∨ (bs.getD j 0).testBit i = true := by
  unfold orderOk at h
  rw [List.all_eq_true] at h
  have h1 := h j (List.mem_range.2 (alt_of_getElem? hj))
  simp only [hj, Bool.and_eq_true] at h1
  have h2 := h1.2
  rw [List.all_eq_true] at h2
  have h3 := h2 i (List.mem_range.2 hij)
  simp only [hi, Bool.or_eq_true] at h3
  exact h3
theorem orderOk_back {ops : Array Oper} {bs : List Nat} (h : orderOk ops bs = true) {j : Nat} {oj : Oper} (hj : ops[j]? = some oj) {e : Edge} (he : e ∈ oj.after) (hb : Region.binds .any e = true) : e.on < j := by
  unfold orderOk at h
  rw [List.all_eq_true] at h
  have h1 := h j (List.mem_range.2 (alt_of_getElem? hj))
  simp only [hj, Bool.and_eq_true] at h1
  have h2 := h1.1.1
  rw [List.all_eq_true] at h2
  have h3 := h2 e (by simpa using he)
  simp only [hb, Bool.not_true, Bool.false_or] at h3
  exact Nat.le_of_ble_eq_true h3
theorem orderOk_select {ops : Array Oper} {bs : List Nat} (h : orderOk ops bs = true) {j : Nat} {oj : Oper} (hj : ops[j]? = some oj) (cs : Array SelectCase) (b : Bool) : oj.op ≠ .select cs b := by
  unfold orderOk at h
  rw [List.all_eq_true] at h
  have h1 := h j (List.mem_range.2 (alt_of_getElem? hj))
  simp only [hj, Bool.and_eq_true] at h1
  intro e
  have := h1.1.2
  rw [e] at this
  cases this

/-! ### the slots after some of the operations -/
def svAt (f0 : Fr) (ops : Array Oper) (V : Nat → Value) (S : Nat → Bool) : Nat → Tmp → Value
  | 0, d => sval f0 d
  | k + 1, d => if S k = true ∧ (ops[k]?).bind (·.dst) = some d then V k else svAt f0 ops V S k d

theorem svAt_low {f0 : Fr} {ops : Array Oper} {V : Nat → Value} {S S' : Nat → Bool} {d : Tmp} : ∀ n, (∀ k, k < n → (ops[k]?).bind (·.dst) = some d → S k = S' k) → svAt f0 ops V S n d = svAt f0 ops V S' n d := by
  intro n
  induction n with
  | zero => intro _; rfl
  | succ n ih =>
    intro h
    simp only [svAt]
    rw [ih fun k hk => h k (by omega)]
    by_cases hd : (ops[n]?).bind (·.dst) = some d
    · rw [h n (by omega) hd]
    · simp [hd]

theorem svAt_skip {f0 : Fr} {ops : Array Oper} {V : Nat → Value} {S : Nat → Bool} {d : Tmp} {i : Nat} : ∀ n, i ≤ n → (∀ k, i ≤ k → k < n → (ops[k]?).bind (·.dst) = some d → S k = false) → svAt f0 ops V S n d = svAt f0 ops V S i d := by
  intro n
  induction n with
  | zero => intro hi _; rw [show i = 0 by omega]
  | succ n ih =>
    intro hi h
    by_cases he : i = n + 1
    · rw [he]
    · simp only [svAt]
      rw [if_neg (fun ⟨h1, h2⟩ => by rw [h n (by omega) (by omega) h2] at h1; cases h1)]
      exact ih (by omega) fun k hk hk' => h k hk (by omega)

structure Trace0 (ops : Array Oper) (F : Nat → Fr) (V : Nat → Value) : Prop where
  order : orderOk ops (bef ops) = true
  put : ∀ (i : Nat) o, ops[i]? = some o → (F i).put o.dst (V i) = some (F (i + 1))
structure Trace {P : Program} (E : Env P) (ops : Array Oper) (F : Nat → Fr) (HH : Nat → AH) (V : Nat → Value) (M : Nat → Bool) : Prop extends Trace0 ops F V where
  step : ∀ (i : Nat) o, ops[i]? = some o →
    (awanted ops (sval (F i)) o = false ∧ V i = undef ∧ M i = false) ∨
    (awanted ops (sval (F i)) o = true ∧ M i = false ∧ ∀ t, t ≤ ops.size → (∀ j, j < ops.size → M j = true → ((bef ops).getD i 0).testBit j = true → j < t) →
      (∀ j, j < ops.size → M j = true → ((bef ops).getD j 0).testBit i = true → t ≤ j) → aop E (aval (F i)) o.op (HH t) = some (V i, HH t)) ∨
    (awanted ops (sval (F i)) o = true ∧ M i = true ∧ aop E (aval (F i)) o.op (HH i) = some (V i, HH (i + 1))) ∨
    (awanted ops (sval (F i)) o = true ∧ M i = true ∧ ∃ g args, acallee E (aval (F i)) o.op = some (g, args) ∧ ACalls P g args (HH i) fun v H' => v = V i ∧ H' = HH (i + 1))
  still : ∀ i, i < ops.size → M i = false → HH (i + 1) = HH i
  mains : ∀ i j, i < j → j < ops.size → M i = true → M j = true → ((bef ops).getD j 0).testBit i = true

section
variable {P : Program} {E : Env P} {ops : Array Oper} {F : Nat → Fr} {HH : Nat → AH} {V : Nat → Value} {M : Nat → Bool}

theorem Trace0.slots (T : Trace0 ops F V) (d : Tmp) : ∀ k, k ≤ ops.size → sval (F k) d = svAt (F 0) ops V (fun _ => true) k d := by
  intro k
  induction k with
  | zero => intro _; rfl
  | succ k ih =>
    intro hk
    have hlt : k < ops.size := by omega
    have ho : ops[k]? = some ops[k] := Array.getElem?_eq_getElem hlt
    have hp := T.put k _ ho
    simp only [svAt, ho, Option.bind_some]
    unfold Fr.put at hp
    cases hd : ops[k].dst with
    | none =>
      rw [hd] at hp
      simp only [Option.some.injEq] at hp
      rw [← hp]
      simpa using ih (by omega)
    | some d' =>
      rw [hd] at hp
      simp only at hp
      rcases cond_some hp with hp | hp
      · simp only [Option.some.injEq] at hp
        rw [← hp]
        simp only [sval, aval, Tr.get_set]
        by_cases e : d = d'
        · subst e; simp
        · rw [if_neg e, if_neg (fun h => e (by simpa using h.2.symm))]
          exact ih (by omega)
      · cases hp

theorem Trace0.size (T : Trace0 ops F V) : ∀ k, k ≤ ops.size → (F k).n = (F 0).n := by
  intro k
  induction k with
  | zero => intro _; rfl
  | succ k ih =>
    intro hk
    have ho : ops[k]? = some ops[k] := Array.getElem?_eq_getElem (by omega)
    have hp := T.put k _ ho
    unfold Fr.put at hp
    split at hp
    · simp only [Option.some.injEq] at hp; rw [← hp]; exact ih (by omega)
    · rcases cond_some hp with hp | hp
      · simp only [Option.some.injEq] at hp; rw [← hp]; exact ih (by omega)
      · cases hp

theorem Trace0.dst_lt (T : Trace0 ops F V) {i : Nat} {o : Oper} (ho : ops[i]? = some o) {d : Tmp} (hd : o.dst = some d) : d < (F 0).n := by
  have hp := T.put i o ho
  rw [hd] at hp
  unfold Fr.put at hp
  simp only at hp
  have hi := alt_of_getElem? ho
  cases hle : Nat.ble (d + 1) (F i).n with
  | false => rw [hle] at hp; cases hp
  | true => have := Nat.le_of_ble_eq_true hle; rw [T.size i (by omega)] at this; exact this

/-- the operations of S have run -/
def Inv [Pins] (ops : Array Oper) (F : Nat → Fr) (HH : Nat → AH) (V : Nat → Value) (M : Nat → Bool) (φ : List Place) (listed : Array Bool) (a : Act) (w : World) : Prop :=
  listed.size = ops.size ∧ Closed ops (fun i => listed.getD i false) ∧ ∃ φ', φ <+: φ' ∧ VRel φ' (F 0).n (svAt (F 0) ops V (fun i => listed.getD i false) ops.size) a ∧
    ∃ t, t ≤ ops.size ∧ (∀ j, j < ops.size → M j = true → (listed.getD j false = true ↔ j < t)) ∧ Rel φ' (HH t) w

theorem trace_w0 (hw : ∀ i, i < ops.size → (HH (i + 1)).w0 = (HH i).w0) : ∀ t, t ≤ ops.size → (HH t).w0 = (HH 0).w0 := by
  intro t
  induction t with
  | zero => intro _; rfl
  | succ t ih => intro h; rw [hw t (by omega), ih (by omega)]

theorem getD_listed {listed : Array Bool} {i j : Nat} (hi : i < listed.size) : (listed.setIfInBounds i true).getD j false = if j = i then true else listed.getD j false := by
  simp only [Array.getD_eq_getD_getElem?, Array.getElem?_setIfInBounds]
  by_cases e : i = j
  · subst e; simp [hi]
  · rw [if_neg e, if_neg (fun h => e h.symm)]

theorem VRel.put {φ : List Place} {n : Nat} {sv : Tmp → Value} {a : Act} (h : VRel φ n sv a) {dst : Option Tmp} {v v' : Value} (hv : VR φ v v') (hlt : ∀ d, dst = some d → d < n) :
    VRel φ n (fun t => if dst = some t then v else sv t) (a.put dst v') := by
  obtain ⟨h1, h2, h3⟩ := h
  cases dst with
  | none => exact ⟨h1, h2, fun t => by simpa [Act.put] using h3 t⟩
  | some d =>
    refine ⟨h1, by simp [Act.put, h2], fun t => ?_⟩
    have hd := hlt d rfl
    simp only [Act.put]
    by_cases e : d = t
    · subst e
      simp only [if_true]
      have : (a.tmps.setIfInBounds d v').getD d undef = v' := by simp [Array.getD_eq_getD_getElem?, h2, hd]
      rw [this]; exact hv
    · have : (a.tmps.setIfInBounds d v').getD t undef = a.tmps.getD t undef := by simp [Array.getD_eq_getD_getElem?, e]
      rw [this]
      simp only [Option.some.injEq, e, if_false]
      exact h3 t

theorem VRel.mono {φ φ' : List Place} (h : φ <+: φ') {n : Nat} {sv : Tmp → Value} {a : Act} (r : VRel φ n sv a) : VRel φ' n sv a := ⟨r.1, r.2.1, fun t => (r.2.2 t).mono h⟩


/-- while an operation waits, what it looks at is what it would see in the text's order -/
theorem Trace0.sees (T : Trace0 ops F V) {S : Nat → Bool} (hS : Closed ops S) {i : Nat} (hS' : Closed ops (fun j => if j = i then true else S j)) {o : Oper} (ho : ops[i]? = some o) (hi : S i = false) {d : Tmp} (hd : d ∈ o.looksAt ops) : svAt (F 0) ops V S ops.size d = sval (F i) d := by
  have hlt := alt_of_getElem? ho
  rw [svAt_skip (i := i) ops.size (by omega) ?_, T.slots d i (by omega)]
  · refine svAt_low i fun k hk hdk => ?_
    have hkk : ops[k]? = some ops[k] := Array.getElem?_eq_getElem (by omega)
    rw [hkk] at hdk
    simp only [Option.bind_some] at hdk
    rcases orderOk_pair T.order hk hkk ho with hap | hb
    · exact absurd hd ((Oper.apart_spec hap).1 d hdk)
    · have := bef_sound hS' hb (by simp)
      rw [if_neg (by omega)] at this
      rw [this]
  · intro k hk hkn hdk
    have hkk : ops[k]? = some ops[k] := Array.getElem?_eq_getElem hkn
    rw [hkk] at hdk
    simp only [Option.bind_some] at hdk
    by_cases e : k = i
    · subst e; exact hi
    · cases hSk : S k with
      | false => rfl
      | true =>
        rcases orderOk_pair T.order (show i < k by omega) ho hkk with hap | hb
        · exact absurd hd ((Oper.apart_spec hap).2.2 d hdk)
        · rw [bef_sound hS hb hSk] at hi; cases hi

theorem Trace0.sees_dst (T : Trace0 ops F V) {S : Nat → Bool} (hS : Closed ops S) {i : Nat} {o : Oper} (ho : ops[i]? = some o) (hi : S i = false) (d : Tmp) :
    svAt (F 0) ops V (fun j => if j = i then true else S j) ops.size d = if o.dst = some d then V i else svAt (F 0) ops V S ops.size d := by
  have hlt := alt_of_getElem? ho
  by_cases hd : o.dst = some d
  · rw [if_pos hd, svAt_skip (i := i + 1) ops.size (by omega) ?_]
    · simp [svAt, ho, hd]
    · intro k hk hkn hdk
      have hkk : ops[k]? = some ops[k] := Array.getElem?_eq_getElem hkn
      rw [hkk] at hdk
      simp only [Option.bind_some] at hdk
      rw [if_neg (by omega)]
      cases hSk : S k with
      | false => rfl
      | true =>
        rcases orderOk_pair T.order (show i < k by omega) ho hkk with hap | hb
        · exact absurd hdk ((Oper.apart_spec hap).2.1 d hd)
        · rw [bef_sound hS hb hSk] at hi; cases hi
  · rw [if_neg hd]
    refine svAt_low ops.size fun k hk hdk => ?_
    by_cases e : k = i
    · subst e; rw [ho] at hdk; simp at hdk; exact absurd hdk hd
    · rw [if_neg e]

theorem closed_add {listed : Array Bool} (hS : Closed ops (fun i => listed.getD i false)) {i : Nat} (hr : i ∈ Region.ready .any ops listed) : Closed ops (fun j => if j = i then true else listed.getD j false) := by
  intro k o ho hk e he hb
  show (if e.on = i then true else listed.getD e.on false) = true
  by_cases hei : e.on = i
  · rw [if_pos hei]
  · rw [if_neg hei]
    simp only at hk
    by_cases hki : k = i
    · subst hki
      have hr' := hr
      unfold Region.ready at hr'
      rw [List.mem_filter] at hr'
      obtain ⟨_, h2⟩ := hr'
      simp only [Bool.and_eq_true, ho, Option.map_some, Option.getD_some] at h2
      have h3 := h2.2
      rw [Array.all_eq_true'] at h3
      have h4 := h3 e he
      simpa [hb] using h4
    · rw [if_neg hki] at hk
      exact hS k o ho hk e he hb

theorem Trace.any [Pins] (T : Trace E ops F HH V M) (hw0 : ∀ i, i < ops.size → (HH (i + 1)).w0 = (HH i).w0) {Q : AQ} (hQ : Q .normal (F ops.size) (HH ops.size)) (φ : List Place) :
    ∀ (fuel : Nat) (listed : Array Bool) (a : Act) (w : World), Inv ops F HH V M φ listed a w → listed.toList.countP id + fuel = ops.size → wpAny P .any ops (conc φ (HH 0).w0 Q) fuel listed a w := by
  have fin : ∀ (listed : Array Bool) (a : Act) (w : World), Inv ops F HH V M φ listed a w → (∀ i, i < ops.size → listed.getD i false = true) → conc φ (HH 0).w0 Q .normal a w := by
    intro listed a w ⟨hsz, hS, φ', hφ, hV, t, ht, htm, hR⟩ hall
    have hlast : ∀ k, t ≤ k → k ≤ ops.size → HH k = HH t := by
      intro k
      induction k with
      | zero => intro h _; rw [show t = 0 by omega]
      | succ k ih =>
        intro h1 h2
        by_cases e : t = k + 1
        · rw [e]
        · have hM : M k = false := by
            cases hk : M k with
            | false => rfl
            | true => have := (htm k (by omega) hk).1 (hall k (by omega)); omega
          rw [T.still k (by omega) hM]
          exact ih (by omega) (by omega)
    refine ⟨φ', F ops.size, HH ops.size, hφ, ⟨hV.1, by rw [hV.2.1, T.size _ (Nat.le_refl _)], fun d => ?_⟩, by rw [hlast _ ht (Nat.le_refl _)]; exact hR, trace_w0 hw0 _ (Nat.le_refl _), hQ⟩
    have := hV.2.2 d
    rw [svAt_low (S' := fun _ => true) ops.size (fun k hk _ => by simp [hall k hk]), ← T.slots d _ (Nat.le_refl _)] at this
    exact this
  intro fuel
  induction fuel with
  | zero =>
    intro listed a w hI hc
    have hall : ∀ i, i < ops.size → listed.getD i false = true := by
      have hsz := hI.1
      have : listed.toList.countP id = listed.toList.length := by rw [Array.length_toList, hsz]; omega
      rw [List.countP_eq_length] at this
      intro i hi
      have hm : listed[i]'(by omega) ∈ listed.toList := by simp
      have := this _ hm
      simp only [id] at this
      simp [Array.getD_eq_getD_getElem?, hsz, hi, this]
    refine ⟨?_, fin listed a w hI hall⟩
    rw [List.eq_nil_iff_forall_not_mem]
    intro i hi
    unfold Region.ready at hi
    rw [List.mem_filter] at hi
    obtain ⟨h1, h2⟩ := hi
    have hlt := List.mem_range.1 h1
    simp only [Bool.and_eq_true] at h2
    have h3 := hall i hlt
    have h4 := h2.1
    have hsz := hI.1
    simp [Array.getD_eq_getD_getElem?, hsz, hlt] at h3 h4
    rw [h3] at h4; cases h4
  | succ fuel ih =>
    intro listed a w hI hc
    refine ⟨fun hr => fin listed a w hI ?_, fun i hi => ?_⟩
    · -- nothing is ready: all has run
      intro i
      induction i using Nat.strongRecOn with
      | _ i ihi =>
        intro hlt
        cases hl : listed.getD i false with
        | true => rfl
        | false =>
          exfalso
          have hmem : i ∈ Region.ready .any ops listed := by
            unfold Region.ready
            rw [List.mem_filter]
            refine ⟨List.mem_range.2 hlt, ?_⟩
            have ho : ops[i]? = some ops[i] := Array.getElem?_eq_getElem hlt
            simp only [Bool.and_eq_true, ho, Option.map_some, Option.getD_some]
            refine ⟨?_, ?_⟩
            · have hsz := hI.1
              simp [Array.getD_eq_getD_getElem?, hsz, hlt] at hl ⊢
              exact hl
            · rw [Array.all_eq_true']
              intro e he
              cases hb : Region.binds .any e with
              | false => rfl
              | true =>
                have hlt' := orderOk_back T.order ho he hb
                simp [ihi e.on hlt' (by omega)]
          rw [hr] at hmem
          cases hmem
    · -- one operation
      obtain ⟨hsz, hS, φ', hφ, hV, t, ht, htm, hR⟩ := hI
      have hi' := hi
      unfold Region.ready at hi'
      rw [List.mem_filter] at hi'
      have hlt := List.mem_range.1 hi'.1
      have hunl : listed.getD i false = false := by
        have h4 := hi'.2
        simp only [Bool.and_eq_true] at h4
        have h4 := h4.1
        simp [Array.getD_eq_getD_getElem?, hsz, hlt] at h4 ⊢
        exact h4
      have ho : ops[i]? = some ops[i] := Array.getElem?_eq_getElem hlt
      generalize ops[i] = o at ho
      have hS' := closed_add hS hi
      have hcount : (listed.setIfInBounds i true).toList.countP id + fuel = ops.size := by
        rw [Array.toList_setIfInBounds, List.countP_set (by simp; omega)]
        have hget : (listed.toList[i]'(by simp; omega)) = false := by
          simp [Array.getD_eq_getD_getElem?, hsz, hlt] at hunl
          simpa using hunl
        rw [hget]
        simp only [id, Bool.false_eq_true, if_false, if_true]
        omega
      have hsee : ∀ d ∈ o.looksAt ops, VR φ' (sval (F i) d) (a.tmps.getD d undef) := by
        intro d hd
        rw [← T.sees hS hS' ho hunl hd]
        exact hV.2.2 d
      have hwant := awanted_ok (φ := φ') (sv := sval (F i)) ops o hsee
      -- the invariant, behind the operation
      have next : ∀ (φ2 : List Place) (v' : Value) (w' : World) (t2 : Nat), φ' <+: φ2 → VR φ2 (V i) v' → t2 ≤ ops.size → (∀ j, j < ops.size → M j = true → ((if j = i then true else listed.getD j false) = true ↔ j < t2)) → Rel φ2 (HH t2) w' →
          wpAny P .any ops (conc φ (HH 0).w0 Q) fuel (listed.setIfInBounds i true) (a.put o.dst v') w' := by
        intro φ2 v' w' t2 h1 h2 h3 h4 h5
        have hgd : (fun j => (listed.setIfInBounds i true).getD j false) = fun j => if j = i then true else listed.getD j false := funext fun j => getD_listed (by omega)
        refine ih _ _ _ ⟨by simp [hsz], by rw [hgd]; exact hS', φ2, hφ.trans h1, ?_, t2, h3, fun j hj hM => ?_, h5⟩ hcount
        · rw [hgd]
          have := (hV.mono h1).put (dst := o.dst) h2 (fun d hd => T.dst_lt ho hd)
          have heq : svAt (F 0) ops V (fun j => if j = i then true else listed.getD j false) ops.size = fun d => if o.dst = some d then V i else svAt (F 0) ops V (fun i => listed.getD i false) ops.size d := funext fun d => T.sees_dst hS ho hunl d
          rw [heq]; exact this
        · rw [show (listed.setIfInBounds i true).getD j false = if j = i then true else listed.getD j false from congrFun hgd j]
          exact h4 j hj hM
      unfold wpOp
      rw [ho]
      simp only
      rw [hwant]
      have hρ : ∃ ρ2 : Operand → Value, (∀ x, VR φ' (ρ2 x) (a.eval x)) ∧ ∀ x ∈ o.op.operands, ρ2 x = aval (F i) x := by
        open Classical in
        refine ⟨fun x => if x ∈ o.op.operands then aval (F i) x else ext (a.eval x), fun x => ?_, fun x hx => by simp [hx]⟩
        by_cases hx : x ∈ o.op.operands
        · simp only [hx, if_true]
          cases x with
          | tmp d => exact hsee d (by simp only [Oper.looksAt, List.mem_append, List.mem_filterMap]; exact .inl ⟨.tmp d, by simpa using hx, rfl⟩)
          | const v => exact VR.ext φ' v
          | global g => exact .ptr (.inl ⟨by simp, by simp, rfl, rfl⟩)
          | func g => exact .func _ rfl rfl (fun i v v' h => by simp at h) (fun i v v' h => by simp at h)
        · simp only [hx, if_false]
          exact VR.ext φ' _
      obtain ⟨ρ2, hρ2, hρe⟩ := hρ
      have hwp : ∀ (v : Value) (H2 : AH) (t2 : Nat) (Hx : AH), Rel φ' Hx w → aop E (aval (F i)) o.op Hx = some (v, H2) → v = V i → H2 = HH t2 → t2 ≤ ops.size →
          (∀ j, j < ops.size → M j = true → ((if j = i then true else listed.getD j false) = true ↔ j < t2)) → o.wp P a w (wpAny P .any ops (conc φ (HH 0).w0 Q) fuel (listed.setIfInBounds i true)) (conc φ (HH 0).w0 Q) := by
        intro v H2 t2 Hx hRx hop hv hH2 h3 h4
        rw [← aop_congr E o.op Hx hρe] at hop
        obtain ⟨φ2, v', w', q1, q2, q3, q4⟩ := aop_ok E hRx hρ2 hop
        subst hv
        subst hH2
        unfold Oper.wp
        rcases q4 with q4 | ⟨q4, rfl⟩
        · rw [q4]; exact next φ2 v' w' t2 q1 q3 h3 h4 q2
        · rw [q4]; exact next φ2 undef w' t2 q1 q3 h3 h4 q2
      have heq : ∀ t', t' ≤ ops.size → (∀ j, j < ops.size → M j = true → (j < t ↔ j < t')) → HH t' = HH t := by
        have up : ∀ x y, x ≤ y → y ≤ ops.size → (∀ j, j < ops.size → M j = true → ¬ (x ≤ j ∧ j < y)) → HH y = HH x := by
          intro x y
          induction y with
          | zero => intro h _ _; rw [show x = 0 by omega]
          | succ y ihy =>
            intro h1 h2 h3
            by_cases e : x = y + 1
            · rw [e]
            · have hM : M y = false := by
                cases hk : M y with
                | false => rfl
                | true => exact absurd ⟨by omega, by omega⟩ (h3 y (by omega) hk)
              rw [T.still y (by omega) hM]
              exact ihy (by omega) (by omega) fun j hj hM hh => h3 j hj hM ⟨hh.1, by omega⟩
        intro t' ht' h
        rcases Nat.le_total t t' with hle | hle
        · exact up t t' hle ht' fun j hj hM hh => by have := (h j hj hM).2 hh.2; omega
        · exact (up t' t hle ht fun j hj hM hh => by have := (h j hj hM).1 hh.2; omega).symm
      have hbefore : ∀ j, j < ops.size → M j = true → j ≠ i → ((bef ops).getD i 0).testBit j = true → j < t := by
        intro j hj hM hne hb
        have := bef_sound hS' hb (by simp)
        rw [if_neg hne] at this
        exact (htm j hj hM).1 this
      have hafter : ∀ j, j < ops.size → M j = true → ((bef ops).getD j 0).testBit i = true → t ≤ j := by
        intro j hj hM hb
        rcases Nat.lt_or_ge j t with h | h
        · have := bef_sound hS hb ((htm j hj hM).2 h)
          rw [this] at hunl; cases hunl
        · exact h
      have hmain : M i = true → HH i = HH t ∧ (∀ j, j < ops.size → M j = true → ((if j = i then true else listed.getD j false) = true ↔ j < i + 1)) := by
        intro hMi
        have hiff : ∀ j, j < ops.size → M j = true → j ≠ i → (j < t ↔ j < i) := by
          intro j hj hM hne
          constructor
          · intro h
            rcases Nat.lt_or_ge j i with h' | h'
            · exact h'
            · have := hafter j hj hM (T.mains i j (by omega) hj hMi hM); omega
          · intro h
            exact hbefore j hj hM hne (T.mains j i h hlt hM hMi)
        have hti : ¬ i < t := fun h => by rw [(htm i hlt hMi).2 h] at hunl; cases hunl
        refine ⟨heq i (by omega) fun j hj hM => ?_, fun j hj hM => ?_⟩
        · by_cases e : j = i
          · subst e; omega
          · exact hiff j hj hM e
        · by_cases e : j = i
          · subst e; simp
          · rw [if_neg e]
            have h1 := htm j hj hM
            have h2 := hiff j hj hM e
            constructor
            · intro h; have := h2.1 (h1.1 h); omega
            · intro h; exact h1.2 (h2.2 (by omega))
      have hquiet : M i = false → ∀ j, j < ops.size → M j = true → ((if j = i then true else listed.getD j false) = true ↔ j < t) := by
        intro hMi j hj hM
        by_cases e : j = i
        · subst e; rw [hMi] at hM; cases hM
        · rw [if_neg e]; exact htm j hj hM
      rcases T.step i o ho with ⟨h1, h2, h3⟩ | ⟨h1, h2, h3⟩ | ⟨h1, h2, h3⟩ | ⟨h1, h2, g, args, h3, h4⟩
      · rw [h1]
        simp only [Bool.false_eq_true, if_false]
        exact next φ' undef w t (List.prefix_refl _) (by rw [h2]; exact VR.undef φ') ht (hquiet h3) hR
      · rw [h1, if_pos rfl]
        left
        refine hwp _ _ t (HH t) hR (h3 t ht (fun j hj hM hb => hbefore j hj hM (fun e => by subst e; rw [h2] at hM; cases hM) hb) hafter) rfl rfl ht (hquiet h2)
      · rw [h1, if_pos rfl]
        left
        obtain ⟨m1, m2⟩ := hmain h2
        exact hwp _ _ (i + 1) (HH i) (by rw [m1]; exact hR) h3 rfl rfl (by omega) m2
      · rw [h1, if_pos rfl]
        left
        obtain ⟨m1, m2⟩ := hmain h2
        rw [← acallee_congr E o.op hρe] at h3
        obtain ⟨args', q1, q2⟩ := acallee_ok E hρ2 h3 w
        unfold Oper.wp
        rw [q2]
        refine (h4 _ φ' args' w q1 (by rw [m1]; exact hR)).mono ?_
        rintro e w' ⟨φ2, v, v', H', r1, rfl, r2, r3, r4, rfl, rfl⟩
        exact next φ2 v' w' (i + 1) r1 r2 (by omega) m2 r3

/-- A REGION IN WHATEVER ORDER: as in the text's order. -/
theorem Trace.region (T : Trace E ops F HH V M) (hm : P.follows .mixedOrders = true) (hw0 : ∀ i, i < ops.size → (HH (i + 1)).w0 = (HH i).w0) {Q : AQ} (hQ : Q .normal (F ops.size) (HH ops.size)) (id : Nat) :
    ACode P (.region id ops true) Q (F 0) (HH 0) := by
  intro π φ a w hf hR
  refine wp_region_any hm ?_
  refine T.any hw0 hQ φ ops.size (Array.replicate ops.size false) a _ ⟨by simp, ?_, φ, List.prefix_refl _, ?_, 0, Nat.zero_le _, fun j hj hM => ?_, hR.drew⟩ ?_
  · intro i o ho hi
    simp [Array.getD_eq_getD_getElem?, Array.getElem?_replicate] at hi
    split at hi <;> simp at hi
  · refine ⟨hf.1, hf.2.1, fun d => ?_⟩
    have hS : svAt (F 0) ops V (fun i => (Array.replicate ops.size false).getD i false) ops.size d = sval (F 0) d := by
      rw [svAt_skip (i := 0) ops.size (Nat.zero_le _)]
      · rfl
      · intro k _ hk _
        simp [Array.getD_eq_getD_getElem?, hk]
    rw [hS]
    exact hf.2.2 d
  · simp [Array.getD_eq_getD_getElem?, hj]
  · simp [Array.toList_replicate]
end
end Go.AM
