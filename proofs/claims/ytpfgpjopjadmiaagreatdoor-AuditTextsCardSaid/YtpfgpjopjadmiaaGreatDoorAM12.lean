/-
  The abstract machine, part 12: code, calls, a run.
-/
import Derived.Test.YtpfgpjopjadmiaaGreatDoorAM11
import Derived.LoopN
set_option linter.unusedVariables false
set_option linter.unusedSimpArgs false
noncomputable section
namespace Go.AM
open Go.RowKit

section
variable {P : Program} {Q : AQ} {f : Fr} {H : AH}

theorem conc_then [Pins] {φ : List Place} {w0 : World} {y : Code} {Q : AQ} {e : Exit} {a : Act} {w : World} {R : AQ}
    (hn : ∀ f H, R .normal f H → ACode P y Q f H) (ho : ∀ e f H, e ≠ .normal → R e f H → Q e f H) (h : conc φ w0 R e a w) : Exit.then (y.wp P (conc φ w0 Q)) (conc φ w0 Q) e a w := by
  obtain ⟨φ', f, H, h1, h2, h3, h4, h5⟩ := h
  cases e with
  | normal =>
    refine wp_mono (hn f H h5 _ φ' a w h2 h3) fun e a w k => ?_
    rw [h4] at k
    exact conc_mono h1 k
  | _ => exact ⟨φ', f, H, h1, h2, h3, h4, ho _ f H (by simp) h5⟩

theorem ACode.mono {c : Code} {Q' : AQ} (h : ACode P c Q f H) (hq : ∀ e f H, Q e f H → Q' e f H) : ACode P c Q' f H :=
  fun π φ a w hf hR => wp_mono (h _ φ a w hf hR) fun _ _ _ ⟨φ', f, H, h1, h2, h3, h4, h5⟩ => ⟨φ', f, H, h1, h2, h3, h4, hq _ _ _ h5⟩

theorem ACode.here {c : Code} {e : Exit} (hw : ∀ {R : Exit → Act → World → Prop} {a : Act} {w : World}, R e a w → c.wp P R a w) (h : Q e f H) : ACode P c Q f H :=
  fun π φ _ _ hf hR => hw ⟨φ, f, H, List.prefix_refl _, hf, hR, rfl, h⟩
theorem ACode.skip (h : Q .normal f H) : ACode P .skip Q f H := ACode.here (fun k => wp_skip k) h
theorem ACode.label {l : Nat} (h : Q .normal f H) : ACode P (.label l) Q f H := ACode.here (fun k => wp_label k) h
theorem ACode.exit {i : Nat} (h : Q (.exit i) f H) : ACode P (.exit i) Q f H := ACode.here (fun k => wp_exit k) h
theorem ACode.ret (h : Q .ret f H) : ACode P .ret Q f H := ACode.here (fun k => wp_ret k) h

theorem ACode.seq {x y : Code} {R : AQ} (h : ACode P x R f H) (hn : ∀ f H, R .normal f H → ACode P y Q f H) (ho : ∀ e f H, e ≠ .normal → R e f H → Q e f H) : ACode P (.seq x y) Q f H :=
  fun π φ a w hf hR => wp_seq (wp_mono (h _ φ a w hf hR) fun _ _ _ k => conc_then hn ho k)

theorem ACode.cond {c : Operand} {x y : Code} {b : Bool} (hc : aval f c = .bool b) (h : ACode P (if b then x else y) Q f H) : ACode P (.cond c x y) Q f H := by
  intro π φ a w hf hR
  have hv := hf.eval c
  rw [hc] at hv
  generalize hcc : a.eval c = cc at hv
  cases hv
  exact wp_cond hcc (h _ φ a w hf hR)

theorem ACode.block {i : Nat} {c : Code} (h : ACode P c (fun e f H => match e with | .exit j => if j = i then Q .normal f H else Q (.exit j) f H | e => Q e f H) f H) : ACode P (.block i c) Q f H := by
  intro π φ a w hf hR
  refine wp_block (wp_mono (h _ φ a w hf hR) ?_)
  rintro e a w ⟨φ', f, H, h1, h2, h3, h4, h5⟩
  cases e with
  | exit j =>
    simp only [Exit.inBlock]
    simp only at h5
    split
    · rename_i e; rw [if_pos e] at h5; exact ⟨φ', f, H, h1, h2, h3, h4, h5⟩
    · rename_i e; rw [if_neg e] at h5; exact ⟨φ', f, H, h1, h2, h3, h4, h5⟩
  | _ => exact ⟨φ', f, H, h1, h2, h3, h4, h5⟩

theorem ACode.region {i : Nat} {ops : Array Oper} (h : AOps P ops (List.range ops.size) Q f H) : ACode P (.region i ops false) Q f H := fun π φ a w hf hR => wp_region (h _ φ a w hf hR)

/-- a loop: what holds at every round's head, and a measure -/
theorem ACode.loop {c : Code} (I : Fr → AH → Prop) (μ : Fr → AH → Nat) (h0 : I f H) (round : ∀ f H, I f H → ACode P c (fun e f' H' => match e with | .normal => I f' H' ∧ μ f' H' < μ f H | e => Q e f' H') f H) : ACode P (.loop c) Q f H := by
  intro π φ a w hf hR b k cs
  have key : ∀ n f H φ' a w, μ f H = n → I f H → H.w0 = H.w0 → φ <+: φ' → FRel φ' f a → Rel φ' H w → ∀ w0, H.w0 = w0 →
      ∃ e a' w', conc φ w0 Q e a' w' ∧ Arrives P (lone (b.at a (.code c :: .inLoop c :: k)) cs w) b k cs e a' w' := by
    intro n
    induction n using Nat.strongRecOn with
    | _ n ih =>
      intro f H φ' a w hn hI _ hφ hf hR w0 hw0
      obtain ⟨e, a₁, w₁, hq, harr⟩ := round f H hI _ φ' a w hf hR b (.inLoop c :: k) cs
      obtain ⟨φ2, f2, H2, q1, q2, q3, q4, q5⟩ := hq
      have hw2 : H2.w0 = w0 := q4.trans hw0
      cases e with
      | normal =>
        obtain ⟨hI₁, hlt⟩ := q5
        obtain ⟨e₂, a₂, w₂, hq₂, harr₂⟩ := ih (μ f2 H2) (hn ▸ hlt) f2 H2 φ2 a₁ w₁ rfl hI₁ rfl (hφ.trans q1) q2 q3 w0 hw2
        exact ⟨e₂, a₂, w₂, hq₂, .of_steps (Steps.trans harr (.one step_inLoop)) harr₂⟩
      | exit id => exact ⟨_, a₁, w₁, ⟨φ2, f2, H2, hφ.trans q1, q2, q3, hw2, q5⟩, .pass (x := .inLoop c) rfl (fun _ _ => .inl (by simp)) harr⟩
      | goto l => exact ⟨_, a₁, w₁, ⟨φ2, f2, H2, hφ.trans q1, q2, q3, hw2, q5⟩, .pass (x := .inLoop c) rfl (fun _ _ => .inl (by simp)) harr⟩
      | ret => exact ⟨_, a₁, w₁, ⟨φ2, f2, H2, hφ.trans q1, q2, q3, hw2, q5⟩, .pass (x := .inLoop c) rfl (fun _ _ => .inl (by simp)) harr⟩
      | panic ch => exact ⟨_, a₁, w₁, ⟨φ2, f2, H2, hφ.trans q1, q2, q3, hw2, q5⟩, .pass (x := .inLoop c) rfl (fun _ _ => .inl (by simp)) harr⟩
      | outgrown => exact ⟨_, a₁, w₁, ⟨φ2, f2, H2, hφ.trans q1, q2, q3, hw2, q5⟩, .pass (x := .inLoop c) rfl (fun _ _ => .inl (by simp)) harr⟩
  obtain ⟨e, a', w', hq, harr⟩ := key _ f H φ a w rfl h0 rfl (List.prefix_refl _) hf hR H.w0 rfl
  exact ⟨e, a', w', hq, .of_steps (.one step_loop) harr⟩
end

/-! ### a call -/
def mkTr : List Value → Nat → Tr Value → Tr Value
  | [], _, t => t
  | v :: r, i, t => mkTr r (i + 1) (t.set i (some v))

def mkFr (args : List Value) (ntmps : Nat) : Fr := ⟨args.length + (ntmps - args.length), mkTr args 0 .nil⟩

theorem mkTr_get : ∀ (l : List Value) (i : Nat) (t : Tr Value) (j : Nat), (mkTr l i t).get j = if j < i then t.get j else if j < i + l.length then l[j - i]? else t.get j := by
  intro l
  induction l with
  | nil =>
    intro i t j
    simp only [mkTr, List.length_nil, Nat.add_zero]
    by_cases h : j < i
    · rw [if_pos h]
    · rw [if_neg h, if_neg h]
  | cons v r ih =>
    intro i t j
    simp only [mkTr, ih, Tr.get_set, List.length_cons]
    by_cases h1 : j < i
    · rw [if_pos (by omega), if_neg (by omega), if_pos h1]
    · rw [if_neg h1]
      by_cases h2 : j = i
      · subst h2; simp
      · rw [if_neg (by omega), if_neg h2]
        by_cases h3 : j < i + 1 + r.length
        · rw [if_pos h3, if_pos (by omega), show j - i = (j - (i + 1)) + 1 by omega]
          simp
        · rw [if_neg h3, if_neg (by omega)]

theorem mkFr_ok {φ : List Place} {args args' : List Value} (h : VRs φ args args') (n : Nat) : FRel φ (mkFr args n) { tmps := ⟨args'⟩ ++ Array.replicate (n - (⟨args'⟩ : Array Value).size) undef, defers := [] } := by
  refine ⟨rfl, by simp [mkFr, h.1], fun t => ?_⟩
  simp only [aval, mkFr, mkTr_get, Nat.not_lt_zero, if_false, Nat.zero_add, Nat.sub_zero]
  by_cases ht : t < args.length
  · rw [if_pos ht]
    have ht' : t < args'.length := h.1 ▸ ht
    simp only [ht, List.getElem?_eq_getElem]
    have : (⟨args'⟩ ++ Array.replicate (n - (⟨args'⟩ : Array Value).size) undef).getD t undef = args'[t] := by
      simp [Array.getD_eq_getD_getElem?, Array.getElem?_append, ht']
    rw [this]
    exact h.2 t _ _ (by simp [ht]) (by simp [ht'])
  · rw [if_neg ht]
    have ht' : ¬ t < args'.length := h.1 ▸ ht
    have : (⟨args'⟩ ++ Array.replicate (n - (⟨args'⟩ : Array Value).size) undef).getD t undef = undef := by
      simp only [Array.getD_eq_getD_getElem?, Array.getElem?_append, List.size_toArray, ht', if_false, Array.getElem?_replicate]
      split <;> rfl
    rw [this]
    exact VR.undef φ

section
variable {P : Program} (E : Env P)

def aresult (f : Fr) (H : AH) : ResultVar → Option Value
  | .tmp t => some (aval f (.tmp t))
  | .cell a t => (match aval f (.tmp a) with
    | .pointer (some p) => aloadVar E t p H
    | _ => none)

def aresults (f : Fr) (H : AH) : List ResultVar → Option (List Value)
  | [] => some []
  | r :: l => (match aresult E f H r, aresults f H l with
    | some v, some vs => some (v :: vs)
    | _, _ => none)

def tupleUp : List Value → Value
  | [v] => v
  | vs => .tuple ⟨vs⟩

theorem aresults_ok [Pins] {φ : List Place} {f : Fr} {H : AH} {a : Act} {w : World} (hf : FRel φ f a) (R : Rel φ H w) : ∀ (rs : List ResultVar) (vs : List Value), aresults E f H rs = some vs →
    ∃ vs', VRs φ vs vs' ∧ (rs.mapM (fun | .tmp t => pure (a.tmps.getD t undef) | .cell p t => do loadVar t (← asAddr (a.tmps.getD p undef))) : Sem (List Value)).run P w = .ok vs' w := by
  intro rs
  induction rs with
  | nil => intro vs h; simp [aresults] at h; subst h; exact ⟨[], VRs.nil φ, by simp⟩
  | cons r rs ih =>
    intro vs h
    simp only [aresults] at h
    split at h
    · rename_i v vs2 hv hvs
      cases h
      obtain ⟨vs', h1, h2⟩ := ih vs2 hvs
      cases r with
      | tmp t =>
        simp only [aresult] at hv
        cases hv
        exact ⟨_ :: vs', VRs.cons (hf.2.2 t) h1, by simp only [List.mapM_cons, Sem.run_bind, Sem.run_pure, Result.andThen_ok, h2]⟩
      | cell p t =>
        simp only [aresult] at hv
        split at hv
        · rename_i q hq
          have hr := hf.2.2 p
          rw [hq] at hr
          generalize hcc : a.tmps.getD p undef = cc at hr
          cases hr with
          | ptr hA =>
            obtain ⟨v', q1, q2⟩ := aloadVar_ok E R hA hv
            have hadr : ∀ w, (asAddr (a.tmps.getD p undef)).run P w = .ok _ w := fun w => by rw [hcc]; rfl
            exact ⟨v' :: vs', VRs.cons q2 h1, by simp only [List.mapM_cons, Sem.run_bind, hadr, Sem.run_pure, Result.andThen_ok, q1, h2]⟩
        · cases hv
    · cases h

theorem run_results [Pins] {φ : List Place} {f : Fr} {H : AH} {a : Act} {w : World} (hf : FRel φ f a) (R : Rel φ H w) {F : Func} {rs : List ResultVar} (hF : F.results.toList = rs) {vs : List Value} (h : aresults E f H rs = some vs) :
    ∃ v', VR φ (tupleUp vs) v' ∧ (results F a.tmps).run P w = .ok v' w := by
  obtain ⟨vs', h1, h2⟩ := aresults_ok E hf R rs vs h
  refine ⟨if h : (⟨vs'⟩ : Array Value).size = 1 then (⟨vs'⟩ : Array Value)[0] else .tuple ⟨vs'⟩, ?_, ?_⟩
  · cases vs with
    | nil =>
      have : vs' = [] := List.eq_nil_of_length_eq_zero h1.1.symm
      subst this
      exact VR.tuple' (VRs.nil φ)
    | cons v r =>
      cases vs' with
      | nil => have := h1.1; simp at this
      | cons v' r' =>
        cases r with
        | nil =>
          have : r' = [] := List.eq_nil_of_length_eq_zero (by have := h1.1; simpa using this.symm)
          subst this
          simpa [tupleUp] using h1.head
        | cons u s =>
          have hne : ¬ (⟨v' :: r'⟩ : Array Value).size = 1 := by have := h1.1; simp at this ⊢; intro e; rw [e] at this; simp at this
          rw [dif_neg hne]
          exact VR.tuple' h1
  · unfold results
    rw [Array.mapM_eq_mapM_toList, hF]
    simp only [Sem.run_bind, Sem.run_map]
    erw [h2]
    rfl

/-- a call by its body -/
theorem ACalls.body {g : FuncId} {x : AFn} (hg : E.fn g = some x) {args : List Value} {H : AH} {Q : Value → AH → Prop}
    (h : ACode P x.body (fun e f H' => (e = .normal ∨ e = .ret) ∧ ∃ vs, aresults E f H' x.results = some vs ∧ Q (tupleUp vs) H') (mkFr args x.ntmps) H) : ACalls P g args H Q := by
  intro π φ args' w hv hR
  obtain ⟨F, hF, hb, hn, hr, _⟩ := E.fn_ok _ _ hg
  refine calls_of_wp hF hb ?_
  have hf := mkFr_ok hv x.ntmps
  rw [hn]
  refine wp_mono (h _ φ _ w hf hR) ?_
  rintro e a w' ⟨φ', f, H', h1, h2, h3, h4, h5, vs, h6, h7⟩
  obtain ⟨v', q1, q2⟩ := run_results E h2 h3 hr h6
  rcases h5 with rfl | rfl
  · exact ⟨h2.1, v', q2, φ', _, v', H', h1, rfl, q1, h3, h4, h7⟩
  · exact ⟨h2.1, v', q2, φ', _, v', H', h1, rfl, q1, h3, h4, h7⟩

/-! ### the run -/
def aloop (body : Fr → AH → Option (Exit × Fr × AH)) : Nat → Fr → AH → Option (Exit × Fr × AH)
  | 0, _, _ => none
  | n + 1, f, H => (match body f H with
    | some (.normal, f', H') => aloop body n f' H'
    | r => r)

def arun (call : Callf) (fuel : Nat) : Code → Fr → AH → Option (Exit × Fr × AH)
  | .skip, f, H => some (.normal, f, H)
  | .label _, f, H => some (.normal, f, H)
  | .exit i, f, H => some (.exit i, f, H)
  | .ret, f, H => some (.ret, f, H)
  | .seq a b, f, H => (match arun call fuel a f H with
    | some (.normal, f', H') => arun call fuel b f' H'
    | r => r)
  | .cond c x y, f, H => (match aval f c with
    | .bool true => arun call fuel x f H
    | .bool false => arun call fuel y f H
    | _ => none)
  | .block i c, f, H => (match arun call fuel c f H with
    | some (.exit j, f', H') => bif Nat.beq j i then some (.normal, f', H') else some (.exit j, f', H')
    | r => r)
  | .loop c, f, H => aloop (arun call fuel c) fuel f H
  | .region _ ops draw, f, H =>
    bif draw then (match arunDraw E call ops f H with
      | some (g, K) => some (.normal, g, K)
      | none => none)
    else (match arunOps E call ops ops.toList f H with
      | some (g, K) => some (.normal, g, K)
      | none => none)
  | _, _, _ => none

def acall : Nat → Callf
  | 0, _, _, _ => none
  | n + 1, g, args, H => (match E.fn g with
    | some x => (match arun E (acall n) n x.body (mkFr args x.ntmps) H with
      | some (.normal, f, H') => (match aresults E f H' x.results with
        | some vs => some (tupleUp vs, H')
        | none => none)
      | some (.ret, f, H') => (match aresults E f H' x.results with
        | some vs => some (tupleUp vs, H')
        | none => none)
      | _ => none)
    | none => none)

/-- what a run says -/
def Says (P : Program) (c : Code) (e : Exit) (g : Fr) (K : AH) (f : Fr) (H : AH) : Prop := K.w0 = H.w0 ∧ ACode P c (fun e' g' K' => e' = e ∧ g' = g ∧ K' = K) f H

theorem arunOps_w0 {call : Callf} (hcall : CallOk P call) {ops : Array Oper} {g : Fr} {K : AH} : ∀ (l : List Oper) (f : Fr) (H : AH), arunOps E call ops l f H = some (g, K) → K.w0 = H.w0 := by
  intro l
  induction l with
  | nil => intro f H h; simp [arunOps] at h; rw [h.2]
  | cons o r ih =>
    intro f H h
    simp only [arunOps] at h
    split at h
    · rename_i v H' m hs
      split at h
      · rw [ih _ _ h]
        rcases stepOp_cases E hs with ⟨_, _, _, rfl⟩ | ⟨_, _, rfl, _⟩ | ⟨_, _, h2⟩ | ⟨_, _, c, args, _, h3⟩
        · rfl
        · rfl
        · exact aop_w0 E h2
        · exact (hcall _ _ _ _ _ h3).1
      · cases h
    · cases h

theorem arunTr_w0 {call : Callf} (hcall : CallOk P call) {ops : Array Oper} : ∀ (l : List Oper) (f : Fr) (H : AH) (L : List Step) (g : Fr) (K : AH), arunTr E call ops l f H = some (L, g, K) → K.w0 = H.w0 := by
  intro l
  induction l with
  | nil => intro f H L g K h; simp [arunTr] at h; rw [h.2.2]
  | cons o r ih =>
    intro f H L g K h
    simp only [arunTr] at h
    split at h
    · rename_i v H' m hs
      split at h
      · split at h
        · rename_i L' x hr
          obtain ⟨g', K'⟩ := x
          cases h
          rw [ih _ _ _ _ _ hr]
          rcases stepOp_cases E hs with ⟨_, _, _, rfl⟩ | ⟨_, _, rfl, _⟩ | ⟨_, _, h2⟩ | ⟨_, _, c, args, _, h3⟩
          · rfl
          · rfl
          · exact aop_w0 E h2
          · exact (hcall _ _ _ _ _ h3).1
        · cases h
      · cases h
    · cases h

theorem arunDraw_w0 {call : Callf} (hcall : CallOk P call) {ops : Array Oper} {f g : Fr} {H K : AH} (h : arunDraw E call ops f H = some (g, K)) : K.w0 = H.w0 := by
  unfold arunDraw at h
  rcases cond_some h with h | h
  · split at h
    · rename_i L g' K' hr
      split at h
      · cases h; exact arunTr_w0 E hcall _ _ _ _ _ _ hr
      · rcases cond_some h with h | h
        · cases h; exact arunTr_w0 E hcall _ _ _ _ _ _ hr
        · cases h
    · cases h
  · cases h

theorem aloop_ok {c : Code} {body : Fr → AH → Option (Exit × Fr × AH)} (hb : ∀ f H e g K, body f H = some (e, g, K) → Says P c e g K f H) (n : Nat) (f : Fr) (H : AH) (e : Exit) (g : Fr) (K : AH) (h : aloop body n f H = some (e, g, K)) : Says P (.loop c) e g K f H := by
  have hw0 : ∀ (n : Nat) (f : Fr) (H : AH), aloop body n f H = some (e, g, K) → K.w0 = H.w0 := by
    intro n
    induction n with
    | zero => intro f H h; cases h
    | succ n ih =>
      intro f H h
      simp only [aloop] at h
      split at h
      · rename_i f' H' hbd
        rw [ih f' H' h, (hb _ _ _ _ _ hbd).1]
      · exact (hb _ _ _ _ _ h).1
  refine ⟨hw0 n f H h, ?_⟩
  intro π
  have key : ∀ (n : Nat) (f : Fr) (H : AH), aloop body n f H = some (e, g, K) → ∀ φ a w, FRel φ f a → Rel φ H w → Code.rounds P c (conc φ H.w0 fun e' g' K' => e' = e ∧ g' = g ∧ K' = K) n a w := by
    intro n
    induction n with
    | zero => intro f H h; cases h
    | succ n ih =>
      intro f H h φ a w hf hR
      rw [rounds_succ]
      simp only [aloop] at h
      have fin : ∀ {e2 g2 K2}, body f H = some (e2, g2, K2) → (e2 = .normal → aloop body n g2 K2 = some (e, g, K)) → (e2 ≠ .normal → e2 = e ∧ g2 = g ∧ K2 = K) →
          c.wp P (Exit.then (Code.rounds P c (conc φ H.w0 fun e' g' K' => e' = e ∧ g' = g ∧ K' = K) n) (conc φ H.w0 fun e' g' K' => e' = e ∧ g' = g ∧ K' = K)) a w := by
        intro e2 g2 K2 hbd h1 h2
        refine wp_mono ((hb _ _ _ _ _ hbd).2 _ φ a w hf hR) ?_
        rintro e3 a3 w3 ⟨φ', f', H', q1, q2, q3, q4, rfl, rfl, rfl⟩
        cases e3 with
        | normal =>
          have := ih _ _ (h1 rfl) φ' a3 w3 q2 q3
          rw [q4] at this
          have mono : ∀ (n : Nat) (a : Act) (w : World), Code.rounds P c (conc φ' H.w0 fun e' g' K' => e' = e ∧ g' = g ∧ K' = K) n a w → Code.rounds P c (conc φ H.w0 fun e' g' K' => e' = e ∧ g' = g ∧ K' = K) n a w := by
            intro n
            induction n with
            | zero => intro a w k; exact k
            | succ n ihn =>
              intro a w k
              rw [rounds_succ] at k ⊢
              refine wp_mono k fun e4 a4 w4 k4 => ?_
              cases e4 with
              | normal => exact ihn _ _ k4
              | _ =>
                simp only [Exit.then] at k4 ⊢
                exact conc_mono q1 k4
          exact mono n a3 w3 this
        | _ => exact ⟨φ', f', H', q1, q2, q3, q4, h2 (by simp)⟩
      cases hbd : body f H with
      | none => rw [hbd] at h; cases h
      | some r =>
        obtain ⟨e2, g2, K2⟩ := r
        rw [hbd] at h
        refine fin hbd (fun he => ?_) (fun he => ?_)
        · subst he; exact h
        · cases e2 with
          | normal => exact absurd rfl he
          | _ => simp only [Option.some.injEq, Prod.mk.injEq] at h; exact h
  intro φ a w hf hR
  exact wp_loop_rounds n (key n f H h φ a w hf hR)

theorem arun_ok {call : Callf} (hcall : CallOk P call) (hm : P.follows .mixedOrders = true) (fuel : Nat) : ∀ (c : Code) (f : Fr) (H : AH) (e : Exit) (g : Fr) (K : AH), arun E call fuel c f H = some (e, g, K) → Says P c e g K f H := by
  intro c
  induction c with
  | skip => intro f H e g K h; simp only [arun] at h; cases h; exact ⟨rfl, ACode.skip ⟨rfl, rfl, rfl⟩⟩
  | label l => intro f H e g K h; simp only [arun] at h; cases h; exact ⟨rfl, ACode.label ⟨rfl, rfl, rfl⟩⟩
  | exit i => intro f H e g K h; simp only [arun] at h; cases h; exact ⟨rfl, ACode.exit ⟨rfl, rfl, rfl⟩⟩
  | ret => intro f H e g K h; simp only [arun] at h; cases h; exact ⟨rfl, ACode.ret ⟨rfl, rfl, rfl⟩⟩
  | seq x y ihx ihy =>
    intro f H e g K h
    simp only [arun] at h
    cases hx : arun E call fuel x f H with
    | none => rw [hx] at h; cases h
    | some r =>
      obtain ⟨e1, f1, H1⟩ := r
      rw [hx] at h
      obtain ⟨w1, c1⟩ := ihx _ _ _ _ _ hx
      by_cases he : e1 = .normal
      · subst he
        simp only at h
        obtain ⟨w2, c2⟩ := ihy _ _ _ _ _ h
        refine ⟨w2.trans w1, ACode.seq c1 ?_ ?_⟩
        · rintro f' H' ⟨_, rfl, rfl⟩; exact c2
        · rintro e' f' H' hne ⟨rfl, _⟩; exact absurd rfl hne
      · have hh : e1 = e ∧ f1 = g ∧ H1 = K := by
          cases e1 with
          | normal => exact absurd rfl he
          | _ => simp only [Option.some.injEq, Prod.mk.injEq] at h; exact h
        obtain ⟨rfl, rfl, rfl⟩ := hh
        refine ⟨w1, ACode.seq c1 ?_ ?_⟩
        · rintro f' H' ⟨e0, _⟩; exact absurd e0.symm he
        · rintro e' f' H' _ k; exact k
  | cond c x y ihx ihy =>
    intro f H e g K h
    simp only [arun] at h
    split at h
    · rename_i hc
      obtain ⟨w1, c1⟩ := ihx _ _ _ _ _ h
      exact ⟨w1, ACode.cond hc c1⟩
    · rename_i hc
      obtain ⟨w1, c1⟩ := ihy _ _ _ _ _ h
      exact ⟨w1, ACode.cond hc c1⟩
    · cases h
  | block i c ih =>
    intro f H e g K h
    simp only [arun] at h
    cases hx : arun E call fuel c f H with
    | none => rw [hx] at h; cases h
    | some r =>
      obtain ⟨e1, f1, H1⟩ := r
      rw [hx] at h
      obtain ⟨w1, c1⟩ := ih _ _ _ _ _ hx
      have fin : H1 = K → f1 = g → (∀ f' H', f' = g → H' = K → (match e1 with | .exit j => if j = i then (Exit.normal = e ∧ f' = g ∧ H' = K) else (Exit.exit j = e ∧ f' = g ∧ H' = K) | e' => (e' = e ∧ f' = g ∧ H' = K))) → Says P (.block i c) e g K f H := by
        rintro rfl rfl k
        refine ⟨w1, ACode.block (c1.mono ?_)⟩
        rintro e' f' H' ⟨rfl, rfl, rfl⟩
        have := k f' H' rfl rfl
        cases e' <;> exact this
      cases e1 with
      | exit j =>
        simp only at h
        cases hj : Nat.beq j i with
        | true =>
          rw [hj, cond_true] at h
          cases h
          have := Nat.eq_of_beq_eq_true hj
          exact fin rfl rfl fun f' H' h1 h2 => by simp only [this, if_true]; exact ⟨trivial, h1, h2⟩
        | false =>
          rw [hj, cond_false] at h
          cases h
          have : ¬ j = i := fun e => by rw [e] at hj; simp at hj
          exact fin rfl rfl fun f' H' h1 h2 => by simp only [this, if_false]; exact ⟨trivial, h1, h2⟩
      | _ =>
        simp only [Option.some.injEq, Prod.mk.injEq] at h
        obtain ⟨rfl, rfl, rfl⟩ := h
        exact fin rfl rfl fun f' H' h1 h2 => ⟨rfl, h1, h2⟩
  | loop c ih =>
    intro f H e g K h
    simp only [arun] at h
    exact aloop_ok ih fuel f H e g K h
  | region i ops draw =>
    intro f H e g K h
    simp only [arun] at h
    cases draw with
    | true =>
      rw [cond_true] at h
      split at h
      · rename_i g' K' hd
        cases h
        exact ⟨arunDraw_w0 E hcall hd, arunDraw_ok E hcall hm ⟨rfl, rfl, rfl⟩ hd i⟩
      · cases h
    | false =>
      rw [cond_false] at h
      split at h
      · rename_i g' K' hd
        cases h
        refine ⟨arunOps_w0 E hcall _ _ _ hd, ACode.region ?_⟩
        have := arunOps_ok E hcall (Q := fun e' g'' K'' => e' = Exit.normal ∧ g'' = g ∧ K'' = K) ⟨rfl, rfl, rfl⟩ ops.toList 0 f H (fun j => by simp) hd
        rw [Array.length_toList, ← List.range_eq_range'] at this
        exact this
      · cases h
  | _ => intro f H e g K h; simp only [arun] at h; cases h

theorem acall_ok (hm : P.follows .mixedOrders = true) : ∀ n, CallOk P (acall E n) := by
  intro n
  induction n with
  | zero => intro g args H v H' h; cases h
  | succ n ih =>
    intro g args H v H' h
    simp only [acall] at h
    split at h
    · rename_i x hg
      have fin : ∀ {e f K}, arun E (acall E n) n x.body (mkFr args x.ntmps) H = some (e, f, K) → (e = .normal ∨ e = .ret) → (match aresults E f K x.results with | some vs => some (tupleUp vs, K) | none => none) = some (v, H') →
          H'.w0 = H.w0 ∧ ACalls P g args H fun u K => u = v ∧ K = H' := by
        intro e f K hr he hv
        split at hv
        · rename_i vs hvs
          cases hv
          obtain ⟨w1, c1⟩ := arun_ok E ih hm n _ _ _ _ _ _ hr
          refine ⟨w1, ACalls.body E hg (c1.mono ?_)⟩
          rintro e' f' K' ⟨rfl, rfl, rfl⟩
          exact ⟨he, vs, hvs, rfl, rfl⟩
        · cases hv
      split at h
      · rename_i f K hr; exact fin hr (.inl rfl) h
      · rename_i f K hr; exact fin hr (.inr rfl) h
      · cases h
    · cases h
end
end Go.AM
