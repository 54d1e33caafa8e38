/-
  The abstract machine, part 11: a run.
-/
import Derived.Test.YtpfgpjopjadmiaaGreatDoorAM10
set_option linter.unusedVariables false
set_option linter.unusedSimpArgs false
noncomputable section
namespace Go.AM
open Go.RowKit

/-! ### equal values -/
def veq1 : Value → Value → Bool
  | .bool a, .bool b => a == b
  | .int k a, .int k' b => decide (k = k') && a == b
  | .string a, .string b => a.data.toList == b.data.toList
  | .pointer a, .pointer b => decide (a = b)
  | .slice a l c, .slice b l' c' => decide (a = b) && (Nat.beq l l' && Nat.beq c c')
  | .map a, .map b => decide (a = b)
  | _, _ => false
def veqL : List Value → List Value → Bool
  | [], [] => true
  | a :: r, b :: s => veq1 a b && veqL r s
  | _, _ => false
def veq0 : Value → Value → Bool
  | .agg ⟨xs⟩, .agg ⟨ys⟩ => veqL xs ys
  | a, b => veq1 a b
def veqT : List Value → List Value → Bool
  | [], [] => true
  | a :: r, b :: s => veq0 a b && veqT r s
  | _, _ => false
def veq : Value → Value → Bool
  | .tuple ⟨xs⟩, .tuple ⟨ys⟩ => veqT xs ys
  | a, b => veq0 a b

theorem veq1_eq {a b : Value} (h : veq1 a b = true) : a = b := by
  unfold veq1 at h
  split at h
  · rw [beq_iff_eq] at h; rw [h]
  · simp only [Bool.and_eq_true, decide_eq_true_eq, beq_iff_eq] at h; rw [h.1, h.2]
  · rw [beq_iff_eq] at h
    congr 1
    apply ByteArray.ext
    rw [← Array.toList_inj]; exact h
  · simp only [decide_eq_true_eq] at h; rw [h]
  · simp only [Bool.and_eq_true, decide_eq_true_eq] at h
    rw [h.1, Nat.eq_of_beq_eq_true h.2.1, Nat.eq_of_beq_eq_true h.2.2]
  · simp only [decide_eq_true_eq] at h; rw [h]
  · cases h
theorem veqL_eq : ∀ {a b : List Value}, veqL a b = true → a = b
  | [], [], _ => rfl
  | [], _ :: _, h => by simp [veqL] at h
  | _ :: _, [], h => by simp [veqL] at h
  | a :: r, b :: s, h => by
    simp only [veqL, Bool.and_eq_true] at h
    rw [veq1_eq h.1, veqL_eq h.2]
theorem veq0_eq {a b : Value} (h : veq0 a b = true) : a = b := by
  unfold veq0 at h
  split at h
  · rw [veqL_eq h]
  · exact veq1_eq h
theorem veqT_eq : ∀ {a b : List Value}, veqT a b = true → a = b
  | [], [], _ => rfl
  | [], _ :: _, h => by simp [veqT] at h
  | _ :: _, [], h => by simp [veqT] at h
  | a :: r, b :: s, h => by
    simp only [veqT, Bool.and_eq_true] at h
    rw [veq0_eq h.1, veqT_eq h.2]
theorem veq_eq {a b : Value} (h : veq a b = true) : a = b := by
  unfold veq at h
  split at h
  · rw [veqT_eq h]
  · exact veq0_eq h

/-! ### operations that leave the heap alone -/
section
variable {P : Program} (E : Env P)
def isQuiet (op : Op) : Bool :=
  match op with
  | .move _ | .assign _ | .pick .. | .build .. | .load .. | .nilCheck _ | .binOp .. | .unOp .. | .makeFunc .. | .slice .. | .fieldAddr .. | .field .. | .indexAddr .. | .index .. | .lookup .. | .extract .. => true
  | .convert _ d _ => (match E.und d with | some (.int _) => true | _ => false)
  | .call c => (match c.callee with | .builtin .len | .builtin .cap | .builtin .min | .builtin .max => true | _ => false)
  | _ => false

def isPure (op : Op) : Bool :=
  match op with
  | .move _ | .assign _ | .pick .. | .build .. | .nilCheck _ | .binOp .. | .unOp .. | .makeFunc .. | .fieldAddr .. | .field .. | .indexAddr .. | .index .. | .extract .. => true
  | .convert _ d _ => (match E.und d with | some (.int _) => true | _ => false)
  | .call c => (match c.callee with
    | .builtin .min | .builtin .max => true
    | .builtin .len => (match c.argTypes.toList with
      | [t] => (match E.und t with | some (.map _ _) => false | _ => true)
      | _ => false)
    | _ => false)
  | _ => false

theorem quiet_heap {ρ : Operand → Value} {op : Op} {H H' : AH} {v : Value} (hq : isQuiet E op = true) (h : aop E ρ op H = some (v, H')) : H' = H := by
  cases op <;> simp only [isQuiet] at hq <;> (try (cases hq; done)) <;> simp only [aop] at h
  case move => cases h; rfl
  case assign => cases h; rfl
  case pick => split at h <;> cases h <;> rfl
  case load => split at h
               · exact (pairUp_some h).2
               · cases h
  case nilCheck => split at h <;> cases h <;> rfl
  case makeFunc => cases h; rfl
  case convert s d x =>
    unfold aconv at h
    split at hq
    · rename_i k hd
      split at h
      · cases h; rfl
      · rename_i hd2 _; rw [hd] at hd2; cases hd2
      · rename_i hd2 _; rw [hd] at hd2; cases hd2
      · rename_i hd2 _; rw [hd] at hd2; cases hd2
      · rename_i hd2 _; rw [hd] at hd2; cases hd2
      · first | (rename_i hd2 _; rw [hd] at hd2; cases hd2; done) | (rename_i hd2; rw [hd] at hd2; cases hd2; done)
      · first | (rename_i hd2 _; rw [hd] at hd2; cases hd2; done) | (rename_i hd2; rw [hd] at hd2; cases hd2; done)
      · cases h
    · cases hq
  case call c =>
    split at hq
    · rename_i hc
      simp only [hc] at h
      split at h
      · exact (pairUp_some h).2
      · cases h
    · rename_i hc
      simp only [hc] at h
      split at h
      · exact (pairUp_some h).2
      · cases h
    · rename_i hc
      simp only [hc] at h
      split at h
      · exact (pairUp_some h).2
      · cases h
    · rename_i hc
      simp only [hc] at h
      split at h
      · exact (pairUp_some h).2
      · cases h
    · cases hq
  all_goals exact (pairUp_some h).2

theorem pairUp_move {x : Option Value} {H H2 : AH} {v : Value} (h : pairUp x H = some (v, H)) : pairUp x H2 = some (v, H2) := by
  obtain ⟨rfl, _⟩ := pairUp_some h; rfl

theorem pure_any {ρ : Operand → Value} {op : Op} {H : AH} {v : Value} (hq : isPure E op = true) (h : aop E ρ op H = some (v, H)) (H2 : AH) : aop E ρ op H2 = some (v, H2) := by
  cases op <;> simp only [isPure] at hq <;> (try (cases hq; done)) <;> simp only [aop] at h ⊢
  case move => cases h; rfl
  case assign => cases h; rfl
  case pick => split at h <;> cases h <;> rfl
  case nilCheck => split at h <;> cases h <;> rfl
  case makeFunc => cases h; rfl
  case convert s d x =>
    unfold aconv at h ⊢
    split at hq
    · rename_i k hd
      split at h
      · cases h; rfl
      · rename_i hd2 _; rw [hd] at hd2; cases hd2
      · rename_i hd2 _; rw [hd] at hd2; cases hd2
      · rename_i hd2 _; rw [hd] at hd2; cases hd2
      · rename_i hd2 _; rw [hd] at hd2; cases hd2
      · first | (rename_i hd2 _; rw [hd] at hd2; cases hd2; done) | (rename_i hd2; rw [hd] at hd2; cases hd2; done)
      · first | (rename_i hd2 _; rw [hd] at hd2; cases hd2; done) | (rename_i hd2; rw [hd] at hd2; cases hd2; done)
      · cases h
    · cases hq
  case call c =>
    split at hq
    · rename_i hc
      simp only [hc] at h ⊢
      split at h
      · exact pairUp_move h
      · cases h
    · rename_i hc
      simp only [hc] at h ⊢
      split at h
      · exact pairUp_move h
      · cases h
    · rename_i hc
      simp only [hc] at h ⊢
      split at hq
      · rename_i t ht
        split at h
        · rename_i x t' ha ht'
          rw [ht] at ht'; cases ht'
          split at hq
          · cases hq
          · rename_i hnm
            obtain ⟨h1, _⟩ := pairUp_some h
            have : alen E t (ρ x) H2 = alen E t (ρ x) H := by
              unfold alen
              split
              · rename_i hu; rfl
              · rfl
              · rfl
              · rename_i hu _; exact absurd hu (hnm _ _)
              · rename_i hu _; exact absurd hu (hnm _ _)
              · rfl
            rw [this]
            exact pairUp_move h
        · cases h
      · cases hq
    · cases hq
  all_goals exact pairUp_move h

/-! ### a region -/
abbrev Callf := FuncId → List Value → AH → Option (Value × AH)

/-- what is known of the calls -/
def CallOk (P : Program) (call : Callf) : Prop := ∀ g args H v H', call g args H = some (v, H') → H'.w0 = H.w0 ∧ ACalls P g args H fun u K => u = v ∧ K = H'

def stepOp (call : Callf) (ops : Array Oper) (o : Oper) (f : Fr) (H : AH) : Option (Value × AH × Bool) :=
  bif awanted ops (sval f) o then
    bif isQuiet E o.op then (match aop E (aval f) o.op H with
      | some (v, _) => some (v, H, false)
      | none => none)
    else (match acallee E (aval f) o.op with
      | some (g, args) => (match call g args H with
        | some (v, H') => some (v, H', true)
        | none => none)
      | none => (match aop E (aval f) o.op H with
        | some (v, H') => some (v, H', true)
        | none => none))
  else some (undef, H, false)

/-- in the text's order -/
def arunOps (call : Callf) (ops : Array Oper) : List Oper → Fr → AH → Option (Fr × AH)
  | [], f, H => some (f, H)
  | o :: r, f, H => (match stepOp E call ops o f H with
    | some (v, H', _) => (match f.put o.dst v with
      | some g => arunOps call ops r g H'
      | none => none)
    | none => none)

abbrev Step := Fr × AH × Value × Bool

/-- the same, with what has been met -/
def arunTr (call : Callf) (ops : Array Oper) : List Oper → Fr → AH → Option (List Step × Fr × AH)
  | [], f, H => some ([], f, H)
  | o :: r, f, H => (match stepOp E call ops o f H with
    | some (v, H', m) => (match f.put o.dst v with
      | some g => (match arunTr call ops r g H' with
        | some (l, x) => some ((f, H, v, m) :: l, x)
        | none => none)
      | none => none)
    | none => none)

/-- the numbers of the operations that may change the heap -/
def mainsOf : Nat → List Step → List Nat
  | _, [] => []
  | i, (_, _, _, m) :: r => bif m then i :: mainsOf (i + 1) r else mainsOf (i + 1) r

def pairsOk (bs : List Nat) : List Nat → Bool
  | [] => true
  | i :: r => (r.all fun j => (bs.getD j 0).testBit i) && pairsOk bs r

/-- the heaps after the mains: numbers and heaps -/
def heapsOf (l : List Step) (last : AH) : List Nat → List (Nat × AH)
  | [] => []
  | m :: r => (m + 1, match l[m + 1]? with
    | some s => s.2.1
    | none => last) :: heapsOf l last r

def quietAt (bs ms : List Nat) (i : Nat) (o : Oper) (f : Fr) (v : Value) (t : Nat) (H : AH) : Bool :=
  (ms.any fun j => (bs.getD i 0).testBit j && !(Nat.blt j t)) || ((ms.any fun j => (bs.getD j 0).testBit i && Nat.blt j t) ||
    match aop E (aval f) o.op H with
    | some (u, _) => veq u v
    | none => false)

def quietOk (ops : Array Oper) (bs ms : List Nat) (hs : List (Nat × AH)) : Nat → List Step → Bool
  | _, [] => true
  | i, (f, _, v, m) :: r =>
    (match ops[i]? with
    | some o => m || (isPure E o.op || (!(awanted ops (sval f) o) || hs.all fun th => quietAt E bs ms i o f v th.1 th.2))
    | none => true) && quietOk ops bs ms hs (i + 1) r

def arunDraw (call : Callf) (ops : Array Oper) (f : Fr) (H : AH) : Option (Fr × AH) :=
  bif orderOk ops (bef ops) then
    (match arunTr E call ops ops.toList f H with
    | some (l, g, H') =>
      (match mainsOf 0 l with
      | [] => some (g, H')
      | m :: r => bif pairsOk (bef ops) (m :: r) && quietOk E ops (bef ops) (m :: r) ((0, H) :: heapsOf l H' (m :: r)) 0 l then some (g, H') else none)
    | none => none)
  else none

/-- what a step comes to -/
theorem stepOp_cases {call : Callf} {ops : Array Oper} {o : Oper} {f : Fr} {H H' : AH} {v : Value} {m : Bool} (h : stepOp E call ops o f H = some (v, H', m)) :
    (awanted ops (sval f) o = false ∧ v = undef ∧ m = false ∧ H' = H) ∨
    (awanted ops (sval f) o = true ∧ m = false ∧ H' = H ∧ isQuiet E o.op = true ∧ aop E (aval f) o.op H = some (v, H)) ∨
    (awanted ops (sval f) o = true ∧ m = true ∧ aop E (aval f) o.op H = some (v, H')) ∨
    (awanted ops (sval f) o = true ∧ m = true ∧ ∃ g args, acallee E (aval f) o.op = some (g, args) ∧ call g args H = some (v, H')) := by
  unfold stepOp at h
  cases hw : awanted ops (sval f) o with
  | false => rw [hw, cond_false] at h; cases h; exact .inl ⟨rfl, rfl, rfl, rfl⟩
  | true =>
    rw [hw, cond_true] at h
    cases hq : isQuiet E o.op with
    | true =>
      rw [hq, cond_true] at h
      split at h
      · rename_i u K hop
        have hK := quiet_heap E hq hop
        cases h
        rw [hK] at hop
        exact .inr (.inl ⟨rfl, rfl, rfl, rfl, hop⟩)
      · cases h
    | false =>
      rw [hq, cond_false] at h
      split at h
      · rename_i g args hc
        split at h
        · rename_i u K hcall
          cases h
          exact .inr (.inr (.inr ⟨rfl, rfl, g, args, hc, hcall⟩))
        · cases h
      · split at h
        · rename_i u K hop
          cases h
          exact .inr (.inr (.inl ⟨rfl, rfl, hop⟩))
        · cases h

theorem arunOps_ok {call : Callf} (hcall : CallOk P call) {ops : Array Oper} {Q : AQ} {g : Fr} {K : AH} (hQ : Q .normal g K) : ∀ (l : List Oper) (k : Nat) (f : Fr) (H : AH), (∀ j, l[j]? = ops[k + j]?) → arunOps E call ops l f H = some (g, K) →
    AOps P ops (List.range' k l.length) Q f H := by
  intro l
  induction l with
  | nil => intro k f H _ h; simp [arunOps] at h; obtain ⟨rfl, rfl⟩ := h; exact AOps.nil hQ
  | cons o r ih =>
    intro k f H hl h
    simp only [arunOps] at h
    split at h
    · rename_i v H' m hs
      split at h
      · rename_i f' hp
        have ho : ops[k]? = some o := by have := hl 0; simpa using this.symm
        have hr := ih (k + 1) f' H' (fun j => by have := hl (j + 1); simp only [List.getElem?_cons_succ] at this; rw [this]; congr 1; omega) h
        rw [List.length_cons, List.range'_succ]
        rcases stepOp_cases E hs with ⟨h1, rfl, _, rfl⟩ | ⟨h1, _, rfl, _, h2⟩ | ⟨h1, _, h2⟩ | ⟨h1, _, c, args, h2, h3⟩
        · exact AOps.skip ho h1 hp hr
        · exact AOps.op E ho h1 h2 hp hr
        · exact AOps.op E ho h1 h2 hp hr
        · refine AOps.call E ho h1 h2 ((hcall _ _ _ _ _ h3).2.mono ?_)
          rintro u K' ⟨rfl, rfl⟩
          exact ⟨f', hp, hr⟩
      · cases h
    · cases h

/-- the list of what has been met, as functions -/
theorem arunTr_ok {call : Callf} {ops : Array Oper} : ∀ (l : List Oper) (f : Fr) (H : AH) (L : List Step) (g : Fr) (K : AH), arunTr E call ops l f H = some (L, g, K) →
    L.length = l.length ∧ ∀ (i : Nat) (o : Oper) (s : Step), l[i]? = some o → L[i]? = some s → ∃ s', (L ++ [(g, K, undef, false)])[i + 1]? = some s' ∧ stepOp E call ops o s.1 s.2.1 = some (s.2.2.1, s'.2.1, s.2.2.2) ∧ s.1.put o.dst s.2.2.1 = some s'.1 := by
  intro l
  induction l with
  | nil => intro f H L g K h; simp [arunTr] at h; obtain ⟨rfl, rfl, rfl⟩ := h; exact ⟨rfl, fun i o s h => by simp at h⟩
  | cons o r ih =>
    intro f H L g K h
    simp only [arunTr] at h
    split at h
    · rename_i v H' m hs
      split at h
      · rename_i f' hp
        split at h
        · rename_i L' x hr
          obtain ⟨g', K'⟩ := x
          cases h
          obtain ⟨h1, h2⟩ := ih f' H' L' _ _ hr
          have hhead : ∃ s', (L' ++ [(g, K, undef, false)])[0]? = some s' ∧ s'.1 = f' ∧ s'.2.1 = H' := by
            cases r with
            | nil => simp [arunTr] at hr; obtain ⟨rfl, rfl, rfl⟩ := hr; exact ⟨_, rfl, rfl, rfl⟩
            | cons o2 r2 =>
              simp only [arunTr] at hr
              split at hr
              · split at hr
                · split at hr
                  · cases hr; exact ⟨_, rfl, rfl, rfl⟩
                  · cases hr
                · cases hr
              · cases hr
          refine ⟨by simp [h1], fun i o' s hi hs' => ?_⟩
          cases i with
          | zero =>
            simp at hi hs'
            subst hi; subst hs'
            obtain ⟨s', q1, q2, q3⟩ := hhead
            exact ⟨s', by simpa using q1, by rw [q3]; exact hs, by rw [q2]; exact hp⟩
          | succ i =>
            simp at hi hs'
            obtain ⟨s2, q1, q2⟩ := h2 i o' s hi hs'
            exact ⟨s2, by simpa using q1, q2⟩
        · cases h
      · cases h
    · cases h

theorem mem_mainsOf : ∀ (L : List Step) (k j : Nat), j ∈ mainsOf k L ↔ ∃ i s, L[i]? = some s ∧ s.2.2.2 = true ∧ j = k + i := by
  intro L
  induction L with
  | nil => intro k j; simp [mainsOf]
  | cons s L ih =>
    intro k j
    obtain ⟨a, b, c, m⟩ := s
    simp only [mainsOf]
    cases m with
    | true =>
      rw [cond_true, List.mem_cons, ih]
      constructor
      · rintro (rfl | ⟨i, s, h1, h2, rfl⟩)
        · exact ⟨0, _, rfl, rfl, rfl⟩
        · exact ⟨i + 1, s, by simpa using h1, h2, by omega⟩
      · rintro ⟨i, s, h1, h2, rfl⟩
        cases i with
        | zero => exact .inl rfl
        | succ i => exact .inr ⟨i, s, by simpa using h1, h2, by omega⟩
    | false =>
      rw [cond_false, ih]
      constructor
      · rintro ⟨i, s, h1, h2, rfl⟩
        exact ⟨i + 1, s, by simpa using h1, h2, by omega⟩
      · rintro ⟨i, s, h1, h2, rfl⟩
        cases i with
        | zero => simp at h1; subst h1; cases h2
        | succ i => exact ⟨i, s, by simpa using h1, h2, by omega⟩

theorem mainsOf_sorted : ∀ (L : List Step) (k : Nat), (mainsOf k L).Pairwise (· < ·) := by
  intro L
  induction L with
  | nil => intro k; exact List.Pairwise.nil
  | cons s L ih =>
    intro k
    obtain ⟨a, b, c, m⟩ := s
    simp only [mainsOf]
    cases m with
    | true =>
      rw [cond_true]
      refine List.Pairwise.cons (fun j hj => ?_) (ih (k + 1))
      obtain ⟨i, _, _, _, rfl⟩ := (mem_mainsOf L (k + 1) j).1 hj
      omega
    | false => rw [cond_false]; exact ih (k + 1)

theorem pairsOk_bit {bs : List Nat} : ∀ {ms : List Nat}, pairsOk bs ms = true → ms.Pairwise (· < ·) → ∀ i j, i ∈ ms → j ∈ ms → i < j → (bs.getD j 0).testBit i = true := by
  intro ms
  induction ms with
  | nil => intro _ _ i j h; cases h
  | cons m r ih =>
    intro h hs i j hi hj hij
    simp only [pairsOk, Bool.and_eq_true, List.all_eq_true] at h
    rw [List.pairwise_cons] at hs
    rcases List.mem_cons.1 hi with rfl | hi2
    · rcases List.mem_cons.1 hj with rfl | hj2
      · omega
      · exact h.1 j hj2
    · rcases List.mem_cons.1 hj with rfl | hj2
      · have := hs.1 i hi2; omega
      · exact ih h.2 hs.2 i j hi2 hj2 hij

theorem quietOk_at {ops : Array Oper} {bs ms : List Nat} {hs : List (Nat × AH)} : ∀ (L : List Step) (k : Nat), quietOk E ops bs ms hs k L = true → ∀ (i : Nat) (s : Step) (o : Oper), L[i]? = some s → ops[k + i]? = some o → s.2.2.2 = false → isPure E o.op = false →
    awanted ops (sval s.1) o = true → ∀ th ∈ hs, quietAt E bs ms (k + i) o s.1 s.2.2.1 th.1 th.2 = true := by
  intro L
  induction L with
  | nil => intro k _ i s o h; simp at h
  | cons x L ih =>
    intro k h i s o hi ho hm hp hw th hth
    obtain ⟨f, K, v, m⟩ := x
    simp only [quietOk, Bool.and_eq_true] at h
    cases i with
    | zero =>
      simp at hi
      subst hi
      simp only at hm hw
      subst hm
      rw [Nat.add_zero] at ho ⊢
      have h1 := h.1
      simp only [ho, hp, hw, Bool.false_or, Bool.not_true, List.all_eq_true] at h1
      exact h1 th hth
    | succ i =>
      have := ih (k + 1) h.2 i s o (by simpa using hi) (by rw [← ho]; congr 1; omega) hm hp hw th hth
      rwa [show k + (i + 1) = k + 1 + i by omega]

theorem mem_heapsOf {L : List Step} {last : AH} : ∀ {ms : List Nat} {m : Nat}, m ∈ ms → (m + 1, match L[m + 1]? with | some s => s.2.1 | none => last) ∈ heapsOf L last ms := by
  intro ms
  induction ms with
  | nil => intro m h; cases h
  | cons x r ih =>
    intro m h
    simp only [heapsOf]
    rcases List.mem_cons.1 h with rfl | h
    · exact List.mem_cons_self ..
    · exact List.mem_cons_of_mem _ (ih h)

theorem arunDraw_ok {call : Callf} (hcall : CallOk P call) (hm : P.follows .mixedOrders = true) {ops : Array Oper} {Q : AQ} {f g : Fr} {H K : AH} (hQ : Q .normal g K) (h : arunDraw E call ops f H = some (g, K)) (id : Nat) : ACode P (.region id ops true) Q f H := by
  unfold arunDraw at h
  cases hord : orderOk ops (bef ops) with
  | false => rw [hord] at h; cases h
  | true =>
    rw [hord, cond_true] at h
    split at h
    · rename_i L g' K' hrun
      obtain ⟨hlen, hst⟩ := arunTr_ok E _ _ _ _ _ _ hrun
      have hgK : g' = g ∧ K' = K := by
        split at h
        · cases h; exact ⟨rfl, rfl⟩
        · rcases cond_some h with h | h
          · cases h; exact ⟨rfl, rfl⟩
          · cases h
      obtain ⟨rfl, rfl⟩ := hgK
      have hlen' : L.length = ops.size := by rw [hlen, Array.length_toList]
      let A := L ++ [(g', K', undef, false)]
      let d : Step := (g', K', undef, false)
      let F := fun i => (A.getD i d).1
      let HH := fun i => (A.getD i d).2.1
      let V := fun i => (A.getD i d).2.2.1
      let M := fun i => (A.getD i d).2.2.2
      have hA : ∀ i, i < ops.size → ∃ s, L[i]? = some s ∧ A.getD i d = s := by
        intro i hi
        refine ⟨L[i]'(by omega), by simp [hlen', hi], ?_⟩
        simp only [A, List.getD_eq_getElem?_getD]
        rw [List.getElem?_append_left (by omega)]
        simp [hlen', hi]
      have hAn : A.getD ops.size d = d := by
        simp only [A, List.getD_eq_getElem?_getD]
        rw [List.getElem?_append_right (by omega)]
        simp [hlen', d]
      have hstep : ∀ i o, ops[i]? = some o → stepOp E call ops o (F i) (HH i) = some (V i, HH (i + 1), M i) ∧ (F i).put o.dst (V i) = some (F (i + 1)) := by
        intro i o ho
        obtain ⟨s, h1, h2⟩ := hA i (alt_of_getElem? ho)
        obtain ⟨s', q1, q2, q3⟩ := hst i o s (by simpa using ho) h1
        have e : A.getD (i + 1) d = s' := by simp only [A, List.getD_eq_getElem?_getD, q1, Option.getD_some]
        simp only [F, HH, V, M, h2, e]
        exact ⟨q2, q3⟩
      have hmm : ∀ i, i < ops.size → (M i = true ↔ i ∈ mainsOf 0 L) := by
        intro i hi
        obtain ⟨s, h1, h2⟩ := hA i hi
        rw [mem_mainsOf]
        simp only [M, h2]
        constructor
        · intro hM; exact ⟨i, s, h1, hM, by omega⟩
        · rintro ⟨j, s', h3, h4, h5⟩
          obtain rfl : j = i := by omega
          rw [h1] at h3; cases h3; exact h4
      have hF0 : F 0 = f ∧ HH 0 = H := by
        by_cases hz : ops.size = 0
        · have hnil : ops.toList = [] := List.eq_nil_of_length_eq_zero (by rw [Array.length_toList]; exact hz)
          rw [hnil] at hrun
          simp [arunTr] at hrun
          obtain ⟨rfl, rfl, rfl⟩ := hrun
          exact ⟨rfl, rfl⟩
        · cases hops : ops.toList with
          | nil => have : ops.toList.length = 0 := by rw [hops]; rfl
                   rw [Array.length_toList] at this; omega
          | cons o r =>
            rw [hops] at hrun
            simp only [arunTr] at hrun
            split at hrun
            · split at hrun
              · split at hrun
                · cases hrun; exact ⟨rfl, rfl⟩
                · cases hrun
              · cases hrun
            · cases hrun
      have still : ∀ i, i < ops.size → M i = false → HH (i + 1) = HH i := by
        intro i hi hM
        have ho : ops[i]? = some ops[i] := Array.getElem?_eq_getElem hi
        rcases stepOp_cases E (hstep i _ ho).1 with ⟨_, _, _, h4⟩ | ⟨_, _, h4, _⟩ | ⟨_, h4, _⟩ | ⟨_, h4, _⟩
        · exact h4
        · exact h4
        · rw [hM] at h4; cases h4
        · rw [hM] at h4; cases h4
      have w0s : ∀ i, i < ops.size → (HH (i + 1)).w0 = (HH i).w0 := by
        intro i hi
        have ho : ops[i]? = some ops[i] := Array.getElem?_eq_getElem hi
        rcases stepOp_cases E (hstep i _ ho).1 with ⟨_, _, _, h4⟩ | ⟨_, _, h4, _⟩ | ⟨_, _, h4⟩ | ⟨_, _, c, args, _, h4⟩
        · rw [h4]
        · rw [h4]
        · exact aop_w0 E h4
        · exact (hcall _ _ _ _ _ h4).1
      have T : Trace E ops F HH V M := by
        refine ⟨⟨hord, fun i o ho => (hstep i o ho).2⟩, fun i o ho => ?_, still, fun i j hij hj hMi hMj => ?_⟩
        · have hi := alt_of_getElem? ho
          rcases stepOp_cases E (hstep i o ho).1 with ⟨h1, h2, h3, h4⟩ | ⟨h1, h2, h3, h4, h5⟩ | ⟨h1, h2, h3⟩ | ⟨h1, h2, c, args, h3, h4⟩
          · exact .inl ⟨h1, h2, h3⟩
          · refine .inr (.inl ⟨h1, h2, fun t ht hb ha => ?_⟩)
            cases hp : isPure E o.op with
            | true => exact pure_any E hp h5 (HH t)
            | false =>
              split at h
              · -- no mains at all
                rename_i hnil
                have hno : ∀ j, j < ops.size → M j = false := by
                  intro j hj
                  cases hMj : M j with
                  | false => rfl
                  | true => have := (hmm j hj).1 hMj; rw [hnil] at this; cases this
                have hconst : ∀ k, k ≤ ops.size → HH k = HH 0 := by
                  intro k
                  induction k with
                  | zero => intro _; rfl
                  | succ k ihk => intro hk; rw [still k (by omega) (hno k (by omega))]; exact ihk (by omega)
                rw [hconst t ht, ← hconst i (by omega)]; exact h5
              · rename_i m r hms
                cases hck : (pairsOk (bef ops) (m :: r) && quietOk E ops (bef ops) (m :: r) ((0, H) :: heapsOf L K' (m :: r)) 0 L) with
                | false => rw [hck] at h; cases h
                | true =>
                  simp only [Bool.and_eq_true] at hck
                  obtain ⟨s, hs1, hs2⟩ := hA i hi
                  have hF : F i = s.1 := by simp only [F, hs2]
                  have hV : V i = s.2.2.1 := by simp only [V, hs2]
                  have hM : M i = s.2.2.2 := by simp only [M, hs2]
                  have hq := quietOk_at E L 0 hck.2 i s o hs1 (by rw [Nat.zero_add]; exact ho) (by rw [← hM]; exact h2) hp (by rw [← hF]; exact h1)
                  rw [Nat.zero_add] at hq
                  -- the heap at t is one of those that were tried
                  have hrep : ∃ t', t' ≤ t ∧ HH t' = HH t ∧ (t', HH t') ∈ ((0, H) :: heapsOf L K' (m :: r)) ∧ (∀ j, j < ops.size → M j = true → j < t → j < t') := by
                    clear hb ha
                    induction t with
                    | zero => exact ⟨0, Nat.le_refl _, rfl, by rw [hF0.2]; exact List.mem_cons_self .., fun j _ _ h => h⟩
                    | succ t iht =>
                      cases hMt : M t with
                      | true =>
                        refine ⟨t + 1, Nat.le_refl _, rfl, List.mem_cons_of_mem _ ?_, fun j _ _ h => h⟩
                        have hin := (hmm t (by omega)).1 hMt
                        rw [hms] at hin
                        have := mem_heapsOf (L := L) (last := K') hin
                        have e : HH (t + 1) = (match L[t + 1]? with | some s => s.2.1 | none => K') := by
                          by_cases hlt : t + 1 < ops.size
                          · obtain ⟨s2, q1, q2⟩ := hA (t + 1) hlt
                            simp only [HH, q2, q1]
                          · have he : t + 1 = ops.size := by omega
                            have : L[t + 1]? = none := List.getElem?_eq_none (by omega)
                            simp only [HH, he, hAn, d]
                            rw [← he, this]
                        rw [e]; exact this
                      | false =>
                        obtain ⟨t', r1, r2, r3, r4⟩ := iht (by omega)
                        refine ⟨t', by omega, by rw [r2, still t (by omega) hMt], r3, fun j hj hMj hjt => ?_⟩
                        by_cases e : j = t
                        · subst e; rw [hMt] at hMj; cases hMj
                        · exact r4 j hj hMj (by omega)
                  obtain ⟨t', r1, r2, r3, r4⟩ := hrep
                  have hqa := hq _ r3
                  simp only [quietAt, Bool.or_eq_true, List.any_eq_true, Bool.and_eq_true, Bool.not_eq_true'] at hqa
                  rcases hqa with ⟨j, hj, hbit, hge⟩ | ⟨j, hj, hbit, hlt⟩ | hval
                  · exfalso
                    rw [← hms] at hj
                    obtain ⟨ii, ss, q1, q2, rfl⟩ := (mem_mainsOf L 0 j).1 hj
                    have hjlt : 0 + ii < ops.size := by have := lt_of_getElem? q1; omega
                    have hMj := (hmm _ hjlt).2 hj
                    have := r4 _ hjlt hMj (hb _ hjlt hMj hbit)
                    have hlt' : Nat.blt (0 + ii) t' = true := by simp only [Nat.blt, Nat.ble_eq]; omega
                    rw [hlt'] at hge; cases hge
                  · exfalso
                    rw [← hms] at hj
                    obtain ⟨ii, ss, q1, q2, rfl⟩ := (mem_mainsOf L 0 j).1 hj
                    have hjlt : 0 + ii < ops.size := by have := lt_of_getElem? q1; omega
                    have hMj := (hmm _ hjlt).2 hj
                    have := ha _ hjlt hMj hbit
                    simp only [Nat.blt, Nat.ble_eq] at hlt
                    omega
                  · rw [← r2]
                    split at hval
                    · rename_i u K2 hu
                      have e1 := veq_eq hval
                      have e2 := quiet_heap E h4 hu
                      rw [hF, hV, hu, e1, e2]
                    · cases hval
          · exact .inr (.inr (.inl ⟨h1, h2, h3⟩))
          · exact .inr (.inr (.inr ⟨h1, h2, c, args, h3, (hcall _ _ _ _ _ h4).2⟩))
        · -- mains
          have hi : i < ops.size := by omega
          have m1 := (hmm i hi).1 hMi
          have m2 := (hmm j hj).1 hMj
          split at h
          · rename_i hnil; rw [hnil] at m1; cases m1
          · rename_i m r hms
            cases hck : (pairsOk (bef ops) (m :: r) && quietOk E ops (bef ops) (m :: r) ((0, H) :: heapsOf L K' (m :: r)) 0 L) with
            | false => rw [hck] at h; cases h
            | true =>
              simp only [Bool.and_eq_true] at hck
              rw [hms] at m1 m2
              have hsorted := mainsOf_sorted L 0
              rw [hms] at hsorted
              exact pairsOk_bit hck.1 hsorted i j m1 m2 hij
      have := T.region hm w0s (Q := Q) (by simp only [F, HH, hAn]; exact hQ) id
      rw [hF0.1, hF0.2] at this
      exact this
    · cases h
end
end Go.AM
