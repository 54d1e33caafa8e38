/-
  The abstract machine, part 15: exact outcomes: code that comes to one exit, one frame, one heap.
-/
import Derived.Test.YtpfgpjopjadmiaaGreatDoorAM14
set_option linter.unusedVariables false
set_option linter.unusedSimpArgs false
noncomputable section
namespace Go.AM
open Go.RowKit

section
variable {P : Program} {Q : AQ} {f : Fr} {H : AH}

/-- the code comes to one exit, one frame, one heap, of which Q holds -/
def XC (P : Program) (c : Code) (Q : AQ) (f : Fr) (H : AH) : Prop := ∃ e g K, Q e g K ∧ Says P c e g K f H

def thenK (P : Program) (y : Code) (Q : AQ) : AQ := fun e f H => (e = .normal ∧ XC P y Q f H) ∨ (e ≠ .normal ∧ Q e f H)
def blockK (i : Nat) (Q : AQ) : AQ := fun e f H => match e with
  | .exit j => if j = i then Q .normal f H else Q (.exit j) f H
  | e => Q e f H

theorem XC.mono {c : Code} {Q' : AQ} (h : XC P c Q f H) (hq : ∀ e f H, Q e f H → Q' e f H) : XC P c Q' f H := by
  obtain ⟨e, g, K, h1, h2⟩ := h
  exact ⟨e, g, K, hq _ _ _ h1, h2⟩
theorem XC.skip (h : Q .normal f H) : XC P .skip Q f H := ⟨_, _, _, h, rfl, ACode.skip ⟨rfl, rfl, rfl⟩⟩
theorem XC.label {l : Nat} (h : Q .normal f H) : XC P (.label l) Q f H := ⟨_, _, _, h, rfl, ACode.label ⟨rfl, rfl, rfl⟩⟩
theorem XC.exit {i : Nat} (h : Q (.exit i) f H) : XC P (.exit i) Q f H := ⟨_, _, _, h, rfl, ACode.exit ⟨rfl, rfl, rfl⟩⟩
theorem XC.ret (h : Q .ret f H) : XC P .ret Q f H := ⟨_, _, _, h, rfl, ACode.ret ⟨rfl, rfl, rfl⟩⟩
theorem XC.seq {x y : Code} (h : XC P x (thenK P y Q) f H) : XC P (.seq x y) Q f H := by
  obtain ⟨e, g, K, hk, w1, c1⟩ := h
  rcases hk with ⟨rfl, e2, g2, K2, q2, w2, c2⟩ | ⟨hne, hq⟩
  · refine ⟨e2, g2, K2, q2, w2.trans w1, ACode.seq c1 ?_ ?_⟩
    · rintro f' H' ⟨_, rfl, rfl⟩; exact c2
    · rintro e' f' H' hne ⟨rfl, _⟩; exact absurd rfl hne
  · refine ⟨e, g, K, hq, w1, ACode.seq c1 ?_ ?_⟩
    · rintro f' H' ⟨e0, _⟩; exact absurd e0.symm hne
    · rintro e' f' H' _ k; exact k
theorem XC.cond {c : Operand} {x y : Code} {b : Bool} (hc : aval f c = .bool b) (h : XC P (if b then x else y) Q f H) : XC P (.cond c x y) Q f H := by
  obtain ⟨e, g, K, hk, w1, c1⟩ := h
  exact ⟨e, g, K, hk, w1, ACode.cond hc c1⟩
theorem XC.block {i : Nat} {c : Code} (h : XC P c (blockK i Q) f H) : XC P (.block i c) Q f H := by
  obtain ⟨e, g, K, hk, w1, c1⟩ := h
  cases e with
  | exit j =>
    simp only [blockK] at hk
    by_cases hj : j = i
    · rw [if_pos hj] at hk
      refine ⟨.normal, g, K, hk, w1, ACode.block (c1.mono ?_)⟩
      rintro e' f' H' ⟨rfl, rfl, rfl⟩
      simp only [hj, if_true]
      exact ⟨trivial, trivial, trivial⟩
    · rw [if_neg hj] at hk
      refine ⟨.exit j, g, K, hk, w1, ACode.block (c1.mono ?_)⟩
      rintro e' f' H' ⟨rfl, rfl, rfl⟩
      simp only [hj, if_false]
      exact ⟨trivial, trivial, trivial⟩
  | _ =>
    refine ⟨_, g, K, hk, w1, ACode.block (c1.mono ?_)⟩
    rintro e' f' H' ⟨rfl, rfl, rfl⟩
    exact ⟨rfl, rfl, rfl⟩

/-- rounds of a loop -/
inductive Chain (P : Program) (c : Code) (e : Exit) (g : Fr) (K : AH) : Nat → Fr → AH → Prop
  | last {f : Fr} {H : AH} (hn : e ≠ .normal) (h : Says P c e g K f H) : Chain P c e g K 0 f H
  | next {f f1 : Fr} {H H1 : AH} {n : Nat} (h : Says P c .normal f1 H1 f H) (r : Chain P c e g K n f1 H1) : Chain P c e g K (n + 1) f H

theorem Chain.says {c : Code} {e : Exit} {g : Fr} {K : AH} {n : Nat} (h : Chain P c e g K n f H) : Says P (.loop c) e g K f H := by
  have hw : K.w0 = H.w0 := by
    induction h with
    | last hn h => exact h.1
    | next h r ih => exact ih.trans h.1
  refine ⟨hw, loopn (Chain P c e g K) n h ?_⟩
  intro k f H hI K' hn ho
  cases hI with
  | last hne h =>
    refine h.2.mono ?_
    rintro e' g' H' ⟨rfl, rfl, rfl⟩
    exact ho _ _ _ hne ⟨rfl, rfl, rfl⟩
  | next h r =>
    refine h.2.mono ?_
    rintro e' g' H' ⟨rfl, rfl, rfl⟩
    exact hn _ _ _ (Nat.lt_succ_self _) r

theorem XC.loop {c : Code} {σ : Type} (μ : σ → Nat) (I : σ → Fr → AH → Prop)
    (round : ∀ s f H, I s f H → XC P c (fun e f' H' => (e = .normal ∧ ∃ s', μ s' < μ s ∧ I s' f' H') ∨ (e ≠ .normal ∧ Q e f' H')) f H) (s : σ) (h0 : I s f H) : XC P (.loop c) Q f H := by
  have key : ∀ m s f H, μ s = m → I s f H → ∃ e g K n, Q e g K ∧ Chain P c e g K n f H := by
    intro m
    induction m using Nat.strongRecOn with
    | _ m ih =>
      intro s f H hm hI
      obtain ⟨e, g, K, hk, hs⟩ := round s f H hI
      rcases hk with ⟨rfl, s', hlt, hI'⟩ | ⟨hne, hq⟩
      · obtain ⟨e2, g2, K2, n, q, ch⟩ := ih _ (hm ▸ hlt) s' g K rfl hI'
        exact ⟨e2, g2, K2, n + 1, q, .next hs ch⟩
      · exact ⟨e, g, K, 0, hq, .last hne hs⟩
  obtain ⟨e, g, K, n, hq, ch⟩ := key _ s f H rfl h0
  exact ⟨e, g, K, hq, ch.says⟩
end

/-! ### regions -/
def ordAll (bs ms : List Nat) (i : Nat) : Bool := ms.all fun j => (Nat.blt j i && (bs.getD i 0).testBit j) || (Nat.blt i j && (bs.getD j 0).testBit i)

section
variable {P : Program} (E : Env P) (D : Bool) (ops : Array Oper) (ms : List Nat) (W : AH → Prop)

/-- what one operation comes to -/
def SD (i : Nat) (o : Oper) (f : Fr) (H : AH) (v : Value) (H' : AH) (m : Bool) : Prop :=
  (awanted ops (sval f) o = false ∧ v = undef ∧ m = false ∧ H' = H) ∨
  (awanted ops (sval f) o = true ∧ m = false ∧ H' = H ∧ (isQuiet E o.op = true ∧ aop E (aval f) o.op H = some (v, H)) ∧ (D = true → (isPure E o.op = true ∨ ordAll (bef ops) ms i = true ∨ ∀ H', W H' → aop E (aval f) o.op H' = some (v, H')))) ∨
  (awanted ops (sval f) o = true ∧ m = true ∧ (D = true → i ∈ ms ∧ W H') ∧ aop E (aval f) o.op H = some (v, H')) ∨
  (awanted ops (sval f) o = true ∧ m = true ∧ (D = true → i ∈ ms ∧ W H') ∧ H'.w0 = H.w0 ∧ ∃ g args, acallee E (aval f) o.op = some (g, args) ∧ ACalls P g args H fun u K => u = v ∧ K = H')

inductive RunD : Nat → List Oper → Fr → AH → List Step → Fr → AH → Prop
  | nil {i : Nat} {f : Fr} {H : AH} : RunD i [] f H [] f H
  | cons {i : Nat} {o : Oper} {l : List Oper} {f f' g : Fr} {H H' K : AH} {v : Value} {m : Bool} {L : List Step} (hs : SD E D ops ms W i o f H v H' m) (hp : f.put o.dst v = some f') (r : RunD (i + 1) l f' H' L g K) : RunD i (o :: l) f H ((f, H, v, m) :: L) g K

variable {E D ops ms W}
theorem RunD.w0 {i : Nat} {l : List Oper} {f g : Fr} {H K : AH} {L : List Step} (h : RunD E D ops ms W i l f H L g K) : K.w0 = H.w0 := by
  induction h with
  | nil => rfl
  | cons hs hp r ih =>
    rw [ih]
    rcases hs with ⟨_, _, _, rfl⟩ | ⟨_, _, rfl, _⟩ | ⟨_, _, _, h⟩ | ⟨_, _, _, h, _⟩
    · rfl
    · rfl
    · exact aop_w0 E h
    · exact h

theorem RunD.opsOk {i : Nat} {l : List Oper} {f g : Fr} {H K : AH} {L : List Step} (h : RunD E D ops ms W i l f H L g K) (hl : ∀ j, l[j]? = ops[i + j]?) {Q : AQ} (hQ : Q .normal g K) : AOps P ops (List.range' i l.length) Q f H := by
  induction h with
  | nil => exact AOps.nil hQ
  | @cons i o l f f' g H H' K v m L hs hp r ih =>
    have ho : ops[i]? = some o := by have := hl 0; simpa using this.symm
    have hr := ih (fun j => by have := hl (j + 1); simp only [List.getElem?_cons_succ] at this; rw [this]; congr 1; omega) hQ
    rw [List.length_cons, List.range'_succ]
    rcases hs with ⟨h1, rfl, _, rfl⟩ | ⟨h1, _, rfl, ⟨_, h2⟩, _⟩ | ⟨h1, _, _, h2⟩ | ⟨h1, _, _, _, c, args, h2, h3⟩
    · exact AOps.skip ho h1 hp hr
    · exact AOps.op E ho h1 h2 hp hr
    · exact AOps.op E ho h1 h2 hp hr
    · refine AOps.call E ho h1 h2 (h3.mono ?_)
      rintro u K' ⟨rfl, rfl⟩
      exact ⟨f', hp, hr⟩

theorem RunD.region {f g : Fr} {H K : AH} {L : List Step} (h : RunD E D ops ms W 0 ops.toList f H L g K) (id : Nat) : Says P (.region id ops false) .normal g K f H := by
  refine ⟨h.w0, ACode.region ?_⟩
  have := h.opsOk (fun j => by simp) (Q := fun e' g' K' => e' = .normal ∧ g' = g ∧ K' = K) ⟨rfl, rfl, rfl⟩
  rw [Array.length_toList, ← List.range_eq_range'] at this
  exact this

theorem RunD.at {i : Nat} {l : List Oper} {f g : Fr} {H K : AH} {L : List Step} (h : RunD E D ops ms W i l f H L g K) :
    L.length = l.length ∧ (∃ s, (L ++ [(g, K, undef, false)])[0]? = some s ∧ s.1 = f ∧ s.2.1 = H) ∧
    ∀ (j : Nat) (o : Oper) (s : Step), l[j]? = some o → L[j]? = some s → ∃ s', (L ++ [(g, K, undef, false)])[j + 1]? = some s' ∧ SD E D ops ms W (i + j) o s.1 s.2.1 s.2.2.1 s'.2.1 s.2.2.2 ∧ s.1.put o.dst s.2.2.1 = some s'.1 := by
  induction h with
  | nil => exact ⟨rfl, ⟨_, rfl, rfl, rfl⟩, fun j o s h => by simp at h⟩
  | @cons i o l f f' g H H' K v m L hs hp r ih =>
    obtain ⟨h1, ⟨s1, hh1, hh2, hh3⟩, h2⟩ := ih
    refine ⟨by simp [h1], ⟨_, rfl, rfl, rfl⟩, fun j o' s hj hs' => ?_⟩
    cases j with
    | zero =>
      simp at hj hs'
      subst hj; subst hs'
      refine ⟨s1, by simpa using hh1, ?_, by rw [hh2]; exact hp⟩
      rw [hh3, Nat.add_zero]; exact hs
    | succ j =>
      simp at hj hs'
      obtain ⟨s2, q1, q2, q3⟩ := h2 j o' s hj hs'
      exact ⟨s2, by simpa using q1, by rw [show i + (j + 1) = i + 1 + j by omega]; exact q2, q3⟩

theorem pairsOk_mem {bs : List Nat} : ∀ {ms : List Nat}, pairsOk bs ms = true → ms.Pairwise (· < ·) → ∀ i j, i ∈ ms → j ∈ ms → i < j → (bs.getD j 0).testBit i = true := pairsOk_bit

theorem RunD.draw {f g : Fr} {H K : AH} {L : List Step} (h : RunD E true ops ms W 0 ops.toList f H L g K) (hm : P.follows .mixedOrders = true) (hord : orderOk ops (bef ops) = true) (hpairs : pairsOk (bef ops) ms = true) (hsorted : ms.Pairwise (· < ·)) (hW : W H) (id : Nat) :
    Says P (.region id ops true) .normal g K f H := by
  refine ⟨h.w0, ?_⟩
  obtain ⟨hlen, ⟨s0, hs0, hs0f, hs0H⟩, hst⟩ := h.at
  have hlen' : L.length = ops.size := by rw [hlen, Array.length_toList]
  let A := L ++ [(g, K, undef, false)]
  let d : Step := (g, K, undef, false)
  let F := fun i => (A.getD i d).1
  let HH := fun i => (A.getD i d).2.1
  let V := fun i => (A.getD i d).2.2.1
  let M := fun i => (A.getD i d).2.2.2
  have hA : ∀ i, i < ops.size → ∃ s, L[i]? = some s ∧ A.getD i d = s := by
    intro i hi
    refine ⟨L[i]'(by omega), by simp [hlen', hi], ?_⟩
    simp only [A, List.getD_eq_getElem?_getD]
    rw [List.getElem?_append_left (by omega)]
    simp [hlen', hi]
  have hAn : A.getD ops.size d = d := by
    simp only [A, List.getD_eq_getElem?_getD]
    rw [List.getElem?_append_right (by omega)]
    simp [hlen', d]
  have hstep : ∀ i o, ops[i]? = some o → SD E true ops ms W i o (F i) (HH i) (V i) (HH (i + 1)) (M i) ∧ (F i).put o.dst (V i) = some (F (i + 1)) := by
    intro i o ho
    obtain ⟨s, h1, h2⟩ := hA i (alt_of_getElem? ho)
    obtain ⟨s', q1, q2, q3⟩ := hst i o s (by simpa using ho) h1
    have e : A.getD (i + 1) d = s' := by simp only [A, List.getD_eq_getElem?_getD, q1, Option.getD_some]
    simp only [F, HH, V, M, h2, e]
    rw [Nat.zero_add] at q2
    exact ⟨q2, q3⟩
  have hF0 : F 0 = f ∧ HH 0 = H := by
    have e : A.getD 0 d = s0 := by simp only [A, List.getD_eq_getElem?_getD, hs0, Option.getD_some]
    simp only [F, HH, e]
    exact ⟨hs0f, hs0H⟩
  have still : ∀ i, i < ops.size → M i = false → HH (i + 1) = HH i := by
    intro i hi hM
    have ho : ops[i]? = some ops[i] := Array.getElem?_eq_getElem hi
    rcases (hstep i _ ho).1 with ⟨_, _, _, h4⟩ | ⟨_, _, h4, _⟩ | ⟨_, h4, _⟩ | ⟨_, h4, _⟩
    · exact h4
    · exact h4
    · rw [hM] at h4; cases h4
    · rw [hM] at h4; cases h4
  have w0s : ∀ i, i < ops.size → (HH (i + 1)).w0 = (HH i).w0 := by
    intro i hi
    have ho : ops[i]? = some ops[i] := Array.getElem?_eq_getElem hi
    rcases (hstep i _ ho).1 with ⟨_, _, _, h4⟩ | ⟨_, _, h4, _⟩ | ⟨_, _, _, h4⟩ | ⟨_, _, _, h4, _⟩
    · rw [h4]
    · rw [h4]
    · exact aop_w0 E h4
    · exact h4
  have mainW : ∀ i, i < ops.size → M i = true → i ∈ ms ∧ W (HH (i + 1)) := by
    intro i hi hM
    have ho : ops[i]? = some ops[i] := Array.getElem?_eq_getElem hi
    rcases (hstep i _ ho).1 with ⟨_, _, h4, _⟩ | ⟨_, h4, _⟩ | ⟨_, _, h4, _⟩ | ⟨_, _, h4, _⟩
    · rw [hM] at h4; cases h4
    · rw [hM] at h4; cases h4
    · exact h4 rfl
    · exact h4 rfl
  have allW : ∀ t, t ≤ ops.size → W (HH t) := by
    intro t
    induction t with
    | zero => intro _; rw [hF0.2]; exact hW
    | succ t ih =>
      intro ht
      cases hMt : M t with
      | true => exact (mainW t (by omega) hMt).2
      | false => rw [still t (by omega) hMt]; exact ih (by omega)
  have between : ∀ n a, a + n ≤ ops.size → (∀ j, a ≤ j → j < a + n → M j = false) → HH (a + n) = HH a := by
    intro n
    induction n with
    | zero => intro a _ _; rfl
    | succ n ih =>
      intro a ha hno
      rw [show a + (n + 1) = a + n + 1 by omega, still (a + n) (by omega) (hno _ (by omega) (by omega))]
      exact ih a (by omega) (fun j h1 h2 => hno j h1 (by omega))
  have T : Trace E ops F HH V M := by
    refine ⟨⟨hord, fun i o ho => (hstep i o ho).2⟩, fun i o ho => ?_, still, fun i j hij hj hMi hMj => ?_⟩
    · have hi := alt_of_getElem? ho
      rcases (hstep i o ho).1 with ⟨h1, h2, h3, h4⟩ | ⟨h1, h2, h3, ⟨_, h4⟩, h5⟩ | ⟨h1, h2, h3, h4⟩ | ⟨h1, h2, _, _, c, args, h3, h4⟩
      · exact .inl ⟨h1, h2, h3⟩
      · refine .inr (.inl ⟨h1, h2, fun t ht hb ha => ?_⟩)
        rcases h5 rfl with hp | hp | hp
        · exact pure_any E hp h4 (HH t)
        · have hcmp : ∀ j, j < ops.size → M j = true → (j < t ↔ j < i) := by
            intro j hj hMj
            have hjm := (mainW j hj hMj).1
            simp only [ordAll, List.all_eq_true] at hp
            have := hp j hjm
            simp only [Bool.or_eq_true, Bool.and_eq_true, Nat.blt, Nat.ble_eq] at this
            rcases this with ⟨q1, q2⟩ | ⟨q1, q2⟩
            · exact ⟨fun _ => q1, fun _ => hb j hj hMj q2⟩
            · have := ha j hj hMj q2
              constructor <;> intro <;> omega
          have : HH t = HH i := by
            rcases Nat.le_total t i with hle | hle
            · have e := between (i - t) t (by omega) (fun j h1 h2 => by
                cases hMj : M j with
                | false => rfl
                | true => have := (hcmp j (by omega) hMj).2 (by omega); omega)
              rw [show t + (i - t) = i by omega] at e; exact e.symm
            · have e := between (t - i) i (by omega) (fun j h1 h2 => by
                cases hMj : M j with
                | false => rfl
                | true => have := (hcmp j (by omega) hMj).1 (by omega); omega)
              rw [show i + (t - i) = t by omega] at e; exact e
          rw [this]; exact h4
        · exact hp _ (allW t ht)
      · exact .inr (.inr (.inl ⟨h1, h2, h4⟩))
      · exact .inr (.inr (.inr ⟨h1, h2, c, args, h3, h4⟩))
    · exact pairsOk_bit hpairs hsorted i j (mainW i (by omega) hMi).1 (mainW j hj hMj).1 hij
  have := T.region hm w0s (Q := fun e' g' K' => e' = .normal ∧ g' = g ∧ K' = K) (by simp only [F, HH, hAn]; exact ⟨trivial, rfl, rfl⟩) id
  rw [hF0.1, hF0.2] at this
  exact this
end

/-- a call that comes to one value and one heap -/
def XCall (P : Program) (g : FuncId) (args : List Value) (H : AH) (R : Value → AH → Prop) : Prop := ∃ v H', R v H' ∧ H'.w0 = H.w0 ∧ ACalls P g args H fun u K => u = v ∧ K = H'

theorem XCall.mono {P : Program} {g : FuncId} {args : List Value} {H : AH} {R R' : Value → AH → Prop} (h : XCall P g args H R) (hr : ∀ v H', H'.w0 = H.w0 → R v H' → R' v H') : XCall P g args H R' := by
  obtain ⟨v, H', h1, h2, h3⟩ := h
  exact ⟨v, H', hr _ _ h2 h1, h2, h3⟩
theorem XCall.calls {P : Program} {g : FuncId} {args : List Value} {H : AH} {R : Value → AH → Prop} (h : XCall P g args H R) : ACalls P g args H R := by
  obtain ⟨v, H', h1, h2, h3⟩ := h
  refine h3.mono ?_
  rintro u K ⟨rfl, rfl⟩
  exact h1

/-- what is left of a body -/
def retK {P : Program} (E : Env P) (rs : List ResultVar) (R : Value → AH → Prop) : AQ := fun e f H => (e = .normal ∨ e = .ret) ∧ ∃ vs, aresults E f H rs = some vs ∧ R (tupleUp vs) H

theorem XCall.body {P : Program} (E : Env P) {g : FuncId} {x : AFn} (hg : E.fn g = some x) {args : List Value} {H : AH} {R : Value → AH → Prop} (h : XC P x.body (retK E x.results R) (mkFr args x.ntmps) H) : XCall P g args H R := by
  obtain ⟨e, f, K, ⟨h1, vs, h2, h3⟩, h4, h5⟩ := h
  refine ⟨tupleUp vs, K, h3, h4, ACalls.body E hg (h5.mono ?_)⟩
  rintro e' f' K' ⟨rfl, rfl, rfl⟩
  exact ⟨h1, vs, h2, rfl, rfl⟩

/-- a closed run, or any run of the machine -/
theorem XCall.run {P : Program} (E : Env P) (hm : P.follows .mixedOrders = true) {g : FuncId} {args : List Value} {H H' : AH} {v : Value} (n : Nat) (h : acall E n g args H = some (v, H')) {R : Value → AH → Prop} (hR : R v H') : XCall P g args H R :=
  ⟨v, H', hR, (acall_ok E hm n _ _ _ _ _ h).1, (acall_ok E hm n _ _ _ _ _ h).2⟩

end Go.AM
