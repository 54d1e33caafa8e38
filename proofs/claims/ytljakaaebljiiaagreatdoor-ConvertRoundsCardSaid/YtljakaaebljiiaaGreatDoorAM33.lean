/-
  The abstract machine, part 33: a drawn region whose last operation stands behind all others: what it turns may have been read before.
-/
import Derived.Test.YtljakaaebljiiaaGreatDoorAM29
set_option linter.unusedVariables false
set_option linter.unusedSimpArgs false
noncomputable section
namespace Go.AM
open Go.RowKit

section
variable {P : Program} {E : Env P} {ops : Array Oper} {ms : List Nat} {W W' : AH → Prop}

theorem RunD.drawZ {m : Nat} {o : Oper} {f g1 g : Fr} {H K1 K : AH} {L1 L2 : List Step} (h1 : RunD E true ops ms W 0 (ops.toList.take m) f H L1 g1 K1) (h2 : RunD E false ops [] W' m [o] g1 K1 L2 g K) (ho : ops.toList.drop m = [o])
    (hq : isQuiet E o.op = false) (hgd : o.guard = none) (hall : ((List.range m).all fun i => ((bef ops).getD m 0).testBit i) = true) (hm : P.follows .mixedOrders = true) (hord : orderOk ops (bef ops) = true) (hpairs : pairsOk (bef ops) ms = true) (hsorted : ms.Pairwise (· < ·)) (hW : W H) (id : Nat) :
    Says P (.region id ops true) .normal g K f H := by
  have hsz : ops.size = m + 1 := by
    have := congrArg List.length ho
    rw [List.length_drop, Array.length_toList, List.length_singleton] at this
    omega
  have hom : ops[m]? = some o := by
    have : (ops.toList.drop m)[0]? = some o := by rw [ho]; rfl
    rw [List.getElem?_drop, Nat.add_zero, Array.getElem?_toList] at this
    exact this
  obtain ⟨v, hp, hz⟩ : ∃ v, g1.put o.dst v = some g ∧ (aop E (aval g1) o.op K1 = some (v, K) ∨ (K.w0 = K1.w0 ∧ ∃ c args, acallee E (aval g1) o.op = some (c, args) ∧ ACalls P c args K1 fun u K' => u = v ∧ K' = K)) := by
    cases h2 with
    | cons hs hp r =>
      cases r
      have haw : awanted ops (sval g1) o = true := by unfold awanted; rw [hgd]
      rcases hs with ⟨q, _⟩ | ⟨_, _, _, ⟨q, _⟩, _⟩ | ⟨_, _, _, q⟩ | ⟨_, _, _, q0, q⟩
      · rw [haw] at q; cases q
      · rw [hq] at q; cases q
      · exact ⟨_, hp, .inl q⟩
      · exact ⟨_, hp, .inr ⟨q0, q⟩⟩
  have haw : awanted ops (sval g1) o = true := by unfold awanted; rw [hgd]
  have hw1 := h1.w0
  have hw2 : K.w0 = K1.w0 := by
    rcases hz with q | ⟨q, _⟩
    · exact aop_w0 E q
    · exact q
  refine ⟨hw2.trans hw1, ?_⟩
  obtain ⟨hlen, ⟨s0, hs0, hs0f, hs0H⟩, hst⟩ := h1.at
  have hlen' : L1.length = m := by rw [hlen, List.length_take, Array.length_toList, hsz]; omega
  let A : List Step := L1 ++ [(g1, K1, v, true), (g, K, undef, false)]
  let d : Step := (g, K, undef, false)
  let F := fun i => (A.getD i d).1
  let HH := fun i => (A.getD i d).2.1
  let V := fun i => (A.getD i d).2.2.1
  let M := fun i => (A.getD i d).2.2.2
  have hA1 : A.getD m d = (g1, K1, v, true) := by
    simp only [A, List.getD_eq_getElem?_getD]
    rw [List.getElem?_append_right (by omega), hlen', Nat.sub_self]; rfl
  have hA2 : A.getD (m + 1) d = (g, K, undef, false) := by
    simp only [A, List.getD_eq_getElem?_getD]
    rw [List.getElem?_append_right (by omega), hlen', show m + 1 - m = 1 by omega]; rfl
  have hA : ∀ i, i < m → ∃ s, L1[i]? = some s ∧ A.getD i d = s := by
    intro i hi
    refine ⟨L1[i]'(by omega), by simp [hlen', hi], ?_⟩
    simp only [A, List.getD_eq_getElem?_getD]
    rw [List.getElem?_append_left (by omega)]
    simp [hlen', hi]
  have hnext : ∀ i s', (L1 ++ [(g1, K1, undef, false)])[i]? = some s' → (A.getD i d).1 = s'.1 ∧ (A.getD i d).2.1 = s'.2.1 := by
    intro i s' hs
    by_cases hi : i < m
    · rw [List.getElem?_append_left (by omega)] at hs
      obtain ⟨s, q1, q2⟩ := hA i hi
      rw [q1] at hs; cases hs
      rw [q2]; exact ⟨rfl, rfl⟩
    · rw [List.getElem?_append_right (by omega), hlen'] at hs
      have : i = m := by
        have := lt_of_getElem? hs
        simp at this; omega
      subst this
      rw [Nat.sub_self] at hs
      simp at hs
      rw [hA1, ← hs]; exact ⟨rfl, rfl⟩
  have hstep : ∀ i o', i < m → ops[i]? = some o' → SD E true ops ms W i o' (F i) (HH i) (V i) (HH (i + 1)) (M i) ∧ (F i).put o'.dst (V i) = some (F (i + 1)) := by
    intro i o' hi ho'
    obtain ⟨s, q1, q2⟩ := hA i hi
    obtain ⟨s', r1, r2, r3⟩ := hst i o' s (by rw [List.getElem?_take, if_pos hi]; simpa using ho') q1
    obtain ⟨e1, e2⟩ := hnext _ _ r1
    simp only [F, HH, V, M, q2, e1, e2]
    rw [Nat.zero_add] at r2
    exact ⟨r2, r3⟩
  have hF0 : F 0 = f ∧ HH 0 = H := by
    obtain ⟨e1, e2⟩ := hnext 0 s0 hs0
    simp only [F, HH, e1, e2]
    exact ⟨hs0f, hs0H⟩
  have hMm : M m = true := by simp only [M, hA1]
  have hbm : ∀ i, i < m → ((bef ops).getD m 0).testBit i = true := by
    intro i hi
    rw [List.all_eq_true] at hall
    exact hall i (List.mem_range.2 hi)
  have lt_of : ∀ i, i < ops.size → i ≠ m → i < m := by intro i h1 h2; omega
  have ops_at : ∀ i (hi : i < m), ops[i]? = some (ops[i]'(by omega)) := fun i hi => Array.getElem?_eq_getElem (by omega)
  have still : ∀ i, i < ops.size → M i = false → HH (i + 1) = HH i := by
    intro i hi hM
    have hi' : i < m := lt_of i hi (fun e => by rw [e, hMm] at hM; cases hM)
    rcases (hstep i _ hi' (ops_at i hi')).1 with ⟨_, _, _, h4⟩ | ⟨_, _, h4, _⟩ | ⟨_, h4, _⟩ | ⟨_, h4, _⟩
    · exact h4
    · exact h4
    · rw [hM] at h4; cases h4
    · rw [hM] at h4; cases h4
  have w0s : ∀ i, i < ops.size → (HH (i + 1)).w0 = (HH i).w0 := by
    intro i hi
    by_cases e : i = m
    · subst e
      simp only [HH, hA1, hA2]; exact hw2
    · have hi' := lt_of i hi e
      rcases (hstep i _ hi' (ops_at i hi')).1 with ⟨_, _, _, h4⟩ | ⟨_, _, h4, _⟩ | ⟨_, _, _, h4⟩ | ⟨_, _, _, h4, _⟩
      · rw [h4]
      · rw [h4]
      · exact aop_w0 E h4
      · exact h4
  have mainW : ∀ i, i < m → M i = true → i ∈ ms ∧ W (HH (i + 1)) := by
    intro i hi hM
    rcases (hstep i _ hi (ops_at i hi)).1 with ⟨_, _, h4, _⟩ | ⟨_, h4, _⟩ | ⟨_, _, h4, _⟩ | ⟨_, _, h4, _⟩
    · rw [hM] at h4; cases h4
    · rw [hM] at h4; cases h4
    · exact h4 rfl
    · exact h4 rfl
  have allW : ∀ t, t ≤ m → W (HH t) := by
    intro t
    induction t with
    | zero => intro _; rw [hF0.2]; exact hW
    | succ t ih =>
      intro ht
      cases hMt : M t with
      | true => exact (mainW t (by omega) hMt).2
      | false => rw [still t (by omega) hMt]; exact ih (by omega)
  have between : ∀ n a, a + n ≤ ops.size → (∀ j, a ≤ j → j < a + n → M j = false) → HH (a + n) = HH a := by
    intro n
    induction n with
    | zero => intro a _ _; rfl
    | succ n ih =>
      intro a ha hno
      rw [show a + (n + 1) = a + n + 1 by omega, still (a + n) (by omega) (hno _ (by omega) (by omega))]
      exact ih a (by omega) (fun j h1 h2 => hno j h1 (by omega))
  have T : Trace E ops F HH V M := by
    refine ⟨⟨hord, fun i o' ho' => ?_⟩, fun i o' ho' => ?_, still, fun i j hij hj hMi hMj => ?_⟩
    · by_cases e : i = m
      · subst e
        rw [hom] at ho'; cases ho'
        simp only [F, V, hA1, hA2]; exact hp
      · exact (hstep i o' (lt_of i (alt_of_getElem? ho') e) ho').2
    · by_cases e : i = m
      · subst e
        rw [hom] at ho'; cases ho'
        simp only [F, HH, V, M, hA1, hA2]
        rcases hz with q | ⟨_, c, args, q1, q2⟩
        · exact .inr (.inr (.inl ⟨haw, trivial, q⟩))
        · exact .inr (.inr (.inr ⟨haw, trivial, c, args, q1, q2⟩))
      · have hi : i < m := lt_of i (alt_of_getElem? ho') e
        rcases (hstep i o' hi ho').1 with ⟨h1, h2, h3, h4⟩ | ⟨h1, h2, h3, ⟨_, h4⟩, h5⟩ | ⟨h1, h2, h3, h4⟩ | ⟨h1, h2, _, _, c, args, h3, h4⟩
        · exact .inl ⟨h1, h2, h3⟩
        · refine .inr (.inl ⟨h1, h2, fun t ht hb ha => ?_⟩)
          have htm : t ≤ m := ha m (by omega) hMm (hbm i hi)
          rcases h5 rfl with hp | hp | hp
          · exact pure_any E hp h4 (HH t)
          · have hcmp : ∀ j, j < m → M j = true → (j < t ↔ j < i) := by
              intro j hj hMj
              have hjm := (mainW j hj hMj).1
              simp only [ordAll, List.all_eq_true] at hp
              have := hp j hjm
              simp only [Bool.or_eq_true, Bool.and_eq_true, Nat.blt, Nat.ble_eq] at this
              rcases this with ⟨q1, q2⟩ | ⟨q1, q2⟩
              · exact ⟨fun _ => q1, fun _ => hb j (by omega) hMj q2⟩
              · have := ha j (by omega) hMj q2
                constructor <;> intro <;> omega
            have : HH t = HH i := by
              rcases Nat.le_total t i with hle | hle
              · have e := between (i - t) t (by omega) (fun j h1 h2 => by
                  cases hMj : M j with
                  | false => rfl
                  | true => have := (hcmp j (by omega) hMj).2 (by omega); omega)
                rw [show t + (i - t) = i by omega] at e; exact e.symm
              · have e := between (t - i) i (by omega) (fun j h1 h2 => by
                  cases hMj : M j with
                  | false => rfl
                  | true => have := (hcmp j (by omega) hMj).1 (by omega); omega)
                rw [show i + (t - i) = t by omega] at e; exact e
            rw [this]; exact h4
          · exact hp _ (allW t htm)
        · exact .inr (.inr (.inl ⟨h1, h2, h4⟩))
        · exact .inr (.inr (.inr ⟨h1, h2, c, args, h3, h4⟩))
    · by_cases e : j = m
      · subst e; exact hbm i (by omega)
      · exact pairsOk_bit hpairs hsorted i j (mainW i (by omega) hMi).1 (mainW j (by omega) hMj).1 hij
  have := T.region hm w0s (Q := fun e' g' K' => e' = .normal ∧ g' = g ∧ K' = K) (by simp only [F, HH, hsz, hA2]; refine ⟨?_, ?_, ?_⟩ <;> first | trivial | rfl) id
  rw [hF0.1, hF0.2] at this
  exact this
end

section
variable {P : Program} {E : Env P} {S H0 : AH} {A0 A : Nat → Prop} {L : OL} {K : AQ}
/-- a drawn region, its last operation by itself -/
theorem sx_drawZ {ops : Array Oper} {id : Nat} {f : Fr} (hm : P.follows .mixedOrders = true) (ms : List Nat) (Lw : OL) (hLw : Lw.Sublist L) (hord : orderOk ops (bef ops) = true) (hpairs : pairsOk (bef ops) ms = true) (hsorted : ms.Pairwise (· < ·)) (m : Nat) (o : Oper) (ho : ops.toList.drop m = [o]) (hq : isQuiet E o.op = false) (hgd : o.guard = none)
    (hall : ((List.range m).all fun i => ((bef ops).getD m 0).testBit i) = true)
    (h : SO E ⟨true, ops, ms, S, A0, H0, A, Lw⟩ 0 (ops.toList.take m) (fun f H => ∃ Ls g K', RunD E false ops [] (HS S H0 A0 A Lw) m [o] f H Ls g K' ∧ K .normal g K') f H0 A L) : SX P (.region id ops true) K f S A0 H0 A L := by
  intro H hH
  have hW : HS S H0 A0 A Lw H := hH.subl hLw
  obtain ⟨Ls, g, K', hr, Ls2, g2, K2, hr2, hq2⟩ := h (fun _ => ⟨fun p hp => hLw.subset hp, hW.dist, fun j hj => ⟨hj, rfl⟩, rfl⟩) H hH
  exact ⟨.normal, g2, K2, hq2, hr.drawZ hr2 ho hq hgd hall hm hord hpairs hsorted hW id⟩
theorem so_turn {ops : Array Oper} {ms : List Nat} {i m : Nat} {o : Oper} {Hw : AH} {Aw : Nat → Prop} {Lw : OL} {f : Fr} (h : SO E ⟨false, ops, [], S, A0, Hw, Aw, Lw⟩ m [o] (fun f H => K .normal f H) f H0 A L) :
    SO E ⟨true, ops, ms, S, A0, Hw, Aw, Lw⟩ i [] (fun f H => ∃ Ls g K', RunD E false ops [] (HS S Hw A0 Aw Lw) m [o] f H Ls g K' ∧ K .normal g K') f H0 A L := fun _ H hH => ⟨[], f, H, .nil, h (fun hD => by cases hD) H hH⟩
end
end Go.AM
