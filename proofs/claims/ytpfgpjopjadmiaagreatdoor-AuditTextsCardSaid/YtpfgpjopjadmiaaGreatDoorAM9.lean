/-
  The abstract machine, part 9: lists of operations, regions in any order.
-/
import Derived.Test.YtpfgpjopjadmiaaGreatDoorAM8
set_option linter.unusedVariables false
set_option linter.unusedSimpArgs false
noncomputable section
namespace Go.AM
open Go.RowKit

/-! ### the world outside stays -/
theorem anew_w0 (H : AH) (o : AObj) : (anew H o).w0 = H.w0 := rfl
theorem astores_w0 {H H' : AH} {a : Addr} {vs : List Value} (h : astores H a vs = some H') : H'.w0 = H.w0 := by
  unfold astores at h
  cases he : Nat.beq (a.block % 2) 0 with
  | true => rw [he] at h; cases h
  | false =>
    rw [he, cond_false] at h
    split at h
    · rename_i cs sz ex hg
      cases hb : (Nat.ble (a.off + vs.length) cs.length && allOne vs) with
      | false => rw [hb] at h; cases h
      | true => rw [hb, cond_true] at h; cases h; rfl
    · cases h
theorem cond_some {α : Type} {b : Bool} {x y : Option α} {z : α} (h : (bif b then x else y) = some z) : x = some z ∨ y = some z := by
  cases b
  · exact .inr h
  · exact .inl h
theorem arealloc_w0 {tg size bytes n : Nat} {s : Value} {sLen : Nat} {new : List Value} {H H' : AH} {v : Value} (h : arealloc tg size bytes n s sLen new H = some (v, H')) : H'.w0 = H.w0 := by
  unfold arealloc at h
  split at h
  · rcases cond_some h with h | h
    · cases h; rfl
    · cases h
  · cases h
section
variable {P : Program} (E : Env P)
theorem aappend_w0 {sT xT : TypeId} {s x v : Value} {H H' : AH} (h : aappend E sT xT s x H = some (v, H')) : H'.w0 = H.w0 := by
  unfold aappend at h
  split at h
  · rcases cond_some h with h | h
    · split at h
      · unfold aappendZ at h
        split at h
        · split at h
          · split at h
            · cases h
            · cases h; rfl
          · cases h
        · cases h
      · cases h
    · split at h
      · rcases cond_some h with h | h
        · cases h
        · split at h
          · split at h
            · rcases cond_some h with h | h
              · rcases cond_some h with h | h
                · cases h; rfl
                · cases h
              · split at h
                · rcases cond_some h with h | h
                  · exact arealloc_w0 h
                  · cases h
                · rcases cond_some h with h | h
                  · rcases cond_some h with h | h
                    · cases h
                    · exact arealloc_w0 h
                  · split at h
                    · rcases cond_some h with h | h
                      · rcases cond_some h with h | h
                        · split at h
                          · rename_i H2 hst; cases h; exact astores_w0 hst
                          · cases h
                        · rcases cond_some h with h | h
                          · rcases cond_some h with h | h
                            · exact arealloc_w0 h
                            · cases h
                          · rcases cond_some h with h | h
                            · cases h; rfl
                            · cases h
                      · cases h
                    · cases h
            · cases h
          · cases h
      · cases h
  · cases h
theorem acopy_w0 {dT : TypeId} {d x v : Value} {H H' : AH} (h : acopy E dT d x H = some (v, H')) : H'.w0 = H.w0 := by
  unfold acopy at h
  split at h
  · split at h
    · split at h
      · split at h
        · rcases cond_some h with h | h
          · cases h; rfl
          · split at h
            · rename_i H2 hst; cases h; exact astores_w0 hst
            · cases h
        · cases h; rfl
      · cases h
    · cases h
  · cases h
theorem amapUpdate_w0 {t : TypeId} {m k v : Value} {H H' : AH} (h : amapUpdate E t m k v H = some H') : H'.w0 = H.w0 := by
  unfold amapUpdate at h
  split at h
  · rcases cond_some h with h | h
    · cases h
    · split at h
      · rcases cond_some h with h | h
        · split at h
          · cases h; rfl
          · cases h; rfl
          · cases h
        · cases h
      · cases h
  · cases h
theorem amapUpdateA_w0 {t : TypeId} {m k v : Value} {H H' : AH} (h : amapUpdateA E t m k v H = some H') : H'.w0 = H.w0 := by
  unfold amapUpdateA at h
  split at h
  · rcases cond_some h with h | h
    · cases h
    · split at h
      · rcases cond_some h with h | h
        · split at h
          · cases h; rfl
          · cases h
        · cases h
      · cases h
  · cases h
theorem amapUpdate2_w0 {t : TypeId} {m k v : Value} {H H' : AH} (h : amapUpdate2 E t m k v H = some H') : H'.w0 = H.w0 := by
  rcases orE_some h with h | h
  · exact amapUpdate_w0 E h
  · exact amapUpdateA_w0 E h
theorem aconv_w0 {s d : TypeId} {x v : Value} {H H' : AH} (h : aconv E s d x H = some (v, H')) : H'.w0 = H.w0 := by
  unfold aconv at h
  split at h
  · cases h; rfl
  · cases h; rfl
  · split at h
    · cases h; rfl
    · cases h
  · split at h
    · split at h
      · cases h; rfl
      · split at h
        · split at h
          · cases h; rfl
          · cases h
        · cases h
    · cases h
  · rcases cond_some h with h | h
    · split at h
      · cases h; rfl
      · cases h
    · cases h
  · rcases cond_some h with h | h
    · cases h
    · split at h
      · rcases cond_some h with h | h
        · cases h
        · rcases cond_some h with h | h
          · cases h; rfl
          · cases h
      · cases h
  · rcases cond_some h with h | h
    · cases h
    · split at h
      · rcases cond_some h with h | h
        · cases h
        · rcases cond_some h with h | h
          · cases h; rfl
          · cases h
      · cases h
  · cases h
theorem austring_w0 {pt : TypeId} {x y v : Value} {H H' : AH} (h : austring E pt x y H = some (v, H')) : H'.w0 = H.w0 := by
  unfold austring at h
  split at h
  · rcases cond_some h with h | h
    · cases h; rfl
    · split at h
      · rcases cond_some h with h | h
        · cases h
        · split at h
          · rcases cond_some h with h | h
            · split at h
              · split at h
                · cases h; rfl
                · cases h
              · cases h
            · cases h
          · cases h
      · cases h
  · cases h
theorem aop_w0 {ρ : Operand → Value} {op : Op} {H H' : AH} {v : Value} (h : aop E ρ op H = some (v, H')) : H'.w0 = H.w0 := by
  unfold aop at h
  split at h
  case h_1 | h_2 | h_5 | h_14 | h_15 => cases h; rfl
  case h_3 => split at h <;> cases h <;> rfl
  case h_4 =>
    unfold aalloc at h
    split at h
    · split at h
      · cases h; rfl
      · cases h
    · cases h
  case h_7 =>
    unfold abuildSlice at h
    split at h
    · split at h
      · rcases cond_some h with h | h
        · split at h
          · split at h
            · rcases cond_some h with h | h
              · cases h; rfl
              · cases h
            · cases h
          · cases h
        · cases h
      · cases h
    · cases h
  case h_8 =>
    split at h
    · rw [(pairUp_some h).2]
    · cases h
  case h_9 =>
    split at h
    · split at h
      · rename_i hst
        cases h
        unfold astoreVar at hst
        split at hst
        · rcases cond_some hst with hst | hst
          · exact astores_w0 hst
          · cases hst
        · cases hst
      · cases h
    · cases h
  case h_10 => split at h <;> cases h <;> rfl
  case h_13 => exact aconv_w0 E h
  case h_16 =>
    unfold amakeSlice at h
    split at h
    · split at h
      · split at h
        · split at h
          · cases h; rfl
          · cases h
        · cases h
      · cases h
    · cases h
  case h_23 | h_24 =>
    split at h
    · rename_i hst; cases h; exact amapUpdate2_w0 E hst
    · cases h
  case h_26 =>
    split at h
    · split at h
      · rw [(pairUp_some h).2]
      · cases h
    · split at h
      · rw [(pairUp_some h).2]
      · cases h
    · split at h
      · exact aappend_w0 E h
      · cases h
    · split at h
      · exact acopy_w0 E h
      · cases h
    · split at h
      · rw [(pairUp_some h).2]
      · cases h
    · split at h
      · rw [(pairUp_some h).2]
      · cases h
    · split at h
      · rw [(pairUp_some h).2]
      · cases h
    · split at h
      · exact austring_w0 E h
      · cases h
    · split at h
      · rw [(pairUp_some h).2]
      · cases h
    · cases h
  case h_27 => cases h
  all_goals rw [(pairUp_some h).2]

theorem aop_congr {ρ ρ' : Operand → Value} (op : Op) (H : AH) (h : ∀ x ∈ op.operands, ρ x = ρ' x) : aop E ρ op H = aop E ρ' op H := by
  have pairs : ∀ ps : Array (Nat × Operand), (∀ x ∈ (ps.toList.map (·.2)).toArray, ρ x = ρ' x) → (ps.toList.map fun x => (x.1, ρ x.2)) = (ps.toList.map fun x => (x.1, ρ' x.2)) := fun ps hp =>
    List.map_congr_left fun p hm => by rw [hp p.2 (by simp; exact ⟨p.1, Array.mem_toList_iff.1 hm⟩)]
  cases op <;> simp only [Op.operands] at h <;> simp only [aop]
  case build t ps => rw [pairs ps h]
  case buildSlice t n ps => rw [pairs ps h]
  case makeFunc fn first captured =>
    rw [List.map_congr_left (l := first.toList) fun x hx => h x (by simp [Array.mem_toList_iff.1 hx]), List.map_congr_left (l := captured.toList) fun x hx => h x (by simp [Array.mem_toList_iff.1 hx])]
  case makeMap t r => cases r <;> rfl
  case slice t x lo hi mx => cases lo <;> cases hi <;> cases mx <;> simp_all
  case call c =>
    have ha : ∀ x ∈ c.args.toList, ρ x = ρ' x := fun x hx => h x (by simp [Call.operands, Array.mem_toList_iff.1 hx])
    cases hc : c.callee with
    | value f =>
      have e1 : ρ f = ρ' f := h f (by simp [Call.operands, hc])
      simp only [e1, List.map_congr_left ha]
    | invoke r m => rfl
    | builtin b =>
      cases b <;> (try rfl) <;> simp only
      · split
        · rename_i hs xs hl ht; rw [ha _ (by rw [hl]; simp), ha _ (by rw [hl]; simp)]
        · rfl
      · split
        · rename_i hl ht; rw [ha _ (by rw [hl]; simp)]
        · rfl
      · split
        · rename_i hs xs hl ht; rw [ha _ (by rw [hl]; simp), ha _ (by rw [hl]; simp)]
        · rfl
      · split
        · rename_i hl ht; rw [ha _ (by rw [hl]; simp)]
        · rfl
      · split
        · rename_i x r hl
          rw [ha x (by rw [hl]; simp), List.map_congr_left fun y hy => ha y (by rw [hl]; simp [hy])]
        · rfl
      · split
        · rename_i x r hl
          rw [ha x (by rw [hl]; simp), List.map_congr_left fun y hy => ha y (by rw [hl]; simp [hy])]
        · rfl
      · split
        · rename_i x hl
          rw [ha x (by rw [hl]; simp)]
        · rfl
      · split
        · rename_i hl ht
          rw [ha _ (by rw [hl]; simp), ha _ (by rw [hl]; simp)]
        · rfl
  all_goals (first | rfl | (simp_all; done))

/-! ### calls -/
def acallee (ρ : Operand → Value) (op : Op) : Option (FuncId × List Value) :=
  match op with
  | .call c => (match c.callee with
    | .value x => (match ρ x with
      | .func (.func g) ⟨a⟩ ⟨b⟩ => (match E.fn g with
        | some _ => some (g, a ++ (c.args.toList.map ρ ++ b))
        | none => none)
      | _ => none)
    | _ => none)
  | _ => none

theorem acallee_congr {ρ ρ' : Operand → Value} (op : Op) (h : ∀ x ∈ op.operands, ρ x = ρ' x) : acallee E ρ op = acallee E ρ' op := by
  cases op <;> simp only [acallee]
  case call c =>
    simp only [Op.operands] at h
    cases hc : c.callee with
    | value f =>
      have e1 : ρ f = ρ' f := h f (by simp [Call.operands, hc])
      have ha : c.args.toList.map ρ = c.args.toList.map ρ' := List.map_congr_left fun x hx => h x (by simp [Call.operands, Array.mem_toList_iff.1 hx])
      simp only [e1, ha]
    | invoke r m => rfl
    | builtin b => rfl

theorem acallee_ok {φ : List Place} {ρ ρ' : Operand → Value} (hρ : ∀ x, VR φ (ρ x) (ρ' x)) {o : Oper} {g : FuncId} {args : List Value} (h : acallee E ρ o.op = some (g, args)) (w : World) :
    ∃ args', VRs φ args args' ∧ (execOp ρ' o).run P w = .ok (.enter g ⟨args'⟩) w := by
  unfold acallee at h
  split at h
  · rename_i c hop
    split at h
    · rename_i x hc
      split at h
      · rename_i g' a b hx
        split at h
        · rename_i fn hfn
          cases h
          have hv := hρ x
          rw [hx] at hv
          generalize hcc : ρ' x = cc at hv
          cases hv with
          | func fn' q1 q2 q3 q4 =>
            rename_i a' b'
            refine ⟨a' ++ (c.args.toList.map ρ' ++ b'), VRs.append ⟨q1, q3⟩ ((VRs_map hρ _).append ⟨q2, q4⟩), ?_⟩
            obtain ⟨F, hF, hb, _, _, hn⟩ := E.fn_ok _ _ hfn
            have e1 : c.args.map ρ' = ⟨c.args.toList.map ρ'⟩ := by rw [← Array.toList_inj]; simp
            have hn' : ¬ F.name = "runtime.NumGoroutine" := by simpa using hn
            simp [execOp, hop, resolve, hc, hcc, Deferred.ofValue, invoke, callFunc, hF, hn', hb, e1]
        · cases h
      · cases h
    · cases h
  · cases h

end

/-! ### what holds behind code -/
abbrev AQ := Exit → Fr → AH → Prop

def conc [Pins] (φ : List Place) (w0 : World) (Q : AQ) : Exit → Act → World → Prop := fun e a w => ∃ φ' f H, φ <+: φ' ∧ FRel φ' f a ∧ Rel φ' H w ∧ H.w0 = w0 ∧ Q e f H

theorem conc_mono [Pins] {φ φ' : List Place} (h : φ <+: φ') {w0 : World} {Q : AQ} {e : Exit} {a : Act} {w : World} (k : conc φ' w0 Q e a w) : conc φ w0 Q e a w := by
  obtain ⟨ψ, f, H, h1, h2⟩ := k
  exact ⟨ψ, f, H, h.trans h1, h2⟩

def ACode (P : Program) (c : Code) (Q : AQ) (f : Fr) (H : AH) : Prop := ∀ (π : Pins) φ a w, FRel φ f a → Rel φ H w → c.wp P (conc φ H.w0 Q) a w

def ACalls (P : Program) (g : FuncId) (args : List Value) (H : AH) (Q : Value → AH → Prop) : Prop :=
  ∀ (π : Pins) φ args' w, VRs φ args args' → Rel φ H w → Calls P g ⟨args'⟩ w fun e w' => ∃ φ' v v' H', φ <+: φ' ∧ e = .returned v' ∧ VR φ' v v' ∧ Rel φ' H' w' ∧ H'.w0 = H.w0 ∧ Q v H'

theorem ACalls.mono {P : Program} {g : FuncId} {args : List Value} {H : AH} {Q Q' : Value → AH → Prop} (h : ACalls P g args H Q) (hq : ∀ v H', Q v H' → Q' v H') : ACalls P g args H Q' :=
  fun π φ args' w hv hR => (h π φ args' w hv hR).mono fun _ _ ⟨φ', v, v', H', h1, h2, h3, h4, h5, h6⟩ => ⟨φ', v, v', H', h1, h2, h3, h4, h5, hq _ _ h6⟩

theorem LetsOut_mono {Q Q' : Exit → Act → World → Prop} (h : ∀ e a w, Q e a w → Q' e a w) (k : LetsOut Q) : LetsOut Q' := let ⟨a, w, q⟩ := k; ⟨a, w, h _ _ _ q⟩

theorem wpOps_monoQ {P : Program} {ops : Array Oper} {Q Q' : Exit → Act → World → Prop} (h : ∀ e a w, Q e a w → Q' e a w) : ∀ (l : List Nat) (a : Act) (w : World), wpOps P ops Q l a w → wpOps P ops Q' l a w := by
  intro l
  induction l with
  | nil => intro a w k; exact h _ _ _ k
  | cons i rest ih =>
    intro a w k
    simp only [wpOps] at k ⊢
    cases ho : ops[i]? with
    | none => simp only [ho] at k ⊢; exact ih a w k
    | some o =>
      simp only [ho] at k ⊢
      split
      · rename_i hw
        simp only [hw, if_true] at k
        rcases k with k | ⟨k1, k2⟩
        · left
          unfold Oper.wp at *
          generalize (execOp a.eval o).run P w = r at *
          cases r with
          | ok n w' =>
            cases n <;> simp only [Oper.upon] at k ⊢ <;>
              first
                | exact ih _ _ k
                | exact Calls.mono k (fun e w'' he => by cases e <;> first | exact ih _ _ he | exact h _ _ _ he | exact LetsOut_mono h he)
                | exact Rows.mono k (fun _ _ he => ih _ _ he)
          | halt x w' => cases x <;> simp only [Oper.upon] at k ⊢ <;> first | exact h _ _ _ k | exact k
        · exact .inr ⟨k1, LetsOut_mono h k2⟩
      · rename_i hw
        simp only [hw] at k
        exact ih _ _ k

/-! ### guards -/
def awanted (ops : Array Oper) (sv : Tmp → Value) (o : Oper) : Bool :=
  match o.guard with
  | none => true
  | some (j, want) => (match ops[j]? with
    | some oj => (match oj.dst with
      | some d => (match sv d with
        | .bool b => b == want
        | _ => false)
      | none => false)
    | none => false)

/-- slots, abstractly -/
def VRel (φ : List Place) (n : Nat) (sv : Tmp → Value) (a : Act) : Prop := a.defers = [] ∧ a.tmps.size = n ∧ ∀ t, VR φ (sv t) (a.tmps.getD t undef)

theorem VR_bool_iff {φ : List Place} {v v' : Value} (h : VR φ v v') (b : Bool) : v = .bool b ↔ v' = .bool b := by
  cases h <;> simp

theorem awanted_ok {φ : List Place} {sv : Tmp → Value} {a : Act} (ops : Array Oper) (o : Oper)
    (h : ∀ d ∈ o.looksAt ops, VR φ (sv d) (a.tmps.getD d undef)) : Region.wanted o (yielded ops a.tmps) = awanted ops sv o := by
  unfold Region.wanted awanted
  cases hg : o.guard with
  | none => rfl
  | some jw =>
    obtain ⟨j, want⟩ := jw
    simp only [yielded]
    cases hj : ops[j]? with
    | none => simp
    | some oj =>
      cases hd : oj.dst with
      | none => simp [hd]
      | some d =>
        simp only [hd, Option.bind_some]
        have hv := h d (by simp [Oper.looksAt, hg, hj, hd])
        by_cases hlt : d < a.tmps.size
        · have e : a.tmps[d]? = some (a.tmps.getD d undef) := by simp [Array.getD_eq_getD_getElem?, hlt]
          rw [e]
          generalize a.tmps.getD d undef = x at hv
          generalize sv d = y at hv
          cases hv <;> (first | rfl | (rename_i b; cases b <;> cases want <;> rfl))
        · have e : a.tmps[d]? = none := Array.getElem?_eq_none (Nat.le_of_not_lt hlt)
          have e2 : a.tmps.getD d undef = undef := by simp [Array.getD_eq_getD_getElem?, e]
          rw [e2] at hv
          rw [e]
          generalize sv d = y at hv
          unfold undef at hv
          cases hv
          rfl

/-! ### a list of operations -/
def AOps (P : Program) (ops : Array Oper) (l : List Nat) (Q : AQ) (f : Fr) (H : AH) : Prop := ∀ (π : Pins) φ a w, FRel φ f a → Rel φ H w → wpOps P ops (conc φ H.w0 Q) l a w

def sval (f : Fr) (t : Tmp) : Value := aval f (.tmp t)

section
variable {P : Program} {ops : Array Oper} {Q : AQ} {f : Fr} {H : AH}
theorem AOps.nil (h : Q .normal f H) : AOps P ops [] Q f H := fun π φ _ _ hf hR => ⟨φ, f, H, List.prefix_refl _, hf, hR, rfl, h⟩

theorem AOps.skip {i : Nat} {rest : List Nat} {o : Oper} {g : Fr} (ho : ops[i]? = some o) (hw : awanted ops (sval f) o = false) (hp : f.put o.dst undef = some g) (h : AOps P ops rest Q g H) : AOps P ops (i :: rest) Q f H := by
  intro π φ a w hf hR
  have hw' : Region.wanted o (yielded ops a.tmps) = false := by rw [awanted_ok (φ := φ) (sv := sval f) ops o (fun d _ => hf.2.2 d), hw]
  simp only [wpOps, ho, hw', Bool.false_eq_true, if_false]
  exact h _ φ _ w (hf.put (VR.undef φ) hp) hR

theorem AOps.op (E : Env P) {i : Nat} {rest : List Nat} {o : Oper} {g : Fr} {v : Value} {H' : AH} (ho : ops[i]? = some o) (hw : awanted ops (sval f) o = true) (hop : aop E (aval f) o.op H = some (v, H')) (hp : f.put o.dst v = some g)
    (h : AOps P ops rest Q g H') : AOps P ops (i :: rest) Q f H := by
  intro π φ a w hf hR
  have hw' : Region.wanted o (yielded ops a.tmps) = true := by rw [awanted_ok (φ := φ) (sv := sval f) ops o (fun d _ => hf.2.2 d), hw]
  simp only [wpOps, ho, hw', if_true]
  left
  obtain ⟨φ', v', w', h1, h2, h3, h4⟩ := aop_ok E hR (ρ := aval f) (ρ' := a.eval) hf.eval hop
  have hw0 := aop_w0 E hop
  have hnext : wpOps P ops (conc φ H.w0 Q) rest (a.put o.dst v') w' := by
    refine wpOps_monoQ (fun e a w k => conc_mono h1 k) rest _ _ ?_
    rw [← hw0]
    exact h _ φ' _ w' ((hf.mono h1).put h3 hp) h2
  unfold Oper.wp
  rcases h4 with h4 | ⟨h4, rfl⟩
  · rw [h4]; exact hnext
  · rw [h4]; exact hnext

theorem AOps.call (E : Env P) {i : Nat} {rest : List Nat} {o : Oper} {k : FuncId} {args : List Value} (ho : ops[i]? = some o) (hw : awanted ops (sval f) o = true) (hc : acallee E (aval f) o.op = some (k, args))
    (h : ACalls P k args H fun v H' => ∃ g, f.put o.dst v = some g ∧ AOps P ops rest Q g H') : AOps P ops (i :: rest) Q f H := by
  intro π φ a w hf hR
  have hw' : Region.wanted o (yielded ops a.tmps) = true := by rw [awanted_ok (φ := φ) (sv := sval f) ops o (fun d _ => hf.2.2 d), hw]
  simp only [wpOps, ho, hw', if_true]
  left
  obtain ⟨args', h1, h2⟩ := acallee_ok E (ρ := aval f) (ρ' := a.eval) hf.eval hc w
  unfold Oper.wp
  rw [h2]
  refine (h _ φ args' w h1 hR).mono ?_
  rintro e w' ⟨φ', v, v', H', h3, rfl, h4, h5, h6, g, hp, hrest⟩
  refine wpOps_monoQ (fun e a w k => conc_mono h3 k) rest _ _ ?_
  rw [← h6]
  exact hrest _ φ' _ w' ((hf.mono h3).put h4 hp) h5
end
end Go.AM
