/-
  The abstract machine, part 31: runs with a table of calls whose outcomes are known, whatever the heap.
-/
import Derived.Test.YtgkfobiiebpfhaaGreatDoorAM29
set_option linter.unusedVariables false
set_option linter.unusedSimpArgs false
noncomputable section
namespace Go.AM
open Go.RowKit

theorem flatV_eq {φ : List Place} {v v' : Value} (h : VR φ v v') (hf : flat v = true) : v' = v := by
  cases v with
  | agg cs =>
    cases cs with
    | mk l =>
      cases h with
      | agg ha hv => rw [flatL_eq ⟨ha, hv⟩ hf]
  | _ => exact flat1_eq h hf
theorem flatA_eq {φ : List Place} : ∀ {l l' : List Value}, VRs φ l l' → l.all flat = true → l' = l
  | [], l', h, _ => List.eq_nil_of_length_eq_zero h.1.symm
  | v :: l, [], h, _ => by have := h.1; simp at this
  | v :: l, v' :: l', h, hf => by
    simp only [List.all_cons, Bool.and_eq_true] at hf
    rw [flatV_eq h.head hf.1, flatA_eq h.tail hf.2]

section
variable {P : Program} (E : Env P)
abbrev Tabf := FuncId → List Value → Option Value
def TabOk (P : Program) (tb : Tabf) : Prop := ∀ g args r, tb g args = some r → args.all flat = true ∧ flatT r = true ∧ ∀ w, Flat P g args w r
def acallT (tb : Tabf) : Nat → Callf
  | 0, _, _, _ => none
  | n + 1, g, args, H => (match tb g args with
    | some r => some (r, H)
    | none => (match E.fn g with
      | some x => (match arunG E (acallT tb n) n x.body (mkFr args x.ntmps) H with
        | some (.normal, f, H') => (match aresults E f H' x.results with
          | some vs => some (tupleUp vs, H')
          | none => none)
        | some (.ret, f, H') => (match aresults E f H' x.results with
          | some vs => some (tupleUp vs, H')
          | none => none)
        | _ => none)
      | none => none))
theorem acallT_ok {tb : Tabf} (htb : TabOk P tb) (hm : P.follows .mixedOrders = true) : ∀ n, CallOk P (acallT E tb n) := by
  intro n
  induction n with
  | zero => intro g args H v H' h; cases h
  | succ n ih =>
    intro g args H v H' h
    simp only [acallT] at h
    split at h
    · rename_i r hr
      cases h
      obtain ⟨h1, h2, h3⟩ := htb _ _ _ hr
      refine ⟨rfl, ACalls.flat h2 fun π φ args' w hv hR => ?_⟩
      rw [flatA_eq hv h1]
      exact h3 w
    · split at h
      · rename_i x hg
        have fin : ∀ {e f K}, arunG E (acallT E tb n) n x.body (mkFr args x.ntmps) H = some (e, f, K) → (e = .normal ∨ e = .ret) → (match aresults E f K x.results with | some vs => some (tupleUp vs, K) | none => none) = some (v, H') →
            H'.w0 = H.w0 ∧ ACalls P g args H fun u K => u = v ∧ K = H' := by
          intro e f K hr he hv
          split at hv
          · rename_i vs hvs
            cases hv
            obtain ⟨w1, c1⟩ := arunG_ok E ih hm n _ _ _ _ _ _ hr
            refine ⟨w1, ACalls.body E hg (c1.mono ?_)⟩
            rintro e' f' K' ⟨rfl, rfl, rfl⟩
            exact ⟨he, vs, hvs, rfl, rfl⟩
          · cases hv
        split at h
        · rename_i f K hr; exact fin hr (.inl rfl) h
        · rename_i f K hr; exact fin hr (.inr rfl) h
        · cases h
      · cases h
theorem Flat.closedT {tb : Tabf} (htb : TabOk P tb) (hm : P.follows .mixedOrders = true) {g : FuncId} {args : List Value} {r : Value} (hx : extL args = args) (n : Nat) (h : ∀ w : World, ∃ H', acallT E tb n g args (start w) = some (r, H')) (w : World) : Flat P g args w r := by
  obtain ⟨H', hH⟩ := h w
  show ACalls P g (extL args) (start w) _
  rw [hx]
  exact ((acallT_ok E htb hm n _ _ _ _ _ hH).2).mono fun v K hv => hv.1
theorem tabNone : TabOk P fun _ _ => none := fun _ _ _ h => by cases h
end
end Go.AM
