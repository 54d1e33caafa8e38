/-
  The abstract machine, part 21: drawn regions in which variables are made in whatever order.
-/
import Derived.Test.YtpfgpjopjadmiaaGreatDoorAM20
set_option linter.unusedVariables false
set_option linter.unusedSimpArgs false
noncomputable section
namespace Go.AM
open Go.RowKit

/-- a reading operation leaves the world alone -/
theorem aop_quiet [Pins] {P : Program} (E : Env P) {φ : List Place} {H H' : AH} {w : World} (R : Rel φ H w) {ρ ρ' : Operand → Value} (hρ : ∀ x, VR φ (ρ x) (ρ' x)) {o : Oper} {v : Value} (hq : isQuiet E o.op = true) (h : aop E ρ o.op H = some (v, H')) :
    ∃ v', VR φ v v' ∧ (execOp ρ' o).run P w = .ok (.value v') w := by
  have here : ∀ {v v' : Value}, VR φ v v' → (execOp ρ' o).run P w = .ok (.value v') w → ∃ v', VR φ v v' ∧ (execOp ρ' o).run P w = .ok (.value v') w := fun hv hr => ⟨_, hv, hr⟩
  unfold aop at h
  split at h <;> rename_i hop <;> first | (rw [hop] at hq; simp only [isQuiet] at hq; cases hq; done) | (cases h; done) | rw [hop] at hq
  · cases h; exact here (hρ _) (by simp [execOp, hop])
  · cases h; exact here (hρ _) (by simp [execOp, hop])
  · rename_i c a b
    split at h
    · rename_i hc
      cases h
      have := hρ c; rw [hc] at this
      generalize hcc : ρ' c = cc at this
      cases this
      exact here (hρ _) (by simp [execOp, hop, hcc, asBool])
    · rename_i hc
      cases h
      have := hρ c; rw [hc] at this
      generalize hcc : ρ' c = cc at this
      cases this
      exact here (hρ _) (by simp [execOp, hop, hcc, asBool])
    · cases h
  · rename_i t ps
    obtain ⟨hh, rfl⟩ := pairUp_some h
    replace h := hh
    obtain ⟨v', h1, h2⟩ := abuild_ok E (parts' := ps.toList.map fun x => (x.1, ρ' x.2)) (by simp) (parts_ok hρ ps.toList) h w
    refine here h1 ?_
    have : (ps.map fun (x : Nat × Operand) => (x.1, ρ' x.2)) = ⟨ps.toList.map fun x => (x.1, ρ' x.2)⟩ := by rw [← Array.toList_inj]; simp
    simp only [execOp, hop, Sem.run_bind, this, h2, Result.andThen_ok, Sem.run_pure]
  · rename_i t x
    split at h
    · rename_i a ha
      obtain ⟨hh, rfl⟩ := pairUp_some h
      replace h := hh
      have := hρ x; rw [ha] at this
      generalize hcc : ρ' x = cc at this
      cases this with
      | ptr hA =>
        obtain ⟨v', h1, h2⟩ := aloadVar_ok E R hA h
        exact here h2 (by simp [execOp, hop, hcc, Instr.loadAt, Instr.sureAddr, h1])
    · cases h
  · rename_i x
    split at h
    · rename_i a ha
      cases h
      have := hρ x; rw [ha] at this
      generalize hcc : ρ' x = cc at this
      cases this with
      | ptr hA => exact here (.ptr hA) (by simp [execOp, hop, hcc])
    · rename_i g a b ha
      cases h
      have := hρ x; rw [ha] at this
      generalize hcc : ρ' x = cc at this
      cases this with
      | func fn q1 q2 q3 q4 => exact here (.func _ q1 q2 q3 q4) (by simp [execOp, hop, hcc])
    · cases h
  · rename_i op t x y yt
    obtain ⟨hh, rfl⟩ := pairUp_some h
    replace h := hh
    obtain ⟨v', h1, h2⟩ := abin_ok E (hρ x) (hρ y) h x y w
    refine here h1 ?_
    simp only [execOp, hop]
    rw [Sem.run_bind, h2]; rfl
  · rename_i op t x
    obtain ⟨hh, rfl⟩ := pairUp_some h
    replace h := hh
    obtain ⟨v', h1, h2⟩ := aun_ok (P := P) (hρ x) h w
    exact here h1 (by simp [execOp, hop, h2])
  · rename_i s d x
    simp only [isQuiet] at hq
    split at hq
    · rename_i kk hd
      have hx := hρ x
      unfold aconv at h
      split at h
      · rename_i dd k k2 n hs hd2 hxx
        cases h
        rw [hxx] at hx
        generalize hcc : ρ' x = cc at hx
        cases hx
        refine here (.int _ _) ?_
        simp only [execOp, hop, hcc]
        cases dd <;> simp [convert, run_und E hs, run_und E hd2, Conv.intToInt]
      · rename_i hd2 _ ; rw [hd] at hd2; cases hd2
      · rename_i hd2 _ ; rw [hd] at hd2; cases hd2
      · rename_i hd2 _ ; rw [hd] at hd2; cases hd2
      · rename_i hd2 _; rw [hd] at hd2; cases hd2
      · first | (rename_i hd2 _; rw [hd] at hd2; cases hd2; done) | (rename_i hd2; rw [hd] at hd2; cases hd2; done)
      · first | (rename_i hd2 _; rw [hd] at hd2; cases hd2; done) | (rename_i hd2; rw [hd] at hd2; cases hd2; done)
      · cases h
    · cases hq
  · rename_i fn a b
    cases h
    have va := VRs_map hρ a.toList
    have vb := VRs_map hρ b.toList
    refine here (.func fn va.1 vb.1 va.2 vb.2) ?_
    have e1 : a.map ρ' = ⟨a.toList.map ρ'⟩ := by rw [← Array.toList_inj]; simp
    have e2 : b.map ρ' = ⟨b.toList.map ρ'⟩ := by rw [← Array.toList_inj]; simp
    simp only [execOp, hop, Instr.makeFunc, e1, e2, Sem.run_bind, Sem.run_pure, Result.andThen_ok]
  · rename_i t x lo hi mx
    obtain ⟨hh, rfl⟩ := pairUp_some h
    replace h := hh
    obtain ⟨v', h1, h2⟩ := aslice_ok E R (hρ x) (opt_ok hρ lo) (opt_ok hρ hi) (opt_ok hρ mx) h
    exact here h1 (by simp [execOp, hop, h2])
  · rename_i s x f
    obtain ⟨hh, rfl⟩ := pairUp_some h
    replace h := hh
    obtain ⟨v', h1, h2⟩ := afieldAddr_ok E (hρ x) h w
    exact here h1 (by simp [execOp, hop, h2])
  · rename_i s x f
    obtain ⟨hh, rfl⟩ := pairUp_some h
    replace h := hh
    obtain ⟨v', h1, h2⟩ := afield_ok E (hρ x) h w
    exact here h1 (by simp [execOp, hop, h2])
  · rename_i t x ix
    obtain ⟨hh, rfl⟩ := pairUp_some h
    replace h := hh
    obtain ⟨v', h1, h2⟩ := aindexAddr_ok E (hρ x) (hρ ix) h w
    exact here h1 (by simp [execOp, hop, h2])
  · rename_i t x ix
    obtain ⟨hh, rfl⟩ := pairUp_some h
    replace h := hh
    obtain ⟨v', h1, h2⟩ := aindex_ok E (hρ x) (hρ ix) h w
    exact here h1 (by simp [execOp, hop, h2])
  · rename_i t x ix ok
    obtain ⟨hh, rfl⟩ := pairUp_some h
    replace h := hh
    obtain ⟨v', h1, h2⟩ := alookup2_ok E R (hρ x) (hρ ix) h
    exact here h1 (by simp [execOp, hop, h2])
  · rename_i x i
    obtain ⟨hh, rfl⟩ := pairUp_some h
    replace h := hh
    obtain ⟨v', h1, h2⟩ := aextract_ok (P := P) (hρ x) h w
    exact here h1 (by simp [execOp, hop, h2])
  · rename_i c
    simp only [isQuiet] at hq
    split at h <;> rename_i hcal <;> first | (rw [hcal] at hq; simp only at hq; cases hq; done) | (cases h; done) | skip
    · split at h
      · rename_i x t hargs htys
        obtain ⟨hh, rfl⟩ := pairUp_some h
        replace h := hh
        obtain ⟨v', h1, h2⟩ := alen_ok E R (ty := o.type) (hρ x) h
        have e1 : c.args = #[x] := by rw [← Array.toList_inj, hargs]
        have e2 : c.argTypes = #[t] := by rw [← Array.toList_inj, htys]
        refine here h1 ?_
        simp [execOp, hop, resolve, hcal, invoke, builtin, e1, e2, h2]
      · cases h
    · split at h
      · rename_i x t hargs htys
        obtain ⟨hh, rfl⟩ := pairUp_some h
        replace h := hh
        obtain ⟨v', h1, h2⟩ := acap_ok E R (ty := o.type) (hρ x) h
        have e1 : c.args = #[x] := by rw [← Array.toList_inj, hargs]
        have e2 : c.argTypes = #[t] := by rw [← Array.toList_inj, htys]
        refine here h1 ?_
        simp [execOp, hop, resolve, hcal, invoke, builtin, e1, e2, h2]
      · cases h
    · split at h
      · rename_i x r hargs
        obtain ⟨hh, rfl⟩ := pairUp_some h
        replace h := hh
        obtain ⟨v', h1, h2⟩ := amin_ok (P := P) false (r.map ρ) (r.map ρ') _ _ v (hρ x) (VRs_map hρ r) h w
        refine here h1 ?_
        simp only [Bool.false_eq_true, if_false] at h2
        simp [execOp, hop, resolve, hcal, invoke, builtin, Builtin.min_, hargs, h2]
      · cases h
    · split at h
      · rename_i x r hargs
        obtain ⟨hh, rfl⟩ := pairUp_some h
        replace h := hh
        obtain ⟨v', h1, h2⟩ := amin_ok (P := P) true (r.map ρ) (r.map ρ') _ _ v (hρ x) (VRs_map hρ r) h w
        refine here h1 ?_
        simp only [if_true] at h2
        simp [execOp, hop, resolve, hcal, invoke, builtin, Builtin.max_, hargs, h2]
      · cases h
end Go.AM
