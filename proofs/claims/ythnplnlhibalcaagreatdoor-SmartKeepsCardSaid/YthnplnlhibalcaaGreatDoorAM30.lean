/-
  The abstract machine, part 30: a part of a row of data up to its end.
-/
import Derived.Test.YthnplnlhibalcaaGreatDoorAM28
set_option linter.unusedVariables false
set_option linter.unusedSimpArgs false
namespace Go.AM
open Go.RowKit
theorem abounds_l {len cap a : Nat} {k : IntKind} (h1 : a ≤ len) (h2 : len ≤ cap) : abounds len cap (some (.int k (a : Int))) none none = some (a, len, cap) := by
  have e1 : abound none cap cap = some cap := rfl
  have e3 : abound (some (Value.int k (a : Int))) 0 len = some a := by simp only [abound]; rw [if_pos ⟨by omega, by omega⟩]; simp
  simp only [abounds, e1, e3]
section
variable {P : Program} {E : Env P} {G : RG} {i n d : Nat} {r : List Oper} {Q : Fr → AH → Prop} {t : Tr Value} {l : List (Nat × Value)} {S H0 : AH} {A0 A : Nat → Prop} {L L' : OL} {v u : Value} {x : Operand} {gd : Option (Nat × Bool)} {af : Array Edge} {ps : String} {ty : TypeId}
/-- a part of a row of data, up to its end -/
theorem so_dropD {ta e : TypeId} {lo : Operand} {kk : IntKind} {ii : TI} {a : Option Addr} {b cap p : Nat} {ks : List Kd} {rw' : List (List CT)} (hw : gok G.ops l gd = true) (hdn : Nat.ble (d + 1) n = true) (hx : opv l x = some (.slice a rw'.length cap)) (hu : E.und ta = some (.slice e)) (hi' : E.inf e = some ii)
    (h1 : opv l lo = some (.int kk ((p : Nat) : Int))) (hr : RowD (qA G A) (qH G H0) b ks rw' a cap) (hk : ks.length = ii.size) (hp : p ≤ rw'.length)
    (h : ∀ a', RowD (qA G A) (qH G H0) b ks (rw'.drop p) a' (cap - p) → SO E G (i + 1) r Q (fr n t ((d, .slice a' (rw'.drop p).length (cap - p)) :: l)) H0 A L) : SO E G i (⟨some d, .slice ta x (some lo) none none, ty, ps, af, gd⟩ :: r) Q (fr n t l) H0 A L := by
  have hlen : (rw'.drop p).length = rw'.length - p := List.length_drop
  have hb : abounds rw'.length cap (some (.int kk ((p : Nat) : Int))) none none = some (p, rw'.length, cap) := abounds_l hp hr.le
  have hO : OpO l (some lo) (some (.int kk ((p : Nat) : Int))) := .some h1
  have row : ∀ q q', a = some q → q'.block = q.block → (rw'.length = p ∨ q' = q.add (p * ks.length)) → RowD (qA G A) (qH G H0) b ks (rw'.drop p) (some q') (cap - p) := by
    intro q q' hq hbl hq'
    refine ⟨by rw [hlen]; have := hr.len; omega, by rw [hlen]; have h4 := Nat.mul_le_mul_right b (show rw'.length - p ≤ rw'.length by omega); have := hr.bytes; omega, by rw [hlen]; have := hr.le; omega, (fun h => by cases h), (fun p' h' => by cases h'; rw [hbl]; exact hr.inA q hq), (fun p' h' => by cases h'; have := hr.sz q hq; unfold SzA at this ⊢; rw [hbl]; exact this), fun j hj => ?_⟩
    rw [hlen] at hj
    obtain ⟨p2, xs, c, e1, e2, e3, e4, e5⟩ := hr.at' (p + j) (by omega)
    rw [hq] at e1; cases e1
    have e6 : q' = q.add (p * ks.length) := by
      rcases hq' with h | h
      · omega
      · exact h
    refine ⟨q', xs, c, rfl, by rw [hbl]; exact e2, by rw [List.getElem?_drop]; exact e3, ?_, e5⟩
    rw [e6, add_add, ← Nat.add_mul]
    exact e4
  cases a with
  | none =>
    have hc := hr.nil rfl
    subst hc
    have hl0 : rw'.length = 0 := by have := hr.le; omega
    have hp0 : p = 0 := by omega
    subst hp0
    have h0 := h none ⟨by rw [hlen]; omega, by rw [hlen, hl0]; simp, by rw [hlen, hl0]; simp, fun _ => rfl, (fun p h => by cases h), (fun p h => by cases h), fun j hj => by rw [hlen] at hj; omega⟩
    rw [hlen, hl0] at h0
    rw [hl0] at hx hb
    exact so_sliceN hw hdn hx hu hi' (by rw [show (some lo).map (aval (fr n t l)) = some (.int kk ((0 : Nat) : Int)) from hO.ok]; exact hb) h0
  | some q =>
    rcases Nat.mod_two_eq_zero_or_one q.block with hev | hod
    · refine so_sliceE hw hdn hx hu hi' hr.le hev (by rw [show (some lo).map (aval (fr n t l)) = _ from hO.ok]; exact hb) ?_
      rw [← hlen]
      refine h _ (row q _ rfl ?_ ?_)
      · split
        · rfl
        · exact add_block _ _
      · by_cases e : cap = p
        · have := hr.le; exact .inl (by omega)
        · rw [if_neg e, hk]; exact .inr rfl
    · obtain ⟨cs, ex, hget⟩ := hr.sz q rfl hod
      rw [hk] at hget
      have hAp : qA G A (q.block / 2) := by
        rcases hr.inA q rfl with h' | h'
        · omega
        · exact h'
      refine so_sliceD hw hdn hx hu hi' hr.le hod hAp hget (by simp) (by rw [show (some lo).map (aval (fr n t l)) = _ from hO.ok]; exact hb) ?_
      rw [← hlen]
      exact h _ (row q _ rfl (add_block _ _) (.inr (by rw [hk])))
end
end Go.AM
