/-
  The abstract machine, part 32: rules for min, max, products and quotients.
-/
import Derived.Test.YtgkfobiiebpfhaaGreatDoorAM28
set_option linter.unusedVariables false
set_option linter.unusedSimpArgs false
noncomputable section
namespace Go.AM
open Go.RowKit
section
variable {P : Program} {E : Env P} {G : RG} {i n d : Nat} {r : List Oper} {Q : Fr → AH → Prop} {t : Tr Value} {l : List (Nat × Value)} {S H0 : AH} {A0 A : Nat → Prop} {L L' : OL} {v u : Value} {x y : Operand} {gd : Option (Nat × Bool)} {af : Array Edge} {ps : String} {ty : TypeId}
theorem amax2 {k : IntKind} {a b : Int} : amin true (.int k a) [.int k b] = some (.int k (max a b)) := by
  simp only [amin, decide_true, cond_true, if_true]
  congr 2
  by_cases h : b > a
  · rw [if_pos h]; omega
  · rw [if_neg h]; omega
theorem amin2 {k : IntKind} {a b : Int} : amin false (.int k a) [.int k b] = some (.int k (min a b)) := by
  simp only [amin, decide_true, cond_true, Bool.false_eq_true, if_false]
  congr 2
  by_cases h : b < a
  · rw [if_pos h]; omega
  · rw [if_neg h]; omega
theorem so_max2 {c : Call} {k : IntKind} {a b m : Int} (hw : gok G.ops l gd = true) (hdn : Nat.ble (d + 1) n = true) (hc : c.callee = .builtin .max) (ha : c.args.toList = [x, y]) (hx : opv l x = some (.int k a)) (hy : opv l y = some (.int k b)) (hm : max a b = m)
    (h : SO E G (i + 1) r Q (fr n t ((d, .int k m) :: l)) H0 A L) : SO E G i (⟨some d, .call c, ty, ps, af, gd⟩ :: r) Q (fr n t l) H0 A L :=
  so_pure hw rfl hdn (by simp only [isPure, hc]) (fun H => by subst hm; simp only [aop, hc, ha, List.map_cons, List.map_nil, opv_ok hx, opv_ok hy, amax2, pairUp]) h
theorem so_min2 {c : Call} {k : IntKind} {a b m : Int} (hw : gok G.ops l gd = true) (hdn : Nat.ble (d + 1) n = true) (hc : c.callee = .builtin .min) (ha : c.args.toList = [x, y]) (hx : opv l x = some (.int k a)) (hy : opv l y = some (.int k b)) (hm : min a b = m)
    (h : SO E G (i + 1) r Q (fr n t ((d, .int k m) :: l)) H0 A L) : SO E G i (⟨some d, .call c, ty, ps, af, gd⟩ :: r) Q (fr n t l) H0 A L :=
  so_pure hw rfl hdn (by simp only [isPure, hc]) (fun H => by subst hm; simp only [aop, hc, ha, List.map_cons, List.map_nil, opv_ok hx, opv_ok hy, amin2, pairUp]) h
end
section
variable {P : Program} {E : Env P} {t : TypeId} {k : IntKind} {a b c : Int}
theorem bin_quo (hb : b ≠ 0) (h : k.wrap (a.tdiv b) = c) : abin E .quo t (.int k a) (.int k b) = some (.int k c) := by simp only [abin, abinInt]; rw [if_neg hb, h, if_pos trivial]
theorem bin_rem (hb : b ≠ 0) (h : a.tmod b = c) : abin E .rem t (.int k a) (.int k b) = some (.int k c) := by simp only [abin, abinInt]; rw [if_neg hb, h, if_pos trivial]
theorem bin_bneq {x y : Bool} (hu : E.und t = some .bool) : abin E .neq t (.bool x) (.bool y) = some (.bool (x != y)) := by cases x <;> cases y <;> simp [abin, hu, aeq, eqAs]
theorem bin_beql {x y : Bool} (hu : E.und t = some .bool) : abin E .eql t (.bool x) (.bool y) = some (.bool (x == y)) := by cases x <;> cases y <;> simp [abin, hu, aeq, eqAs]
end
end Go.AM
