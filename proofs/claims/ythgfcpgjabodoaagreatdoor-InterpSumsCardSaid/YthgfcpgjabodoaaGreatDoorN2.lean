/-
  Comparisons.
-/
import Derived.Test.YthgfcpgjabodoaaGreatDoorN1
set_option linter.unusedVariables false
set_option linter.unusedSimpArgs false
set_option maxRecDepth 100000
namespace Go.Proofs.YthgfcpgjabodoaaGreatDoor
open Go Go.AM

theorem cv (a b : Int) : (a < b ∧ (if a < b then (-1 : Int) else if a > b then 1 else 0) = -1) ∨ (a = b ∧ (if a < b then (-1 : Int) else if a > b then 1 else 0) = 0) ∨ (b < a ∧ (if a < b then (-1 : Int) else if a > b then 1 else 0) = 1) := by
 rcases Int.lt_trichotomy a b with h | h | h
 ·exact .inl ⟨h, if_pos h⟩
 ·exact .inr (.inl ⟨h, by rw [if_neg (by omega), if_neg (by omega)]⟩)
 ·exact .inr (.inr ⟨h, by rw [if_neg (by omega), if_pos h]⟩)
section
variable [σ : Sg]
theorem aLu (E : Env Tryz.prog) (t : TypeId) (a b : Int) : cS E .lss t (.int .i64 (if a < b then (-1 : Int) else if a > b then 1 else 0)) (.int .i64 0) = some (.bool (decide (a < b))) := by
 rcases cv a b with ⟨h, e⟩ | ⟨h, e⟩ | ⟨h, e⟩
 ·rw [e, decide_eq_true (by omega)]; exact aX (by decide)
 ·rw [e, decide_eq_false (by omega)]; exact aU (by decide)
 ·rw [e, decide_eq_false (by omega)]; exact aU (by decide)
end
set_option maxHeartbeats 1000000 in
theorem iQ {S : AH} {a b : Int} : XCall Tryz.prog 190 [.string ⟨⟨[60]⟩⟩, .agg ⟨It.cs (.num a)⟩, .agg ⟨It.cs (.num b)⟩] S fun v H' => v = .tuple ⟨[.agg ⟨It.cs (.tru (decide (a < b)))⟩, .int .i64 0]⟩ ∧ Kept S.nx S H' := by
 refine cP (E := E) (n := 77) (rs := [.cell 6 70, .tmp 7]) (l := [(2, _), (1, _), (0, _)]) (bH Tryz.func190 rfl rfl rfl) (A0 := fun _ => False) (fun j h => h.elim) rfl ?_
 refine aE ?_
 refine aB (E := E) ?_
 refine fJ rfl rfl (fun h => nomatch h) rfl ?_
 intro N4
 refine fJ rfl rfl (fun h => nomatch h) rfl ?_
 intro N5
 refine cL (cs := (.int .i64 0 :: .int .i64 0 :: .string ⟨#[]⟩ :: .slice none 0 0 :: [])) rfl rfl (fun h => nomatch h) bW rfl rfl ?_
 intro N6
 refine aC rfl rfl rfl ?_
 refine aD ?_
 refine aE ?_
 refine aB (E := E) ?_
 refine aC rfl rfl rfl ?_
 refine aD ?_
 refine aE ?_
 refine aB (E := E) ?_
 refine aA rfl rfl rfl ?_
 refine aF rfl rfl rfl rfl (by first | exact aS (by first | rfl | assumption | decide) | exact aT (by first | rfl | assumption | decide)) ?_
 refine aA rfl rfl rfl ?_
 first | refine aA rfl rfl rfl ?_ | refine aG rfl rfl rfl ?_
 first | refine aF rfl rfl rfl rfl (by first | exact aS (by first | rfl | assumption | decide) | exact aT (by first | rfl | assumption | decide)) ?_ | refine aG rfl rfl rfl ?_
 first | refine aP rfl rfl rfl rfl ?_ | refine aO rfl rfl rfl rfl ?_
 refine aC rfl rfl rfl ?_
 refine aD ?_
 refine aE ?_
 refine bR ?_
 refine aE ?_
 refine aB (E := E) ?_
 refine bK (o' := 0) rfl rfl rfl Tryz.underlying70 rfl gS rfl rfl ?_
 refine bU rfl rfl rfl (by first | exact cM Tryz.underlying3 rfl (by repeat (first | exact List.Mem.head _ | apply List.Mem.tail | apply List.mem_append_right)) (by first | exact aN rfl | rfl) | exact cE Tryz.underlying3 rfl (by first | assumption | exact InA.add (by assumption) | exact InA.add (InA.add (by assumption))) (by assumption)) ?_
 refine bK (o' := 0) rfl rfl rfl Tryz.underlying70 rfl gS rfl rfl ?_
 refine bU rfl rfl rfl (by first | exact cM Tryz.underlying3 rfl (by repeat (first | exact List.Mem.head _ | apply List.Mem.tail | apply List.mem_append_right)) (by first | exact aN rfl | rfl) | exact cE Tryz.underlying3 rfl (by first | assumption | exact InA.add (by assumption) | exact InA.add (InA.add (by assumption))) (by assumption)) ?_
 refine aF rfl rfl rfl rfl (by first | exact cG (by first | rfl | assumption | omega) | exact cJ (by first | rfl | assumption | omega)) ?_
 refine aC rfl rfl rfl ?_
 refine aD ?_
 refine aJ rfl ?_
 refine aE ?_
 refine aE ?_
 refine aB (E := E) ?_
 refine bK (o' := 0) rfl rfl rfl Tryz.underlying70 rfl gS rfl rfl ?_
 refine bU rfl rfl rfl (by first | exact cM Tryz.underlying3 rfl (by repeat (first | exact List.Mem.head _ | apply List.Mem.tail | apply List.mem_append_right)) (by first | exact aN rfl | rfl) | exact cE Tryz.underlying3 rfl (by first | assumption | exact InA.add (by assumption) | exact InA.add (InA.add (by assumption))) (by assumption)) ?_
 refine aF rfl rfl rfl rfl (by first | exact bF (by first | rfl | assumption | omega) | exact bC (by first | rfl | assumption | omega)) ?_
 refine aC rfl rfl rfl ?_
 refine aD ?_
 refine bP rfl ?_
 refine aV ?_
 refine aR ?_
 refine bP rfl ?_
 refine aB (E := E) ?_
 refine bK (o' := 1) rfl rfl rfl Tryz.underlying70 rfl gS rfl rfl ?_
 refine bU rfl rfl rfl (by first | exact cM Tryz.underlying3 rfl (by repeat (first | exact List.Mem.head _ | apply List.Mem.tail | apply List.mem_append_right)) (by first | exact aN rfl | rfl) | exact cE Tryz.underlying3 rfl (by first | assumption | exact InA.add (by assumption) | exact InA.add (InA.add (by assumption))) (by assumption)) ?_
 refine bK (o' := 1) rfl rfl rfl Tryz.underlying70 rfl gS rfl rfl ?_
 refine bU rfl rfl rfl (by first | exact cM Tryz.underlying3 rfl (by repeat (first | exact List.Mem.head _ | apply List.Mem.tail | apply List.mem_append_right)) (by first | exact aN rfl | rfl) | exact cE Tryz.underlying3 rfl (by first | assumption | exact InA.add (by assumption) | exact InA.add (InA.add (by assumption))) (by assumption)) ?_
 refine aZ rfl rfl (fun h => nomatch h) rfl uY (by repeat (first | exact Opvs.nil | apply Opvs.cons rfl)) (fun H hH => wA) ?_
 refine aC rfl rfl rfl ?_
 refine gV ?_
 refine cV ?_
 refine aR ?_
 refine aE ?_
 refine aE ?_
 refine aB (E := E) ?_
 refine aA rfl rfl rfl ?_
 refine aD ?_
 refine bR ?_
 refine aE ?_
 refine aB (E := E) ?_
 refine aF rfl rfl rfl rfl (by first | exact aS (by first | rfl | assumption | decide) | exact aT (by first | rfl | assumption | decide)) ?_
 refine aC rfl rfl rfl ?_
 refine aD ?_
 refine aJ rfl ?_
 refine aE ?_
 refine aB (E := E) ?_
 refine aF rfl rfl rfl rfl (by first | exact aS (by first | rfl | assumption | decide) | exact aT (by first | rfl | assumption | decide)) ?_
 refine aC rfl rfl rfl ?_
 refine aD ?_
 refine aJ rfl ?_
 refine aE ?_
 refine aB (E := E) ?_
 refine aF rfl rfl rfl rfl (by first | exact aS (by first | rfl | assumption | decide) | exact aT (by first | rfl | assumption | decide)) ?_
 refine aC rfl rfl rfl ?_
 refine aD ?_
 refine bP rfl ?_
 refine aE ?_
 refine aB (E := E) ?_
 refine aA rfl rfl rfl ?_
 refine aF rfl rfl rfl rfl (by first | exact aLu _ _ a b | exact aX (by omega) | exact aU (by omega)) ?_
 refine aZ rfl rfl (fun h => nomatch h) rfl wJ (by repeat (first | exact Opvs.nil | apply Opvs.cons rfl)) (fun H hH => vB) ?_
 refine cA rfl (fun h => nomatch h) rfl rfl bW (by first | exact aH _ _ | rfl) rfl (by repeat (first | exact .zero | apply Upd.succ)) (by first | exact bM rfl | exact bI rfl | exact bA rfl | exact bY rfl | rfl) (by first | exact aM rfl rfl | exact aM rfl (aH _ _) | exact aK rfl | exact Nat.le_of_ble_eq_true rfl | omega) (fun h => nomatch h) ?_
 refine aC rfl rfl rfl ?_
 refine aD ?_
 refine bX ?_
 refine bN ?_
 refine bB ?_
 refine cW (.cell rfl (by first | exact cD Tryz.underlying70 rfl bW rfl (by repeat (first | exact List.Mem.head _ | apply List.Mem.tail | apply List.mem_append_right)) (by first | exact aK rfl | exact Nat.le_of_ble_eq_true rfl | decide | omega) (by first | exact bD | exact take_all rfl | exact aW rfl | rfl) | exact bZ Tryz.underlying70 rfl bW rfl (by first | assumption | exact InA.add (by assumption) | exact InA.add (InA.add (by assumption))) (by assumption)) (.tmp rfl .nil)) ?_
 exact fun H hH => ⟨rfl, hH.kept⟩

section
variable [σ : Sg]
theorem aLo (E : Env Tryz.prog) (t : TypeId) (a b : Int) : cS E .eql t (.int .i64 (if a < b then (-1 : Int) else if a > b then 1 else 0)) (.int .i64 0) = some (.bool (decide (a = b))) := by
 rcases cv a b with ⟨h, e⟩ | ⟨h, e⟩ | ⟨h, e⟩
 ·rw [e, decide_eq_false (by omega)]; exact bC (by decide)
 ·rw [e, decide_eq_true (by omega)]; exact bF rfl
 ·rw [e, decide_eq_false (by omega)]; exact bC (by decide)
end
set_option maxHeartbeats 1000000 in
theorem kO {S : AH} {a b : Int} : XCall Tryz.prog 190 [.string ⟨⟨[61, 61]⟩⟩, .agg ⟨It.cs (.num a)⟩, .agg ⟨It.cs (.num b)⟩] S fun v H' => v = .tuple ⟨[.agg ⟨It.cs (.tru (decide (a = b)))⟩, .int .i64 0]⟩ ∧ Kept S.nx S H' := by
 refine cP (E := E) (n := 77) (rs := [.cell 6 70, .tmp 7]) (l := [(2, _), (1, _), (0, _)]) (bH Tryz.func190 rfl rfl rfl) (A0 := fun _ => False) (fun j h => h.elim) rfl ?_
 refine aE ?_
 refine aB (E := E) ?_
 refine fJ rfl rfl (fun h => nomatch h) rfl ?_
 intro N4
 refine fJ rfl rfl (fun h => nomatch h) rfl ?_
 intro N5
 refine cL (cs := (.int .i64 0 :: .int .i64 0 :: .string ⟨#[]⟩ :: .slice none 0 0 :: [])) rfl rfl (fun h => nomatch h) bW rfl rfl ?_
 intro N6
 refine aC rfl rfl rfl ?_
 refine aD ?_
 refine aE ?_
 refine aB (E := E) ?_
 refine aC rfl rfl rfl ?_
 refine aD ?_
 refine aE ?_
 refine aB (E := E) ?_
 refine aA rfl rfl rfl ?_
 refine aF rfl rfl rfl rfl (by first | exact aS (by first | rfl | assumption | decide) | exact aT (by first | rfl | assumption | decide)) ?_
 refine aA rfl rfl rfl ?_
 first | refine aA rfl rfl rfl ?_ | refine aG rfl rfl rfl ?_
 first | refine aF rfl rfl rfl rfl (by first | exact aS (by first | rfl | assumption | decide) | exact aT (by first | rfl | assumption | decide)) ?_ | refine aG rfl rfl rfl ?_
 first | refine aP rfl rfl rfl rfl ?_ | refine aO rfl rfl rfl rfl ?_
 refine aC rfl rfl rfl ?_
 refine aD ?_
 refine aE ?_
 refine bR ?_
 refine aE ?_
 refine aB (E := E) ?_
 refine bK (o' := 0) rfl rfl rfl Tryz.underlying70 rfl gS rfl rfl ?_
 refine bU rfl rfl rfl (by first | exact cM Tryz.underlying3 rfl (by repeat (first | exact List.Mem.head _ | apply List.Mem.tail | apply List.mem_append_right)) (by first | exact aN rfl | rfl) | exact cE Tryz.underlying3 rfl (by first | assumption | exact InA.add (by assumption) | exact InA.add (InA.add (by assumption))) (by assumption)) ?_
 refine bK (o' := 0) rfl rfl rfl Tryz.underlying70 rfl gS rfl rfl ?_
 refine bU rfl rfl rfl (by first | exact cM Tryz.underlying3 rfl (by repeat (first | exact List.Mem.head _ | apply List.Mem.tail | apply List.mem_append_right)) (by first | exact aN rfl | rfl) | exact cE Tryz.underlying3 rfl (by first | assumption | exact InA.add (by assumption) | exact InA.add (InA.add (by assumption))) (by assumption)) ?_
 refine aF rfl rfl rfl rfl (by first | exact cG (by first | rfl | assumption | omega) | exact cJ (by first | rfl | assumption | omega)) ?_
 refine aC rfl rfl rfl ?_
 refine aD ?_
 refine aJ rfl ?_
 refine aE ?_
 refine aE ?_
 refine aB (E := E) ?_
 refine bK (o' := 0) rfl rfl rfl Tryz.underlying70 rfl gS rfl rfl ?_
 refine bU rfl rfl rfl (by first | exact cM Tryz.underlying3 rfl (by repeat (first | exact List.Mem.head _ | apply List.Mem.tail | apply List.mem_append_right)) (by first | exact aN rfl | rfl) | exact cE Tryz.underlying3 rfl (by first | assumption | exact InA.add (by assumption) | exact InA.add (InA.add (by assumption))) (by assumption)) ?_
 refine aF rfl rfl rfl rfl (by first | exact bF (by first | rfl | assumption | omega) | exact bC (by first | rfl | assumption | omega)) ?_
 refine aC rfl rfl rfl ?_
 refine aD ?_
 refine bP rfl ?_
 refine aV ?_
 refine aR ?_
 refine bP rfl ?_
 refine aB (E := E) ?_
 refine bK (o' := 1) rfl rfl rfl Tryz.underlying70 rfl gS rfl rfl ?_
 refine bU rfl rfl rfl (by first | exact cM Tryz.underlying3 rfl (by repeat (first | exact List.Mem.head _ | apply List.Mem.tail | apply List.mem_append_right)) (by first | exact aN rfl | rfl) | exact cE Tryz.underlying3 rfl (by first | assumption | exact InA.add (by assumption) | exact InA.add (InA.add (by assumption))) (by assumption)) ?_
 refine bK (o' := 1) rfl rfl rfl Tryz.underlying70 rfl gS rfl rfl ?_
 refine bU rfl rfl rfl (by first | exact cM Tryz.underlying3 rfl (by repeat (first | exact List.Mem.head _ | apply List.Mem.tail | apply List.mem_append_right)) (by first | exact aN rfl | rfl) | exact cE Tryz.underlying3 rfl (by first | assumption | exact InA.add (by assumption) | exact InA.add (InA.add (by assumption))) (by assumption)) ?_
 refine aZ rfl rfl (fun h => nomatch h) rfl uY (by repeat (first | exact Opvs.nil | apply Opvs.cons rfl)) (fun H hH => wA) ?_
 refine aC rfl rfl rfl ?_
 refine gV ?_
 refine cV ?_
 refine aR ?_
 refine aE ?_
 refine aE ?_
 refine aB (E := E) ?_
 refine aA rfl rfl rfl ?_
 refine aD ?_
 refine bR ?_
 refine aE ?_
 refine aB (E := E) ?_
 refine aF rfl rfl rfl rfl (by first | exact aS (by first | rfl | assumption | decide) | exact aT (by first | rfl | assumption | decide)) ?_
 refine aC rfl rfl rfl ?_
 refine aD ?_
 refine bP rfl ?_
 refine aE ?_
 refine aB (E := E) ?_
 refine aA rfl rfl rfl ?_
 refine aF rfl rfl rfl rfl (by first | exact aLo _ _ a b | exact bF (by first | rfl | assumption | omega) | exact bC (by first | rfl | assumption | omega)) ?_
 refine aZ rfl rfl (fun h => nomatch h) rfl wJ (by repeat (first | exact Opvs.nil | apply Opvs.cons rfl)) (fun H hH => vB) ?_
 refine cA rfl (fun h => nomatch h) rfl rfl bW (by first | exact aH _ _ | rfl) rfl (by repeat (first | exact .zero | apply Upd.succ)) (by first | exact bM rfl | exact bI rfl | exact bA rfl | exact bY rfl | rfl) (by first | exact aM rfl rfl | exact aM rfl (aH _ _) | exact aK rfl | exact Nat.le_of_ble_eq_true rfl | omega) (fun h => nomatch h) ?_
 refine aC rfl rfl rfl ?_
 refine aD ?_
 refine bX ?_
 refine bN ?_
 refine bB ?_
 refine cW (.cell rfl (by first | exact cD Tryz.underlying70 rfl bW rfl (by repeat (first | exact List.Mem.head _ | apply List.Mem.tail | apply List.mem_append_right)) (by first | exact aK rfl | exact Nat.le_of_ble_eq_true rfl | decide | omega) (by first | exact bD | exact take_all rfl | exact aW rfl | rfl) | exact bZ Tryz.underlying70 rfl bW rfl (by first | assumption | exact InA.add (by assumption) | exact InA.add (InA.add (by assumption))) (by assumption)) (.tmp rfl .nil)) ?_
 exact fun H hH => ⟨rfl, hH.kept⟩

section
variable [σ : Sg]
theorem aMj (E : Env Tryz.prog) (t : TypeId) (a b : Int) : cS E .geq t (.int .i64 (if a < b then (-1 : Int) else if a > b then 1 else 0)) (.int .i64 0) = some (.bool (decide (b ≤ a))) := by
 rcases cv a b with ⟨h, e⟩ | ⟨h, e⟩ | ⟨h, e⟩
 ·rw [e, decide_eq_false (by omega)]; exact gG (by decide)
 ·rw [e, decide_eq_true (by omega)]; exact fA (by decide)
 ·rw [e, decide_eq_true (by omega)]; exact fA (by decide)
end
set_option maxHeartbeats 1000000 in
theorem uA {S : AH} {a b : Int} : XCall Tryz.prog 190 [.string ⟨⟨[62, 61]⟩⟩, .agg ⟨It.cs (.num a)⟩, .agg ⟨It.cs (.num b)⟩] S fun v H' => v = .tuple ⟨[.agg ⟨It.cs (.tru (decide (b ≤ a)))⟩, .int .i64 0]⟩ ∧ Kept S.nx S H' := by
 refine cP (E := E) (n := 77) (rs := [.cell 6 70, .tmp 7]) (l := [(2, _), (1, _), (0, _)]) (bH Tryz.func190 rfl rfl rfl) (A0 := fun _ => False) (fun j h => h.elim) rfl ?_
 refine aE ?_
 refine aB (E := E) ?_
 refine fJ rfl rfl (fun h => nomatch h) rfl ?_
 intro N4
 refine fJ rfl rfl (fun h => nomatch h) rfl ?_
 intro N5
 refine cL (cs := (.int .i64 0 :: .int .i64 0 :: .string ⟨#[]⟩ :: .slice none 0 0 :: [])) rfl rfl (fun h => nomatch h) bW rfl rfl ?_
 intro N6
 refine aC rfl rfl rfl ?_
 refine aD ?_
 refine aE ?_
 refine aB (E := E) ?_
 refine aC rfl rfl rfl ?_
 refine aD ?_
 refine aE ?_
 refine aB (E := E) ?_
 refine aA rfl rfl rfl ?_
 refine aF rfl rfl rfl rfl (by first | exact aS (by first | rfl | assumption | decide) | exact aT (by first | rfl | assumption | decide)) ?_
 refine aA rfl rfl rfl ?_
 first | refine aA rfl rfl rfl ?_ | refine aG rfl rfl rfl ?_
 first | refine aF rfl rfl rfl rfl (by first | exact aS (by first | rfl | assumption | decide) | exact aT (by first | rfl | assumption | decide)) ?_ | refine aG rfl rfl rfl ?_
 first | refine aP rfl rfl rfl rfl ?_ | refine aO rfl rfl rfl rfl ?_
 refine aC rfl rfl rfl ?_
 refine aD ?_
 refine aE ?_
 refine bR ?_
 refine aE ?_
 refine aB (E := E) ?_
 refine bK (o' := 0) rfl rfl rfl Tryz.underlying70 rfl gS rfl rfl ?_
 refine bU rfl rfl rfl (by first | exact cM Tryz.underlying3 rfl (by repeat (first | exact List.Mem.head _ | apply List.Mem.tail | apply List.mem_append_right)) (by first | exact aN rfl | rfl) | exact cE Tryz.underlying3 rfl (by first | assumption | exact InA.add (by assumption) | exact InA.add (InA.add (by assumption))) (by assumption)) ?_
 refine bK (o' := 0) rfl rfl rfl Tryz.underlying70 rfl gS rfl rfl ?_
 refine bU rfl rfl rfl (by first | exact cM Tryz.underlying3 rfl (by repeat (first | exact List.Mem.head _ | apply List.Mem.tail | apply List.mem_append_right)) (by first | exact aN rfl | rfl) | exact cE Tryz.underlying3 rfl (by first | assumption | exact InA.add (by assumption) | exact InA.add (InA.add (by assumption))) (by assumption)) ?_
 refine aF rfl rfl rfl rfl (by first | exact cG (by first | rfl | assumption | omega) | exact cJ (by first | rfl | assumption | omega)) ?_
 refine aC rfl rfl rfl ?_
 refine aD ?_
 refine aJ rfl ?_
 refine aE ?_
 refine aE ?_
 refine aB (E := E) ?_
 refine bK (o' := 0) rfl rfl rfl Tryz.underlying70 rfl gS rfl rfl ?_
 refine bU rfl rfl rfl (by first | exact cM Tryz.underlying3 rfl (by repeat (first | exact List.Mem.head _ | apply List.Mem.tail | apply List.mem_append_right)) (by first | exact aN rfl | rfl) | exact cE Tryz.underlying3 rfl (by first | assumption | exact InA.add (by assumption) | exact InA.add (InA.add (by assumption))) (by assumption)) ?_
 refine aF rfl rfl rfl rfl (by first | exact bF (by first | rfl | assumption | omega) | exact bC (by first | rfl | assumption | omega)) ?_
 refine aC rfl rfl rfl ?_
 refine aD ?_
 refine bP rfl ?_
 refine aV ?_
 refine aR ?_
 refine bP rfl ?_
 refine aB (E := E) ?_
 refine bK (o' := 1) rfl rfl rfl Tryz.underlying70 rfl gS rfl rfl ?_
 refine bU rfl rfl rfl (by first | exact cM Tryz.underlying3 rfl (by repeat (first | exact List.Mem.head _ | apply List.Mem.tail | apply List.mem_append_right)) (by first | exact aN rfl | rfl) | exact cE Tryz.underlying3 rfl (by first | assumption | exact InA.add (by assumption) | exact InA.add (InA.add (by assumption))) (by assumption)) ?_
 refine bK (o' := 1) rfl rfl rfl Tryz.underlying70 rfl gS rfl rfl ?_
 refine bU rfl rfl rfl (by first | exact cM Tryz.underlying3 rfl (by repeat (first | exact List.Mem.head _ | apply List.Mem.tail | apply List.mem_append_right)) (by first | exact aN rfl | rfl) | exact cE Tryz.underlying3 rfl (by first | assumption | exact InA.add (by assumption) | exact InA.add (InA.add (by assumption))) (by assumption)) ?_
 refine aZ rfl rfl (fun h => nomatch h) rfl uY (by repeat (first | exact Opvs.nil | apply Opvs.cons rfl)) (fun H hH => wA) ?_
 refine aC rfl rfl rfl ?_
 refine gV ?_
 refine cV ?_
 refine aR ?_
 refine aE ?_
 refine aE ?_
 refine aB (E := E) ?_
 refine aA rfl rfl rfl ?_
 refine aD ?_
 refine bR ?_
 refine aE ?_
 refine aB (E := E) ?_
 refine aF rfl rfl rfl rfl (by first | exact aS (by first | rfl | assumption | decide) | exact aT (by first | rfl | assumption | decide)) ?_
 refine aC rfl rfl rfl ?_
 refine aD ?_
 refine aJ rfl ?_
 refine aE ?_
 refine aB (E := E) ?_
 refine aF rfl rfl rfl rfl (by first | exact aS (by first | rfl | assumption | decide) | exact aT (by first | rfl | assumption | decide)) ?_
 refine aC rfl rfl rfl ?_
 refine aD ?_
 refine aJ rfl ?_
 refine aE ?_
 refine aB (E := E) ?_
 refine aF rfl rfl rfl rfl (by first | exact aS (by first | rfl | assumption | decide) | exact aT (by first | rfl | assumption | decide)) ?_
 refine aC rfl rfl rfl ?_
 refine aD ?_
 refine aJ rfl ?_
 refine aE ?_
 refine aB (E := E) ?_
 refine aF rfl rfl rfl rfl (by first | exact aS (by first | rfl | assumption | decide) | exact aT (by first | rfl | assumption | decide)) ?_
 refine aC rfl rfl rfl ?_
 refine aD ?_
 refine aJ rfl ?_
 refine aE ?_
 refine aB (E := E) ?_
 refine aF rfl rfl rfl rfl (by first | exact aS (by first | rfl | assumption | decide) | exact aT (by first | rfl | assumption | decide)) ?_
 refine aC rfl rfl rfl ?_
 refine aD ?_
 refine aJ rfl ?_
 refine aV ?_
 refine cV ?_
 refine aR ?_
 refine aE ?_
 refine aB (E := E) ?_
 refine aA rfl rfl rfl ?_
 refine aF rfl rfl rfl rfl (by first | exact aMj _ _ a b | exact fA (by omega) | exact gG (by omega)) ?_
 refine aZ rfl rfl (fun h => nomatch h) rfl wJ (by repeat (first | exact Opvs.nil | apply Opvs.cons rfl)) (fun H hH => vB) ?_
 refine cA rfl (fun h => nomatch h) rfl rfl bW (by first | exact aH _ _ | rfl) rfl (by repeat (first | exact .zero | apply Upd.succ)) (by first | exact bM rfl | exact bI rfl | exact bA rfl | exact bY rfl | rfl) (by first | exact aM rfl rfl | exact aM rfl (aH _ _) | exact aK rfl | exact Nat.le_of_ble_eq_true rfl | omega) (fun h => nomatch h) ?_
 refine aC rfl rfl rfl ?_
 refine aD ?_
 refine bX ?_
 refine cW (.cell rfl (by first | exact cD Tryz.underlying70 rfl bW rfl (by repeat (first | exact List.Mem.head _ | apply List.Mem.tail | apply List.mem_append_right)) (by first | exact aK rfl | exact Nat.le_of_ble_eq_true rfl | decide | omega) (by first | exact bD | exact take_all rfl | exact aW rfl | rfl) | exact bZ Tryz.underlying70 rfl bW rfl (by first | assumption | exact InA.add (by assumption) | exact InA.add (InA.add (by assumption))) (by assumption)) (.tmp rfl .nil)) ?_
 exact fun H hH => ⟨rfl, hH.kept⟩

section
variable [σ : Sg]
theorem aNm (E : Env Tryz.prog) (t : TypeId) (a b : Int) : cS E .gtr t (.int .i64 (if a < b then (-1 : Int) else if a > b then 1 else 0)) (.int .i64 0) = some (.bool (decide (b < a))) := by
 rcases cv a b with ⟨h, e⟩ | ⟨h, e⟩ | ⟨h, e⟩
 ·rw [e, decide_eq_false (by omega)]; exact bE (by decide)
 ·rw [e, decide_eq_false (by omega)]; exact bE (by decide)
 ·rw [e, decide_eq_true (by omega)]; exact bO (by decide)
end
set_option maxHeartbeats 1000000 in
theorem uG {S : AH} {a b : Int} : XCall Tryz.prog 190 [.string ⟨⟨[62]⟩⟩, .agg ⟨It.cs (.num a)⟩, .agg ⟨It.cs (.num b)⟩] S fun v H' => v = .tuple ⟨[.agg ⟨It.cs (.tru (decide (b < a)))⟩, .int .i64 0]⟩ ∧ Kept S.nx S H' := by
 refine cP (E := E) (n := 77) (rs := [.cell 6 70, .tmp 7]) (l := [(2, _), (1, _), (0, _)]) (bH Tryz.func190 rfl rfl rfl) (A0 := fun _ => False) (fun j h => h.elim) rfl ?_
 refine aE ?_
 refine aB (E := E) ?_
 refine fJ rfl rfl (fun h => nomatch h) rfl ?_
 intro N4
 refine fJ rfl rfl (fun h => nomatch h) rfl ?_
 intro N5
 refine cL (cs := (.int .i64 0 :: .int .i64 0 :: .string ⟨#[]⟩ :: .slice none 0 0 :: [])) rfl rfl (fun h => nomatch h) bW rfl rfl ?_
 intro N6
 refine aC rfl rfl rfl ?_
 refine aD ?_
 refine aE ?_
 refine aB (E := E) ?_
 refine aC rfl rfl rfl ?_
 refine aD ?_
 refine aE ?_
 refine aB (E := E) ?_
 refine aA rfl rfl rfl ?_
 refine aF rfl rfl rfl rfl (by first | exact aS (by first | rfl | assumption | decide) | exact aT (by first | rfl | assumption | decide)) ?_
 refine aA rfl rfl rfl ?_
 first | refine aA rfl rfl rfl ?_ | refine aG rfl rfl rfl ?_
 first | refine aF rfl rfl rfl rfl (by first | exact aS (by first | rfl | assumption | decide) | exact aT (by first | rfl | assumption | decide)) ?_ | refine aG rfl rfl rfl ?_
 first | refine aP rfl rfl rfl rfl ?_ | refine aO rfl rfl rfl rfl ?_
 refine aC rfl rfl rfl ?_
 refine aD ?_
 refine aE ?_
 refine bR ?_
 refine aE ?_
 refine aB (E := E) ?_
 refine bK (o' := 0) rfl rfl rfl Tryz.underlying70 rfl gS rfl rfl ?_
 refine bU rfl rfl rfl (by first | exact cM Tryz.underlying3 rfl (by repeat (first | exact List.Mem.head _ | apply List.Mem.tail | apply List.mem_append_right)) (by first | exact aN rfl | rfl) | exact cE Tryz.underlying3 rfl (by first | assumption | exact InA.add (by assumption) | exact InA.add (InA.add (by assumption))) (by assumption)) ?_
 refine bK (o' := 0) rfl rfl rfl Tryz.underlying70 rfl gS rfl rfl ?_
 refine bU rfl rfl rfl (by first | exact cM Tryz.underlying3 rfl (by repeat (first | exact List.Mem.head _ | apply List.Mem.tail | apply List.mem_append_right)) (by first | exact aN rfl | rfl) | exact cE Tryz.underlying3 rfl (by first | assumption | exact InA.add (by assumption) | exact InA.add (InA.add (by assumption))) (by assumption)) ?_
 refine aF rfl rfl rfl rfl (by first | exact cG (by first | rfl | assumption | omega) | exact cJ (by first | rfl | assumption | omega)) ?_
 refine aC rfl rfl rfl ?_
 refine aD ?_
 refine aJ rfl ?_
 refine aE ?_
 refine aE ?_
 refine aB (E := E) ?_
 refine bK (o' := 0) rfl rfl rfl Tryz.underlying70 rfl gS rfl rfl ?_
 refine bU rfl rfl rfl (by first | exact cM Tryz.underlying3 rfl (by repeat (first | exact List.Mem.head _ | apply List.Mem.tail | apply List.mem_append_right)) (by first | exact aN rfl | rfl) | exact cE Tryz.underlying3 rfl (by first | assumption | exact InA.add (by assumption) | exact InA.add (InA.add (by assumption))) (by assumption)) ?_
 refine aF rfl rfl rfl rfl (by first | exact bF (by first | rfl | assumption | omega) | exact bC (by first | rfl | assumption | omega)) ?_
 refine aC rfl rfl rfl ?_
 refine aD ?_
 refine bP rfl ?_
 refine aV ?_
 refine aR ?_
 refine bP rfl ?_
 refine aB (E := E) ?_
 refine bK (o' := 1) rfl rfl rfl Tryz.underlying70 rfl gS rfl rfl ?_
 refine bU rfl rfl rfl (by first | exact cM Tryz.underlying3 rfl (by repeat (first | exact List.Mem.head _ | apply List.Mem.tail | apply List.mem_append_right)) (by first | exact aN rfl | rfl) | exact cE Tryz.underlying3 rfl (by first | assumption | exact InA.add (by assumption) | exact InA.add (InA.add (by assumption))) (by assumption)) ?_
 refine bK (o' := 1) rfl rfl rfl Tryz.underlying70 rfl gS rfl rfl ?_
 refine bU rfl rfl rfl (by first | exact cM Tryz.underlying3 rfl (by repeat (first | exact List.Mem.head _ | apply List.Mem.tail | apply List.mem_append_right)) (by first | exact aN rfl | rfl) | exact cE Tryz.underlying3 rfl (by first | assumption | exact InA.add (by assumption) | exact InA.add (InA.add (by assumption))) (by assumption)) ?_
 refine aZ rfl rfl (fun h => nomatch h) rfl uY (by repeat (first | exact Opvs.nil | apply Opvs.cons rfl)) (fun H hH => wA) ?_
 refine aC rfl rfl rfl ?_
 refine gV ?_
 refine cV ?_
 refine aR ?_
 refine aE ?_
 refine aE ?_
 refine aB (E := E) ?_
 refine aA rfl rfl rfl ?_
 refine aD ?_
 refine bR ?_
 refine aE ?_
 refine aB (E := E) ?_
 refine aF rfl rfl rfl rfl (by first | exact aS (by first | rfl | assumption | decide) | exact aT (by first | rfl | assumption | decide)) ?_
 refine aC rfl rfl rfl ?_
 refine aD ?_
 refine aJ rfl ?_
 refine aE ?_
 refine aB (E := E) ?_
 refine aF rfl rfl rfl rfl (by first | exact aS (by first | rfl | assumption | decide) | exact aT (by first | rfl | assumption | decide)) ?_
 refine aC rfl rfl rfl ?_
 refine aD ?_
 refine aJ rfl ?_
 refine aE ?_
 refine aB (E := E) ?_
 refine aF rfl rfl rfl rfl (by first | exact aS (by first | rfl | assumption | decide) | exact aT (by first | rfl | assumption | decide)) ?_
 refine aC rfl rfl rfl ?_
 refine aD ?_
 refine aJ rfl ?_
 refine aE ?_
 refine aB (E := E) ?_
 refine aF rfl rfl rfl rfl (by first | exact aS (by first | rfl | assumption | decide) | exact aT (by first | rfl | assumption | decide)) ?_
 refine aC rfl rfl rfl ?_
 refine aD ?_
 refine aJ rfl ?_
 refine aE ?_
 refine aB (E := E) ?_
 refine aF rfl rfl rfl rfl (by first | exact aS (by first | rfl | assumption | decide) | exact aT (by first | rfl | assumption | decide)) ?_
 refine aC rfl rfl rfl ?_
 refine aD ?_
 refine bP rfl ?_
 refine aE ?_
 refine aB (E := E) ?_
 refine aA rfl rfl rfl ?_
 refine aF rfl rfl rfl rfl (by first | exact aNm _ _ a b | exact bO (by omega) | exact bE (by omega)) ?_
 refine aZ rfl rfl (fun h => nomatch h) rfl wJ (by repeat (first | exact Opvs.nil | apply Opvs.cons rfl)) (fun H hH => vB) ?_
 refine cA rfl (fun h => nomatch h) rfl rfl bW (by first | exact aH _ _ | rfl) rfl (by repeat (first | exact .zero | apply Upd.succ)) (by first | exact bM rfl | exact bI rfl | exact bA rfl | exact bY rfl | rfl) (by first | exact aM rfl rfl | exact aM rfl (aH _ _) | exact aK rfl | exact Nat.le_of_ble_eq_true rfl | omega) (fun h => nomatch h) ?_
 refine aC rfl rfl rfl ?_
 refine aD ?_
 refine bX ?_
 refine bN ?_
 refine bB ?_
 refine cW (.cell rfl (by first | exact cD Tryz.underlying70 rfl bW rfl (by repeat (first | exact List.Mem.head _ | apply List.Mem.tail | apply List.mem_append_right)) (by first | exact aK rfl | exact Nat.le_of_ble_eq_true rfl | decide | omega) (by first | exact bD | exact take_all rfl | exact aW rfl | rfl) | exact bZ Tryz.underlying70 rfl bW rfl (by first | assumption | exact InA.add (by assumption) | exact InA.add (InA.add (by assumption))) (by assumption)) (.tmp rfl .nil)) ?_
 exact fun H hH => ⟨rfl, hH.kept⟩

section
variable [σ : Sg]
theorem aLt (E : Env Tryz.prog) (t : TypeId) (a b : Int) : cS E .leq t (.int .i64 (if a < b then (-1 : Int) else if a > b then 1 else 0)) (.int .i64 0) = some (.bool (decide (a ≤ b))) := by
 rcases cv a b with ⟨h, e⟩ | ⟨h, e⟩ | ⟨h, e⟩
 ·rw [e, decide_eq_true (by omega)]; exact fZ (by decide)
 ·rw [e, decide_eq_true (by omega)]; exact fZ (by decide)
 ·rw [e, decide_eq_false (by omega)]; exact jM (by decide)
end
set_option maxHeartbeats 1000000 in
theorem tW {S : AH} {a b : Int} : XCall Tryz.prog 190 [.string ⟨⟨[60, 61]⟩⟩, .agg ⟨It.cs (.num a)⟩, .agg ⟨It.cs (.num b)⟩] S fun v H' => v = .tuple ⟨[.agg ⟨It.cs (.tru (decide (a ≤ b)))⟩, .int .i64 0]⟩ ∧ Kept S.nx S H' := by
 refine cP (E := E) (n := 77) (rs := [.cell 6 70, .tmp 7]) (l := [(2, _), (1, _), (0, _)]) (bH Tryz.func190 rfl rfl rfl) (A0 := fun _ => False) (fun j h => h.elim) rfl ?_
 refine aE ?_
 refine aB (E := E) ?_
 refine fJ rfl rfl (fun h => nomatch h) rfl ?_
 intro N4
 refine fJ rfl rfl (fun h => nomatch h) rfl ?_
 intro N5
 refine cL (cs := (.int .i64 0 :: .int .i64 0 :: .string ⟨#[]⟩ :: .slice none 0 0 :: [])) rfl rfl (fun h => nomatch h) bW rfl rfl ?_
 intro N6
 refine aC rfl rfl rfl ?_
 refine aD ?_
 refine aE ?_
 refine aB (E := E) ?_
 refine aC rfl rfl rfl ?_
 refine aD ?_
 refine aE ?_
 refine aB (E := E) ?_
 refine aA rfl rfl rfl ?_
 refine aF rfl rfl rfl rfl (by first | exact aS (by first | rfl | assumption | decide) | exact aT (by first | rfl | assumption | decide)) ?_
 refine aA rfl rfl rfl ?_
 first | refine aA rfl rfl rfl ?_ | refine aG rfl rfl rfl ?_
 first | refine aF rfl rfl rfl rfl (by first | exact aS (by first | rfl | assumption | decide) | exact aT (by first | rfl | assumption | decide)) ?_ | refine aG rfl rfl rfl ?_
 first | refine aP rfl rfl rfl rfl ?_ | refine aO rfl rfl rfl rfl ?_
 refine aC rfl rfl rfl ?_
 refine aD ?_
 refine aE ?_
 refine bR ?_
 refine aE ?_
 refine aB (E := E) ?_
 refine bK (o' := 0) rfl rfl rfl Tryz.underlying70 rfl gS rfl rfl ?_
 refine bU rfl rfl rfl (by first | exact cM Tryz.underlying3 rfl (by repeat (first | exact List.Mem.head _ | apply List.Mem.tail | apply List.mem_append_right)) (by first | exact aN rfl | rfl) | exact cE Tryz.underlying3 rfl (by first | assumption | exact InA.add (by assumption) | exact InA.add (InA.add (by assumption))) (by assumption)) ?_
 refine bK (o' := 0) rfl rfl rfl Tryz.underlying70 rfl gS rfl rfl ?_
 refine bU rfl rfl rfl (by first | exact cM Tryz.underlying3 rfl (by repeat (first | exact List.Mem.head _ | apply List.Mem.tail | apply List.mem_append_right)) (by first | exact aN rfl | rfl) | exact cE Tryz.underlying3 rfl (by first | assumption | exact InA.add (by assumption) | exact InA.add (InA.add (by assumption))) (by assumption)) ?_
 refine aF rfl rfl rfl rfl (by first | exact cG (by first | rfl | assumption | omega) | exact cJ (by first | rfl | assumption | omega)) ?_
 refine aC rfl rfl rfl ?_
 refine aD ?_
 refine aJ rfl ?_
 refine aE ?_
 refine aE ?_
 refine aB (E := E) ?_
 refine bK (o' := 0) rfl rfl rfl Tryz.underlying70 rfl gS rfl rfl ?_
 refine bU rfl rfl rfl (by first | exact cM Tryz.underlying3 rfl (by repeat (first | exact List.Mem.head _ | apply List.Mem.tail | apply List.mem_append_right)) (by first | exact aN rfl | rfl) | exact cE Tryz.underlying3 rfl (by first | assumption | exact InA.add (by assumption) | exact InA.add (InA.add (by assumption))) (by assumption)) ?_
 refine aF rfl rfl rfl rfl (by first | exact bF (by first | rfl | assumption | omega) | exact bC (by first | rfl | assumption | omega)) ?_
 refine aC rfl rfl rfl ?_
 refine aD ?_
 refine bP rfl ?_
 refine aV ?_
 refine aR ?_
 refine bP rfl ?_
 refine aB (E := E) ?_
 refine bK (o' := 1) rfl rfl rfl Tryz.underlying70 rfl gS rfl rfl ?_
 refine bU rfl rfl rfl (by first | exact cM Tryz.underlying3 rfl (by repeat (first | exact List.Mem.head _ | apply List.Mem.tail | apply List.mem_append_right)) (by first | exact aN rfl | rfl) | exact cE Tryz.underlying3 rfl (by first | assumption | exact InA.add (by assumption) | exact InA.add (InA.add (by assumption))) (by assumption)) ?_
 refine bK (o' := 1) rfl rfl rfl Tryz.underlying70 rfl gS rfl rfl ?_
 refine bU rfl rfl rfl (by first | exact cM Tryz.underlying3 rfl (by repeat (first | exact List.Mem.head _ | apply List.Mem.tail | apply List.mem_append_right)) (by first | exact aN rfl | rfl) | exact cE Tryz.underlying3 rfl (by first | assumption | exact InA.add (by assumption) | exact InA.add (InA.add (by assumption))) (by assumption)) ?_
 refine aZ rfl rfl (fun h => nomatch h) rfl uY (by repeat (first | exact Opvs.nil | apply Opvs.cons rfl)) (fun H hH => wA) ?_
 refine aC rfl rfl rfl ?_
 refine gV ?_
 refine cV ?_
 refine aR ?_
 refine aE ?_
 refine aE ?_
 refine aB (E := E) ?_
 refine aA rfl rfl rfl ?_
 refine aD ?_
 refine bR ?_
 refine aE ?_
 refine aB (E := E) ?_
 refine aF rfl rfl rfl rfl (by first | exact aS (by first | rfl | assumption | decide) | exact aT (by first | rfl | assumption | decide)) ?_
 refine aC rfl rfl rfl ?_
 refine aD ?_
 refine aJ rfl ?_
 refine aE ?_
 refine aB (E := E) ?_
 refine aF rfl rfl rfl rfl (by first | exact aS (by first | rfl | assumption | decide) | exact aT (by first | rfl | assumption | decide)) ?_
 refine aC rfl rfl rfl ?_
 refine aD ?_
 refine aJ rfl ?_
 refine aE ?_
 refine aB (E := E) ?_
 refine aF rfl rfl rfl rfl (by first | exact aS (by first | rfl | assumption | decide) | exact aT (by first | rfl | assumption | decide)) ?_
 refine aC rfl rfl rfl ?_
 refine aD ?_
 refine aJ rfl ?_
 refine aE ?_
 refine aB (E := E) ?_
 refine aF rfl rfl rfl rfl (by first | exact aS (by first | rfl | assumption | decide) | exact aT (by first | rfl | assumption | decide)) ?_
 refine aC rfl rfl rfl ?_
 refine aD ?_
 refine bP rfl ?_
 refine aE ?_
 refine aB (E := E) ?_
 refine aA rfl rfl rfl ?_
 refine aF rfl rfl rfl rfl (by first | exact aLt _ _ a b | exact fZ (by omega) | exact jM (by omega)) ?_
 refine aZ rfl rfl (fun h => nomatch h) rfl wJ (by repeat (first | exact Opvs.nil | apply Opvs.cons rfl)) (fun H hH => vB) ?_
 refine cA rfl (fun h => nomatch h) rfl rfl bW (by first | exact aH _ _ | rfl) rfl (by repeat (first | exact .zero | apply Upd.succ)) (by first | exact bM rfl | exact bI rfl | exact bA rfl | exact bY rfl | rfl) (by first | exact aM rfl rfl | exact aM rfl (aH _ _) | exact aK rfl | exact Nat.le_of_ble_eq_true rfl | omega) (fun h => nomatch h) ?_
 refine aC rfl rfl rfl ?_
 refine aD ?_
 refine bX ?_
 refine bN ?_
 refine bB ?_
 refine cW (.cell rfl (by first | exact cD Tryz.underlying70 rfl bW rfl (by repeat (first | exact List.Mem.head _ | apply List.Mem.tail | apply List.mem_append_right)) (by first | exact aK rfl | exact Nat.le_of_ble_eq_true rfl | decide | omega) (by first | exact bD | exact take_all rfl | exact aW rfl | rfl) | exact bZ Tryz.underlying70 rfl bW rfl (by first | assumption | exact InA.add (by assumption) | exact InA.add (InA.add (by assumption))) (by assumption)) (.tmp rfl .nil)) ?_
 exact fun H hH => ⟨rfl, hH.kept⟩

end Go.Proofs.YthgfcpgjabodoaaGreatDoor
