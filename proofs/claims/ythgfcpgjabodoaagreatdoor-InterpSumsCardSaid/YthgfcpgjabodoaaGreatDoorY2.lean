/-
  InterpSums: the walk.
-/
import Derived.Test.YthgfcpgjabodoaaGreatDoorY1
import Derived.Test.YthgfcpgjabodoaaGreatDoorA
set_option linter.unusedVariables false
set_option linter.unusedSimpArgs false
set_option maxRecDepth 100000
namespace Go.Proofs.YthgfcpgjabodoaaGreatDoor
open Go Go.AM
theorem zY (b : Bool) : (shB b).length ≤ 5 := by cases b <;> simp [shB]
theorem lF {n : Int} (h0 : -9223372036854775808 ≤ n) (h1 : n ≤ 9223372036854775807) : (Lib.itoa n).length ≤ 21 := It.txt_le (y := .num n) ⟨h0, h1⟩
set_option maxHeartbeats 1000000 in
theorem aNg {S : AH} {a b : Int} (hT : Tab S) (h : a < -2147483648 ∨ 2147483648 < a ∨ b < -2147483648 ∨ 2147483648 < b) : XCall Tryz.prog 4 [.int .i64 a, .int .i64 b] S fun v H' => v = .bool true ∧ Kept S.nx S H' := by
 refine cP (E := E) (n := 126) (rs := [.tmp 4]) (l := [(1, _), (0, _)]) (bH Tryz.func4 rfl rfl rfl) (A0 := fun _ => False) (fun j h => h.elim) rfl ?_
 refine aE ?_
 refine aB (E := E) ?_
 refine aC rfl rfl rfl ?_
 refine aD ?_
 refine aE ?_
 refine aE ?_
 rcases (show a < -2147483648 ∨ (¬ a < -2147483648 ∧ 2147483648 < a) ∨ (¬ a < -2147483648 ∧ ¬ 2147483648 < a ∧ b < -2147483648) ∨ (¬ a < -2147483648 ∧ ¬ 2147483648 < a ∧ ¬ b < -2147483648 ∧ 2147483648 < b) by omega) with h | ⟨h1, h⟩ | ⟨h1, h2, h⟩ | ⟨h1, h2, h3, h⟩
 ·skip
  refine aB (E := E) ?_
  refine aA rfl rfl rfl ?_
  refine aF rfl rfl rfl rfl (by first | exact aX (by omega) | exact aU (by omega)) ?_
  refine aA rfl rfl rfl ?_
  first | refine aA rfl rfl rfl ?_ | refine aG rfl rfl rfl ?_
  first | refine aF rfl rfl rfl rfl (by first | exact bO (by omega) | exact bE (by omega)) ?_ | refine aG rfl rfl rfl ?_
  first | refine aP rfl rfl rfl rfl ?_ | refine aO rfl rfl rfl rfl ?_
  refine aA rfl rfl rfl ?_
  first | refine aA rfl rfl rfl ?_ | refine aG rfl rfl rfl ?_
  first | refine aF rfl rfl rfl rfl (by first | exact aX (by omega) | exact aU (by omega)) ?_ | refine aG rfl rfl rfl ?_
  first | refine aP rfl rfl rfl rfl ?_ | refine aO rfl rfl rfl rfl ?_
  refine aA rfl rfl rfl ?_
  first | refine aA rfl rfl rfl ?_ | refine aG rfl rfl rfl ?_
  first | refine aF rfl rfl rfl rfl (by first | exact bO (by omega) | exact bE (by omega)) ?_ | refine aG rfl rfl rfl ?_
  first | refine aP rfl rfl rfl rfl ?_ | refine aO rfl rfl rfl rfl ?_
  refine aD ?_
  refine bP rfl ?_
  refine aE ?_
  refine aB (E := E) ?_
  refine aZ rfl rfl (fun h => nomatch h) rfl aKl (by repeat (first | exact Opvs.nil | apply Opvs.cons rfl)) (fun H hH => mZ (hT.at hH.kept.w0.symm)) ?_
  refine aC rfl rfl rfl ?_
  refine aD ?_
  refine bX ?_
  refine bB ?_
  refine bQ (.tmp rfl .nil) ?_
  exact fun H hH => ⟨rfl, hH.kept⟩
 ·skip
  refine aB (E := E) ?_
  refine aA rfl rfl rfl ?_
  refine aF rfl rfl rfl rfl (by first | exact aX (by omega) | exact aU (by omega)) ?_
  refine aA rfl rfl rfl ?_
  first | refine aA rfl rfl rfl ?_ | refine aG rfl rfl rfl ?_
  first | refine aF rfl rfl rfl rfl (by first | exact bO (by omega) | exact bE (by omega)) ?_ | refine aG rfl rfl rfl ?_
  first | refine aP rfl rfl rfl rfl ?_ | refine aO rfl rfl rfl rfl ?_
  refine aA rfl rfl rfl ?_
  first | refine aA rfl rfl rfl ?_ | refine aG rfl rfl rfl ?_
  first | refine aF rfl rfl rfl rfl (by first | exact aX (by omega) | exact aU (by omega)) ?_ | refine aG rfl rfl rfl ?_
  first | refine aP rfl rfl rfl rfl ?_ | refine aO rfl rfl rfl rfl ?_
  refine aA rfl rfl rfl ?_
  first | refine aA rfl rfl rfl ?_ | refine aG rfl rfl rfl ?_
  first | refine aF rfl rfl rfl rfl (by first | exact bO (by omega) | exact bE (by omega)) ?_ | refine aG rfl rfl rfl ?_
  first | refine aP rfl rfl rfl rfl ?_ | refine aO rfl rfl rfl rfl ?_
  refine aD ?_
  refine bP rfl ?_
  refine aE ?_
  refine aB (E := E) ?_
  refine aZ rfl rfl (fun h => nomatch h) rfl aKl (by repeat (first | exact Opvs.nil | apply Opvs.cons rfl)) (fun H hH => mZ (hT.at hH.kept.w0.symm)) ?_
  refine aC rfl rfl rfl ?_
  refine aD ?_
  refine bX ?_
  refine bB ?_
  refine bQ (.tmp rfl .nil) ?_
  exact fun H hH => ⟨rfl, hH.kept⟩
 ·skip
  refine aB (E := E) ?_
  refine aA rfl rfl rfl ?_
  refine aF rfl rfl rfl rfl (by first | exact aX (by omega) | exact aU (by omega)) ?_
  refine aA rfl rfl rfl ?_
  first | refine aA rfl rfl rfl ?_ | refine aG rfl rfl rfl ?_
  first | refine aF rfl rfl rfl rfl (by first | exact bO (by omega) | exact bE (by omega)) ?_ | refine aG rfl rfl rfl ?_
  first | refine aP rfl rfl rfl rfl ?_ | refine aO rfl rfl rfl rfl ?_
  refine aA rfl rfl rfl ?_
  first | refine aA rfl rfl rfl ?_ | refine aG rfl rfl rfl ?_
  first | refine aF rfl rfl rfl rfl (by first | exact aX (by omega) | exact aU (by omega)) ?_ | refine aG rfl rfl rfl ?_
  first | refine aP rfl rfl rfl rfl ?_ | refine aO rfl rfl rfl rfl ?_
  refine aA rfl rfl rfl ?_
  first | refine aA rfl rfl rfl ?_ | refine aG rfl rfl rfl ?_
  first | refine aF rfl rfl rfl rfl (by first | exact bO (by omega) | exact bE (by omega)) ?_ | refine aG rfl rfl rfl ?_
  first | refine aP rfl rfl rfl rfl ?_ | refine aO rfl rfl rfl rfl ?_
  refine aD ?_
  refine bP rfl ?_
  refine aE ?_
  refine aB (E := E) ?_
  refine aZ rfl rfl (fun h => nomatch h) rfl aKl (by repeat (first | exact Opvs.nil | apply Opvs.cons rfl)) (fun H hH => mZ (hT.at hH.kept.w0.symm)) ?_
  refine aC rfl rfl rfl ?_
  refine aD ?_
  refine bX ?_
  refine bB ?_
  refine bQ (.tmp rfl .nil) ?_
  exact fun H hH => ⟨rfl, hH.kept⟩
 ·skip
  refine aB (E := E) ?_
  refine aA rfl rfl rfl ?_
  refine aF rfl rfl rfl rfl (by first | exact aX (by omega) | exact aU (by omega)) ?_
  refine aA rfl rfl rfl ?_
  first | refine aA rfl rfl rfl ?_ | refine aG rfl rfl rfl ?_
  first | refine aF rfl rfl rfl rfl (by first | exact bO (by omega) | exact bE (by omega)) ?_ | refine aG rfl rfl rfl ?_
  first | refine aP rfl rfl rfl rfl ?_ | refine aO rfl rfl rfl rfl ?_
  refine aA rfl rfl rfl ?_
  first | refine aA rfl rfl rfl ?_ | refine aG rfl rfl rfl ?_
  first | refine aF rfl rfl rfl rfl (by first | exact aX (by omega) | exact aU (by omega)) ?_ | refine aG rfl rfl rfl ?_
  first | refine aP rfl rfl rfl rfl ?_ | refine aO rfl rfl rfl rfl ?_
  refine aA rfl rfl rfl ?_
  first | refine aA rfl rfl rfl ?_ | refine aG rfl rfl rfl ?_
  first | refine aF rfl rfl rfl rfl (by first | exact bO (by omega) | exact bE (by omega)) ?_ | refine aG rfl rfl rfl ?_
  first | refine aP rfl rfl rfl rfl ?_ | refine aO rfl rfl rfl rfl ?_
  refine aD ?_
  refine bP rfl ?_
  refine aE ?_
  refine aB (E := E) ?_
  refine aZ rfl rfl (fun h => nomatch h) rfl aKl (by repeat (first | exact Opvs.nil | apply Opvs.cons rfl)) (fun H hH => mZ (hT.at hH.kept.w0.symm)) ?_
  refine aC rfl rfl rfl ?_
  refine aD ?_
  refine bX ?_
  refine bB ?_
  refine bQ (.tmp rfl .nil) ?_
  exact fun H hH => ⟨rfl, hH.kept⟩

set_option maxHeartbeats 4000000 in
theorem aNp {S : AH} {a b : Int} (hT : Tab S) (ha0 : -2147483648 ≤ a) (ha1 : a ≤ 2147483648) (hb0 : -2147483648 ≤ b) (hb1 : b ≤ 2147483648) (hl : mV ⟨⟨scS a b⟩⟩ (wS a b) 0 0) (hl2 : (b = 0 ∧ ∃ at0, mV ⟨⟨scT a b⟩⟩ [] at0 1) ∨ (b ≠ 0 ∧ mV ⟨⟨scT a b⟩⟩ [116, 114, 117, 101, 32, 116, 114, 117, 101, 10] 0 0)) : XCall Tryz.prog 4 [.int .i64 a, .int .i64 b] S fun v H' => v = .bool true ∧ Kept S.nx S H' := by
 have hab : (a * b).natAbs ≤ 4611686018427387904 := by rw [Int.natAbs_mul]; exact Nat.mul_le_mul (show a.natAbs ≤ 2147483648 by omega) (show b.natAbs ≤ 2147483648 by omega)
 have l1 := lF (n := a) (by omega) (by omega)
 have l2 := lF (n := b) (by omega) (by omega)
 have l3 := lF (n := a + b) (by omega) (by omega)
 have l4 := lF (n := a - b) (by omega) (by omega)
 have l5 := lF (n := a * b) (by omega) (by omega)
 have l6 := lF (n := -a) (by omega) (by omega)
 have l7 := zY (decide (a < b))
 have l8 := zY (decide (a = b))
 have l9 := zY (decide (b ≤ a))
 have hw : wS a b ≠ [] := by simp [wS]
 refine cP (E := E) (n := 126) (rs := [.tmp 4]) (l := [(1, _), (0, _)]) (bH Tryz.func4 rfl rfl rfl) (A0 := fun _ => False) (fun j h => h.elim) rfl ?_
 refine aE ?_
 refine aB (E := E) ?_
 refine aC rfl rfl rfl ?_
 refine aD ?_
 refine aE ?_
 refine aE ?_
 refine aB (E := E) ?_
 refine aA rfl rfl rfl ?_
 refine aF rfl rfl rfl rfl (by first | exact aX (by omega) | exact aU (by omega)) ?_
 refine aA rfl rfl rfl ?_
 first | refine aA rfl rfl rfl ?_ | refine aG rfl rfl rfl ?_
 first | refine aF rfl rfl rfl rfl (by first | exact bO (by omega) | exact bE (by omega)) ?_ | refine aG rfl rfl rfl ?_
 first | refine aP rfl rfl rfl rfl ?_ | refine aO rfl rfl rfl rfl ?_
 refine aA rfl rfl rfl ?_
 first | refine aA rfl rfl rfl ?_ | refine aG rfl rfl rfl ?_
 first | refine aF rfl rfl rfl rfl (by first | exact aX (by omega) | exact aU (by omega)) ?_ | refine aG rfl rfl rfl ?_
 first | refine aP rfl rfl rfl rfl ?_ | refine aO rfl rfl rfl rfl ?_
 refine aA rfl rfl rfl ?_
 first | refine aA rfl rfl rfl ?_ | refine aG rfl rfl rfl ?_
 first | refine aF rfl rfl rfl rfl (by first | exact bO (by omega) | exact bE (by omega)) ?_ | refine aG rfl rfl rfl ?_
 first | refine aP rfl rfl rfl rfl ?_ | refine aO rfl rfl rfl rfl ?_
 refine aD ?_
 refine aJ rfl ?_
 refine aV ?_
 refine aR ?_
 refine aE ?_
 refine aB (E := E) ?_
 refine aA rfl rfl rfl ?_
 refine aZ rfl rfl (fun h => nomatch h) rfl aHb (by repeat (first | exact Opvs.nil | apply Opvs.cons rfl)) (fun H hH => oF (hT.at hH.kept.w0.symm) (by omega) (by omega)) ?_
 refine aF rfl rfl rfl rfl (by first | exact cQ (by show List.length _ + List.length _ ≤ _; simp only [List.length_append, List.length_cons, List.length_nil]; omega) rfl | exact bG (by omega) | exact aI (aL (by omega) (by omega)) | exact aI rfl) ?_
 refine aF rfl rfl rfl rfl (by first | exact cQ (by show List.length _ + List.length _ ≤ _; simp only [List.length_append, List.length_cons, List.length_nil]; omega) rfl | exact bG (by omega) | exact aI (aL (by omega) (by omega)) | exact aI rfl) ?_
 refine aA rfl rfl rfl ?_
 refine aZ rfl rfl (fun h => nomatch h) rfl aHb (by repeat (first | exact Opvs.nil | apply Opvs.cons rfl)) (fun H hH => oF (hT.at hH.kept.w0.symm) (by omega) (by omega)) ?_
 refine aF rfl rfl rfl rfl (by first | exact cQ (by show List.length _ + List.length _ ≤ _; simp only [List.length_append, List.length_cons, List.length_nil]; omega) rfl | exact bG (by omega) | exact aI (aL (by omega) (by omega)) | exact aI rfl) ?_
 refine aF rfl rfl rfl rfl (by first | exact cQ (by show List.length _ + List.length _ ≤ _; simp only [List.length_append, List.length_cons, List.length_nil]; omega) rfl | exact bG (by omega) | exact aI (aL (by omega) (by omega)) | exact aI rfl) ?_
 refine aC rfl rfl rfl ?_
 refine aC rfl rfl rfl ?_
 refine aD ?_
 refine aE ?_
 refine aB (E := E) ?_
 refine eV rfl rfl (by repeat (first | exact Opps.nil | apply Opps.cons rfl)) (by rfl) ?_
 refine aA rfl rfl rfl ?_
 refine aF rfl rfl rfl rfl (by first | exact cQ (by show List.length _ + List.length _ ≤ _; simp only [List.length_append, List.length_cons, List.length_nil]; omega) rfl | exact bG (by omega) | exact aI (aL (by omega) (by omega)) | exact aI rfl) ?_
 refine aF rfl rfl rfl rfl (by first | exact cQ (by show List.length _ + List.length _ ≤ _; simp only [List.length_append, List.length_cons, List.length_nil]; omega) rfl | exact bG (by omega) | exact aI (aL (by omega) (by omega)) | exact aI rfl) ?_
 refine aA rfl rfl rfl ?_
 refine aF rfl rfl rfl rfl (by first | exact cQ (by show List.length _ + List.length _ ≤ _; simp only [List.length_append, List.length_cons, List.length_nil]; omega) rfl | exact bG (by omega) | exact aI (aL (by omega) (by omega)) | exact aI rfl) ?_
 refine aF rfl rfl rfl rfl (by first | exact cQ (by show List.length _ + List.length _ ≤ _; simp only [List.length_append, List.length_cons, List.length_nil]; omega) rfl | exact bG (by omega) | exact aI (aL (by omega) (by omega)) | exact aI rfl) ?_
 refine aZ rfl rfl (fun h => nomatch h) rfl aRj (by repeat (first | exact Opvs.nil | apply Opvs.cons rfl)) (fun H hH => aIo (s := ⟨⟨scS a b⟩⟩) (hT.at hH.kept.w0.symm) hw hl) ?_
 refine aA rfl rfl rfl ?_
 refine bT rfl rfl rfl rfl ?_
 refine bT rfl rfl rfl rfl ?_
 refine bT rfl rfl rfl rfl ?_
 refine bT rfl rfl rfl rfl ?_
 refine cL (cs := (.int .i64 0 :: .int .i64 0 :: .int .i64 0 :: .slice none 0 0 :: .int .i64 0 :: .int .i64 0 :: .int .i64 0 :: .slice none 0 0 :: .slice none 0 0 :: .slice none 0 0 :: [])) rfl rfl (fun h => nomatch h) hP rfl rfl ?_
 intro N7
 refine cA rfl (fun h => nomatch h) rfl rfl hP (by first | exact aH _ _ | rfl) rfl (by repeat (first | exact .zero | apply Upd.succ)) (by first | exact bM rfl | exact bI rfl | exact bA rfl | exact bY rfl | rfl) (by first | exact aM rfl rfl | exact aM rfl (aH _ _) | exact aK rfl | exact Nat.le_of_ble_eq_true rfl | omega) (fun h => nomatch h) ?_
 refine aC rfl rfl rfl ?_
 refine aC rfl rfl rfl ?_
 refine aC rfl rfl rfl ?_
 refine aD ?_
 refine aE ?_
 refine aB (E := E) ?_
 refine aA rfl rfl rfl ?_
 refine aA rfl rfl rfl ?_
 refine aF rfl rfl rfl rfl (by first | exact bG (by omega) | exact aI (aL (by omega) (by omega)) | exact aI rfl) ?_
 refine aZ rfl rfl (fun h => nomatch h) rfl aHb (by repeat (first | exact Opvs.nil | apply Opvs.cons rfl)) (fun H hH => oF (hT.at hH.kept.w0.symm) (by omega) (by omega)) ?_
 refine aF rfl rfl rfl rfl (by first | exact cQ (by show List.length _ + List.length _ ≤ _; simp only [List.length_append, List.length_cons, List.length_nil]; omega) rfl | exact bG (by omega) | exact aI (aL (by omega) (by omega)) | exact aI rfl) ?_
 refine aA rfl rfl rfl ?_
 refine aA rfl rfl rfl ?_
 refine aF rfl rfl rfl rfl (by first | exact dA (by omega) | exact bV (aL (by omega) (by omega)) | exact bV rfl) ?_
 refine aZ rfl rfl (fun h => nomatch h) rfl aHb (by repeat (first | exact Opvs.nil | apply Opvs.cons rfl)) (fun H hH => oF (hT.at hH.kept.w0.symm) (by omega) (by omega)) ?_
 refine aF rfl rfl rfl rfl (by first | exact cQ (by show List.length _ + List.length _ ≤ _; simp only [List.length_append, List.length_cons, List.length_nil]; omega) rfl | exact bG (by omega) | exact aI (aL (by omega) (by omega)) | exact aI rfl) ?_
 refine aF rfl rfl rfl rfl (by first | exact cQ (by show List.length _ + List.length _ ≤ _; simp only [List.length_append, List.length_cons, List.length_nil]; omega) rfl | exact bG (by omega) | exact aI (aL (by omega) (by omega)) | exact aI rfl) ?_
 refine aA rfl rfl rfl ?_
 refine aA rfl rfl rfl ?_
 refine aF rfl rfl rfl rfl (by first | exact uF (aL (by omega) (by omega))) ?_
 refine aZ rfl rfl (fun h => nomatch h) rfl aHb (by repeat (first | exact Opvs.nil | apply Opvs.cons rfl)) (fun H hH => oF (hT.at hH.kept.w0.symm) (by omega) (by omega)) ?_
 refine aF rfl rfl rfl rfl (by first | exact cQ (by show List.length _ + List.length _ ≤ _; simp only [List.length_append, List.length_cons, List.length_nil]; omega) rfl | exact bG (by omega) | exact aI (aL (by omega) (by omega)) | exact aI rfl) ?_
 refine aF rfl rfl rfl rfl (by first | exact cQ (by show List.length _ + List.length _ ≤ _; simp only [List.length_append, List.length_cons, List.length_nil]; omega) rfl | exact bG (by omega) | exact aI (aL (by omega) (by omega)) | exact aI rfl) ?_
 refine aA rfl rfl rfl ?_
 refine aCh rfl rfl rfl (show aun .neg (.int .i64 a) = some (.int .i64 (-a)) by simp only [aun]; congr 2; rw [aL (by omega) (by omega)]; omega) ?_
 refine aZ rfl rfl (fun h => nomatch h) rfl aHb (by repeat (first | exact Opvs.nil | apply Opvs.cons rfl)) (fun H hH => oF (hT.at hH.kept.w0.symm) (by omega) (by omega)) ?_
 refine aF rfl rfl rfl rfl (by first | exact cQ (by show List.length _ + List.length _ ≤ _; simp only [List.length_append, List.length_cons, List.length_nil]; omega) rfl | exact bG (by omega) | exact aI (aL (by omega) (by omega)) | exact aI rfl) ?_
 refine aF rfl rfl rfl rfl (by first | exact cQ (by show List.length _ + List.length _ ≤ _; simp only [List.length_append, List.length_cons, List.length_nil]; omega) rfl | exact bG (by omega) | exact aI (aL (by omega) (by omega)) | exact aI rfl) ?_
 refine aA rfl rfl rfl ?_
 refine aA rfl rfl rfl ?_
 refine aF rfl rfl rfl rfl (by first | exact (show cS _ .lss _ (.int .i64 a) (.int .i64 b) = some (.bool (decide (a < b))) by simp [cS, dE]) | exact aX (by omega) | exact aU (by omega)) ?_
 refine aZ rfl rfl (fun h => nomatch h) rfl aRn (by repeat (first | exact Opvs.nil | apply Opvs.cons rfl)) (fun H hH => aAp) ?_
 refine aF rfl rfl rfl rfl (by first | exact cQ (by show List.length _ + List.length _ ≤ _; simp only [List.length_append, List.length_cons, List.length_nil]; omega) rfl | exact bG (by omega) | exact aI (aL (by omega) (by omega)) | exact aI rfl) ?_
 refine aF rfl rfl rfl rfl (by first | exact cQ (by show List.length _ + List.length _ ≤ _; simp only [List.length_append, List.length_cons, List.length_nil]; omega) rfl | exact bG (by omega) | exact aI (aL (by omega) (by omega)) | exact aI rfl) ?_
 refine aA rfl rfl rfl ?_
 refine aA rfl rfl rfl ?_
 refine aF rfl rfl rfl rfl (by first | exact (show cS _ .eql _ (.int .i64 a) (.int .i64 b) = some (.bool (decide (a = b))) by by_cases h : a = b <;> simp [cS, dE, h]) | exact bF (by first | rfl | assumption | omega) | exact bC (by first | rfl | assumption | omega)) ?_
 refine aZ rfl rfl (fun h => nomatch h) rfl aRn (by repeat (first | exact Opvs.nil | apply Opvs.cons rfl)) (fun H hH => aAp) ?_
 refine aF rfl rfl rfl rfl (by first | exact cQ (by show List.length _ + List.length _ ≤ _; simp only [List.length_append, List.length_cons, List.length_nil]; omega) rfl | exact bG (by omega) | exact aI (aL (by omega) (by omega)) | exact aI rfl) ?_
 refine aF rfl rfl rfl rfl (by first | exact cQ (by show List.length _ + List.length _ ≤ _; simp only [List.length_append, List.length_cons, List.length_nil]; omega) rfl | exact bG (by omega) | exact aI (aL (by omega) (by omega)) | exact aI rfl) ?_
 refine aA rfl rfl rfl ?_
 refine aA rfl rfl rfl ?_
 refine aF rfl rfl rfl rfl (by first | exact (show cS _ .geq _ (.int .i64 a) (.int .i64 b) = some (.bool (decide (b ≤ a))) by simp [cS, dE]) | exact fA (by omega) | exact gG (by omega)) ?_
 refine aZ rfl rfl (fun h => nomatch h) rfl aRn (by repeat (first | exact Opvs.nil | apply Opvs.cons rfl)) (fun H hH => aAp) ?_
 refine aF rfl rfl rfl rfl (by first | exact cQ (by show List.length _ + List.length _ ≤ _; simp only [List.length_append, List.length_cons, List.length_nil]; omega) rfl | exact bG (by omega) | exact aI (aL (by omega) (by omega)) | exact aI rfl) ?_
 refine aF rfl rfl rfl rfl (by first | exact cQ (by show List.length _ + List.length _ ≤ _; simp only [List.length_append, List.length_cons, List.length_nil]; omega) rfl | exact bG (by omega) | exact aI (aL (by omega) (by omega)) | exact aI rfl) ?_
 refine aC rfl rfl rfl ?_
 refine aD ?_
 refine aE ?_
 refine aE ?_
 refine aB (E := E) ?_
 refine aA rfl rfl rfl ?_
 refine aA rfl rfl rfl ?_
 refine aF rfl rfl rfl rfl (by first | exact uL rfl | exact uL (by first | rfl | assumption | decide) | exact aDf (by first | rfl | assumption | decide)) ?_
 refine aA rfl rfl rfl ?_
 first | refine aA rfl rfl rfl ?_ | refine aG rfl rfl rfl ?_
 first | refine aF rfl rfl rfl rfl (by first | exact cG rfl | exact cG (by first | rfl | assumption | omega) | exact cJ (by first | rfl | assumption | omega)) ?_ | refine aG rfl rfl rfl ?_
 first | refine aP rfl rfl rfl rfl ?_ | refine aO rfl rfl rfl rfl ?_
 refine aA rfl rfl rfl ?_
 first | refine aZ rfl rfl (fun h => nomatch h) rfl aKl (by repeat (first | exact Opvs.nil | apply Opvs.cons rfl)) (fun H hH => mZ (hT.at hH.kept.w0.symm)) ?_ | refine aG rfl rfl rfl ?_
 first | refine aDd rfl rfl rfl rfl ?_ | refine aG rfl rfl rfl ?_
 first | refine aP rfl rfl rfl rfl ?_ | refine aO rfl rfl rfl rfl ?_
 refine aD ?_
 refine aJ rfl ?_
 refine aV ?_
 refine aR ?_
 refine aE ?_
 rcases hl2 with ⟨hb, at0, hl2⟩ | ⟨hb, hl2⟩
 ·skip
  refine aB (E := E) ?_
  refine eV rfl rfl (by repeat (first | exact Opps.nil | apply Opps.cons rfl)) (by rfl) ?_
  refine aA rfl rfl rfl ?_
  refine aF rfl rfl rfl rfl (by first | exact cQ (by show List.length _ + List.length _ ≤ _; simp only [List.length_append, List.length_cons, List.length_nil]; omega) rfl | exact bG (by omega) | exact aI (aL (by omega) (by omega)) | exact aI rfl) ?_
  refine aF rfl rfl rfl rfl (by first | exact cQ (by show List.length _ + List.length _ ≤ _; simp only [List.length_append, List.length_cons, List.length_nil]; omega) rfl | exact bG (by omega) | exact aI (aL (by omega) (by omega)) | exact aI rfl) ?_
  refine aA rfl rfl rfl ?_
  refine aF rfl rfl rfl rfl (by first | exact cQ (by show List.length _ + List.length _ ≤ _; simp only [List.length_append, List.length_cons, List.length_nil]; omega) rfl | exact bG (by omega) | exact aI (aL (by omega) (by omega)) | exact aI rfl) ?_
  refine aF rfl rfl rfl rfl (by first | exact cQ (u := ⟨⟨[59, 32, 108, 101, 116, 32, 114, 32, 61, 32, 97, 32, 37, 32, 98, 59, 32, 112, 114, 105, 110, 116, 40, 97, 32, 47, 32, 98, 32, 42, 32, 98, 32, 43, 32, 114, 32, 61, 61, 32, 97, 44, 32, 98, 32, 62, 32, 48, 32, 38, 38, 32, 48, 32, 60, 61, 32, 114, 32, 38, 38, 32, 114, 32, 60, 32, 98, 32, 124, 124, 32, 98, 32, 60, 32, 48, 32, 38, 38, 32, 98, 32, 60, 32, 114, 32, 38, 38, 32, 114, 32, 60, 61, 32, 48, 41, 59]⟩⟩) (by show List.length _ + List.length _ ≤ _; simp only [List.length_append, List.length_cons, List.length_nil]; omega) rfl | exact bG (by omega) | exact aI (aL (by omega) (by omega)) | exact aI rfl) ?_
  refine aZ rfl rfl (fun h => nomatch h) rfl aRj (by repeat (first | exact Opvs.nil | apply Opvs.cons rfl)) (fun H hH => aPo (s := ⟨⟨scT a b⟩⟩) (hT.at hH.kept.w0.symm) (by decide) hl2) ?_
  refine aA rfl rfl rfl ?_
  refine bT rfl rfl rfl rfl ?_
  refine bT rfl rfl rfl rfl ?_
  refine bT rfl rfl rfl rfl ?_
  refine bT rfl rfl rfl rfl ?_
  refine aC rfl rfl rfl ?_
  refine aC rfl rfl rfl ?_
  refine aD ?_
  refine aE ?_
  refine aE ?_
  refine aB (E := E) ?_
  refine aA rfl rfl rfl ?_
  refine aF rfl rfl rfl rfl (by first | exact bF hb | exact bC hb | exact bF (by first | rfl | assumption | omega) | exact bC (by first | rfl | assumption | omega)) ?_
  refine aD ?_
  refine bP rfl ?_
  refine aE ?_
  refine aB (E := E) ?_
  refine aA rfl rfl rfl ?_
  refine aF rfl rfl rfl rfl (by first | exact bF rfl | exact bF (by first | rfl | assumption | omega) | exact bC (by first | rfl | assumption | omega)) ?_
  refine aA rfl rfl rfl ?_
  first | refine aA rfl rfl rfl ?_ | refine aG rfl rfl rfl ?_
  first | refine aF rfl rfl rfl rfl (by first | exact aS rfl | exact aS (by first | rfl | assumption | decide) | exact aT (by first | rfl | assumption | decide)) ?_ | refine aG rfl rfl rfl ?_
  first | refine aP rfl rfl rfl rfl ?_ | refine aO rfl rfl rfl rfl ?_
  refine aC rfl rfl rfl ?_
  refine aD ?_
  refine bX ?_
  refine bB ?_
  refine bQ (.tmp rfl .nil) ?_
  exact fun H hH => ⟨rfl, hH.kept⟩
 ·skip
  refine aB (E := E) ?_
  refine eV rfl rfl (by repeat (first | exact Opps.nil | apply Opps.cons rfl)) (by rfl) ?_
  refine aA rfl rfl rfl ?_
  refine aF rfl rfl rfl rfl (by first | exact cQ (by show List.length _ + List.length _ ≤ _; simp only [List.length_append, List.length_cons, List.length_nil]; omega) rfl | exact bG (by omega) | exact aI (aL (by omega) (by omega)) | exact aI rfl) ?_
  refine aF rfl rfl rfl rfl (by first | exact cQ (by show List.length _ + List.length _ ≤ _; simp only [List.length_append, List.length_cons, List.length_nil]; omega) rfl | exact bG (by omega) | exact aI (aL (by omega) (by omega)) | exact aI rfl) ?_
  refine aA rfl rfl rfl ?_
  refine aF rfl rfl rfl rfl (by first | exact cQ (by show List.length _ + List.length _ ≤ _; simp only [List.length_append, List.length_cons, List.length_nil]; omega) rfl | exact bG (by omega) | exact aI (aL (by omega) (by omega)) | exact aI rfl) ?_
  refine aF rfl rfl rfl rfl (by first | exact cQ (u := ⟨⟨[59, 32, 108, 101, 116, 32, 114, 32, 61, 32, 97, 32, 37, 32, 98, 59, 32, 112, 114, 105, 110, 116, 40, 97, 32, 47, 32, 98, 32, 42, 32, 98, 32, 43, 32, 114, 32, 61, 61, 32, 97, 44, 32, 98, 32, 62, 32, 48, 32, 38, 38, 32, 48, 32, 60, 61, 32, 114, 32, 38, 38, 32, 114, 32, 60, 32, 98, 32, 124, 124, 32, 98, 32, 60, 32, 48, 32, 38, 38, 32, 98, 32, 60, 32, 114, 32, 38, 38, 32, 114, 32, 60, 61, 32, 48, 41, 59]⟩⟩) (by show List.length _ + List.length _ ≤ _; simp only [List.length_append, List.length_cons, List.length_nil]; omega) rfl | exact bG (by omega) | exact aI (aL (by omega) (by omega)) | exact aI rfl) ?_
  refine aZ rfl rfl (fun h => nomatch h) rfl aRj (by repeat (first | exact Opvs.nil | apply Opvs.cons rfl)) (fun H hH => aIo (s := ⟨⟨scT a b⟩⟩) (hT.at hH.kept.w0.symm) (by decide) hl2) ?_
  refine aA rfl rfl rfl ?_
  refine bT rfl rfl rfl rfl ?_
  refine bT rfl rfl rfl rfl ?_
  refine bT rfl rfl rfl rfl ?_
  refine bT rfl rfl rfl rfl ?_
  refine aC rfl rfl rfl ?_
  refine aC rfl rfl rfl ?_
  refine aD ?_
  refine aE ?_
  refine aE ?_
  refine aB (E := E) ?_
  refine aA rfl rfl rfl ?_
  refine aF rfl rfl rfl rfl (by first | exact bF hb | exact bC hb | exact bF (by first | rfl | assumption | omega) | exact bC (by first | rfl | assumption | omega)) ?_
  refine aD ?_
  refine aJ rfl ?_
  refine aV ?_
  refine aR ?_
  refine aE ?_
  refine aB (E := E) ?_
  refine aA rfl rfl rfl ?_
  refine aF rfl rfl rfl rfl (by first | exact bF rfl | exact bF (by first | rfl | assumption | omega) | exact bC (by first | rfl | assumption | omega)) ?_
  refine aA rfl rfl rfl ?_
  first | refine aA rfl rfl rfl ?_ | refine aG rfl rfl rfl ?_
  first | refine aF rfl rfl rfl rfl (by first | exact aS rfl | exact aS (by first | rfl | assumption | decide) | exact aT (by first | rfl | assumption | decide)) ?_ | refine aG rfl rfl rfl ?_
  first | refine aP rfl rfl rfl rfl ?_ | refine aO rfl rfl rfl rfl ?_
  refine aC rfl rfl rfl ?_
  refine aD ?_
  refine bX ?_
  refine bQ (.tmp rfl .nil) ?_
  exact fun H hH => ⟨rfl, hH.kept⟩

end Go.Proofs.YthgfcpgjabodoaaGreatDoor
