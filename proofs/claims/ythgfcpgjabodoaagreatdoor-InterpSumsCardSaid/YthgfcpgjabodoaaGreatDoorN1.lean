/-
  Reckoning.
-/
import Derived.Test.YthgfcpgjabodoaaGreatDoorM3
set_option linter.unusedVariables false
set_option linter.unusedSimpArgs false
set_option maxRecDepth 100000
namespace Go.Proofs.YthgfcpgjabodoaaGreatDoor
open Go Go.AM

/-- the whole part of a quotient, downwards -/
theorem uP {a b : Int} (hb : b ≠ 0) : a.fdiv b = (if a.tmod b ≠ 0 ∧ (decide (a < 0) != decide (b < 0)) = true then a.tdiv b - 1 else a.tdiv b) := by
 rw [Int.fdiv_eq_tdiv]
 have h1 : a.tmod b = 0 ↔ b ∣ a := ⟨Int.dvd_of_tmod_eq_zero, Int.tmod_eq_zero_of_dvd⟩
 by_cases hd : b ∣ a
 ·rw [if_pos hd, if_neg (fun q => q.1 (h1.2 hd)), Int.sub_zero]
 ·rw [if_neg hd]
  have hne : a.tmod b ≠ 0 := fun q => hd (h1.1 q)
  rcases Int.lt_or_le a 0 with ha | ha <;> rcases Int.lt_or_le b 0 with hb' | hb'
  ·rw [if_neg (by omega), if_neg (by omega), Int.sign_eq_neg_one_of_neg hb', if_neg (by simp [ha, hb'])]; omega
  ·rw [if_neg (by omega), if_pos hb', Int.sign_eq_one_of_pos (by omega), if_pos ⟨hne, by simp [ha, show ¬ b < 0 by omega]⟩]
  ·rw [if_pos ha, if_neg (by omega), if_pos ⟨hne, by simp [show ¬ a < 0 by omega, hb']⟩]
  ·rw [if_pos ha, if_pos hb', if_neg (by simp [show ¬ a < 0 by omega, show ¬ b < 0 by omega])]; omega
theorem aFk (a b : Int) : (a.tdiv b).natAbs ≤ a.natAbs := Int.natAbs_tdiv_le_natAbs a b
theorem aNf {S : AH} {x y : Nat} (hx : x < 18446744073709551616) (hy : y < 18446744073709551616) (h : x * y ≤ 4611686018427387904) : XCall Tryz.prog 215 [.int .u64 (x : Int), .int .u64 (y : Int)] S fun v H' => v = .tuple ⟨[.int .u64 0, .int .u64 ((x * y : Nat) : Int)]⟩ ∧ Kept S.nx S H' := by
 refine ⟨_, S, ⟨rfl, Kept.refl _ _⟩, rfl, fun π φ args' w hv hR => ?_⟩
 obtain rfl := fW hv rfl
 refine (Tryz.bits_Mul64 x y hx hy w).mono ?_
 rintro e w' ⟨rfl, rfl⟩
 rw [Nat.div_eq_of_lt (by omega), Nat.mod_eq_of_lt (by omega)]
 exact ⟨φ, _, _, S, List.prefix_refl _, rfl, VR.tuple' (VRs.cons (.int _ _) (VRs.cons (.int _ _) (VRs.nil φ))), hR, rfl, rfl, rfl⟩
theorem mJ {S : AH} {n : Int} : XCall Tryz.prog 149 [.int .i64 n] S fun v H' => v = .agg ⟨It.cs (.num (n))⟩ ∧ Kept S.nx S H' := by
 refine cP (E := E) (n := 5) (rs := [.cell 2 70]) (l := [(0, _)]) (bH Tryz.func149 rfl rfl rfl) (A0 := fun _ => False) (fun j h => h.elim) rfl ?_
 refine aE ?_
 refine aB (E := E) ?_
 refine cL (cs := (.int .i64 0 :: .int .i64 0 :: .string ⟨#[]⟩ :: .slice none 0 0 :: [])) rfl rfl (fun h => nomatch h) bW rfl rfl ?_
 intro N2
 refine aD ?_
 refine aE ?_
 refine aB (E := E) ?_
 refine aA rfl rfl rfl ?_
 refine eV rfl rfl (by repeat (first | exact Opps.nil | apply Opps.cons rfl)) (by rfl) ?_
 refine cA rfl (fun h => nomatch h) rfl rfl bW (by first | exact aH _ _ | rfl) rfl (by repeat (first | exact .zero | apply Upd.succ)) (by first | exact bM rfl | exact bI rfl | exact bA rfl | exact bY rfl | rfl) (by first | exact aM rfl rfl | exact aM rfl (aH _ _) | exact aK rfl | exact Nat.le_of_ble_eq_true rfl | omega) (fun h => nomatch h) ?_
 refine aD ?_
 refine bX ?_
 refine bQ (.cell rfl (by first | exact cD Tryz.underlying70 rfl bW rfl (by repeat (first | exact List.Mem.head _ | apply List.Mem.tail | apply List.mem_append_right)) (by first | exact aK rfl | exact Nat.le_of_ble_eq_true rfl | decide | omega) (by first | exact bD | exact take_all rfl | exact aW rfl | rfl) | exact bZ Tryz.underlying70 rfl bW rfl (by first | assumption | exact InA.add (by assumption) | exact InA.add (InA.add (by assumption))) (by assumption)) .nil) ?_
 exact fun H hH => ⟨rfl, hH.kept⟩

theorem vB {S : AH} {b : Bool} : XCall Tryz.prog 151 [.bool b] S fun v H' => v = .agg ⟨It.cs (.tru (b))⟩ ∧ Kept S.nx S H' := by
 refine cP (E := E) (n := 6) (rs := [.cell 2 70]) (l := [(0, _)]) (bH Tryz.func151 rfl rfl rfl) (A0 := fun _ => False) (fun j h => h.elim) rfl ?_
 refine aE ?_
 refine aB (E := E) ?_
 refine cL (cs := (.int .i64 0 :: .int .i64 0 :: .string ⟨#[]⟩ :: .slice none 0 0 :: [])) rfl rfl (fun h => nomatch h) bW rfl rfl ?_
 intro N2
 refine aD ?_
 refine aE ?_
 refine aE ?_
 cases b
 ·skip
  refine aB (E := E) ?_
  refine aA rfl rfl rfl ?_
  refine aD ?_
  refine aJ rfl ?_
  refine aV ?_
  refine aR ?_
  refine aE ?_
  refine aB (E := E) ?_
  refine eV rfl rfl (by repeat (first | exact Opps.nil | apply Opps.cons rfl)) (by rfl) ?_
  refine cA rfl (fun h => nomatch h) rfl rfl bW (by first | exact aH _ _ | rfl) rfl (by repeat (first | exact .zero | apply Upd.succ)) (by first | exact bM rfl | exact bI rfl | exact bA rfl | exact bY rfl | rfl) (by first | exact aM rfl rfl | exact aM rfl (aH _ _) | exact aK rfl | exact Nat.le_of_ble_eq_true rfl | omega) (fun h => nomatch h) ?_
  refine aD ?_
  refine bX ?_
  refine bQ (.cell rfl (by first | exact cD Tryz.underlying70 rfl bW rfl (by repeat (first | exact List.Mem.head _ | apply List.Mem.tail | apply List.mem_append_right)) (by first | exact aK rfl | exact Nat.le_of_ble_eq_true rfl | decide | omega) (by first | exact bD | exact take_all rfl | exact aW rfl | rfl) | exact bZ Tryz.underlying70 rfl bW rfl (by first | assumption | exact InA.add (by assumption) | exact InA.add (InA.add (by assumption))) (by assumption)) .nil) ?_
  exact fun H hH => ⟨rfl, hH.kept⟩
 ·skip
  refine aB (E := E) ?_
  refine aA rfl rfl rfl ?_
  refine aD ?_
  refine bP rfl ?_
  refine aE ?_
  refine aB (E := E) ?_
  refine eV rfl rfl (by repeat (first | exact Opps.nil | apply Opps.cons rfl)) (by rfl) ?_
  refine cA rfl (fun h => nomatch h) rfl rfl bW (by first | exact aH _ _ | rfl) rfl (by repeat (first | exact .zero | apply Upd.succ)) (by first | exact bM rfl | exact bI rfl | exact bA rfl | exact bY rfl | rfl) (by first | exact aM rfl rfl | exact aM rfl (aH _ _) | exact aK rfl | exact Nat.le_of_ble_eq_true rfl | omega) (fun h => nomatch h) ?_
  refine aD ?_
  refine bX ?_
  refine bB ?_
  refine bQ (.cell rfl (by first | exact cD Tryz.underlying70 rfl bW rfl (by repeat (first | exact List.Mem.head _ | apply List.Mem.tail | apply List.mem_append_right)) (by first | exact aK rfl | exact Nat.le_of_ble_eq_true rfl | decide | omega) (by first | exact bD | exact take_all rfl | exact aW rfl | rfl) | exact bZ Tryz.underlying70 rfl bW rfl (by first | assumption | exact InA.add (by assumption) | exact InA.add (InA.add (by assumption))) (by assumption)) .nil) ?_
  exact fun H hH => ⟨rfl, hH.kept⟩

theorem aLe {S : AH} {n : Int} : XCall Tryz.prog 243 [.int .i64 n] S fun v H' => v = .bool false ∧ Kept S.nx S H' := by
 refine cP (E := E) (n := 6) (rs := [.tmp 2]) (l := [(0, _)]) (bH Tryz.func243 rfl rfl rfl) (A0 := fun _ => False) (fun j h => h.elim) rfl ?_
 refine aE ?_
 refine aB (E := E) ?_
 refine aC rfl rfl rfl ?_
 refine aD ?_
 refine aE ?_
 refine aB (E := E) ?_
 refine aA rfl rfl rfl ?_
 refine aA rfl rfl rfl ?_
 refine aF rfl rfl rfl rfl (by first | exact cG rfl | exact cG (by first | rfl | assumption | omega) | exact cJ (by first | rfl | assumption | omega)) ?_
 refine aC rfl rfl rfl ?_
 refine aD ?_
 refine bX ?_
 refine bQ (.tmp rfl .nil) ?_
 exact fun H hH => ⟨rfl, hH.kept⟩

theorem wA {S : AH} {a b : Int} : XCall Tryz.prog 217 [.int .i64 a, .int .i64 b] S fun v H' => v = .int .i64 (if a < b then -1 else if a > b then 1 else 0) ∧ Kept S.nx S H' := by
 refine cP (E := E) (n := 20) (rs := [.tmp 4]) (l := [(1, _), (0, _)]) (bH Tryz.func217 rfl rfl rfl) (A0 := fun _ => False) (fun j h => h.elim) rfl ?_
 refine aE ?_
 refine aB (E := E) ?_
 refine aC rfl rfl rfl ?_
 refine aD ?_
 refine aE ?_
 refine aB (E := E) ?_
 refine aA rfl rfl rfl ?_
 refine aZ rfl rfl (fun h => nomatch h) rfl aMm (by repeat (first | exact Opvs.nil | apply Opvs.cons rfl)) (fun H hH => aLe) ?_
 refine aC rfl rfl rfl ?_
 refine aD ?_
 refine aE ?_
 refine aB (E := E) ?_
 refine aA rfl rfl rfl ?_
 refine aZ rfl rfl (fun h => nomatch h) rfl aMm (by repeat (first | exact Opvs.nil | apply Opvs.cons rfl)) (fun H hH => aLe) ?_
 refine aC rfl rfl rfl ?_
 refine aD ?_
 refine aE ?_
 refine aE ?_
 refine aB (E := E) ?_
 refine aA rfl rfl rfl ?_
 refine aD ?_
 refine aJ rfl ?_
 refine aV ?_
 refine aR ?_
 refine aE ?_
 refine aE ?_
 refine aB (E := E) ?_
 refine aA rfl rfl rfl ?_
 refine aD ?_
 refine aJ rfl ?_
 refine aV ?_
 refine aR ?_
 refine aE ?_
 refine aE ?_
 rcases Int.lt_trichotomy a b with h | h | h
 ·skip
  rw [if_pos h]
  refine aB (E := E) ?_
  refine aA rfl rfl rfl ?_
  refine aA rfl rfl rfl ?_
  refine aF rfl rfl rfl rfl (by first | exact aX (by omega) | exact aU (by omega)) ?_
  refine aD ?_
  refine bP rfl ?_
  refine aE ?_
  refine aB (E := E) ?_
  refine aC rfl rfl rfl ?_
  refine aD ?_
  refine bX ?_
  refine bB ?_
  refine bQ (.tmp rfl .nil) ?_
  exact fun H hH => ⟨rfl, hH.kept⟩
 ·skip
  rw [if_neg (show ¬ a < b by omega), if_neg (show ¬ a > b by omega)]
  refine aB (E := E) ?_
  refine aA rfl rfl rfl ?_
  refine aA rfl rfl rfl ?_
  refine aF rfl rfl rfl rfl (by first | exact aX (by omega) | exact aU (by omega)) ?_
  refine aD ?_
  refine aJ rfl ?_
  refine aV ?_
  refine aR ?_
  refine aE ?_
  refine aE ?_
  refine aB (E := E) ?_
  refine aA rfl rfl rfl ?_
  refine aA rfl rfl rfl ?_
  refine aF rfl rfl rfl rfl (by first | exact bO (by omega) | exact bE (by omega)) ?_
  refine aD ?_
  refine aJ rfl ?_
  refine aV ?_
  refine aR ?_
  refine aE ?_
  refine aB (E := E) ?_
  refine aC rfl rfl rfl ?_
  refine aD ?_
  refine bX ?_
  refine bQ (.tmp rfl .nil) ?_
  exact fun H hH => ⟨rfl, hH.kept⟩
 ·skip
  rw [if_neg (show ¬ a < b by omega), if_pos (show a > b by omega)]
  refine aB (E := E) ?_
  refine aA rfl rfl rfl ?_
  refine aA rfl rfl rfl ?_
  refine aF rfl rfl rfl rfl (by first | exact aX (by omega) | exact aU (by omega)) ?_
  refine aD ?_
  refine aJ rfl ?_
  refine aV ?_
  refine aR ?_
  refine aE ?_
  refine aE ?_
  refine aB (E := E) ?_
  refine aA rfl rfl rfl ?_
  refine aA rfl rfl rfl ?_
  refine aF rfl rfl rfl rfl (by first | exact bO (by omega) | exact bE (by omega)) ?_
  refine aD ?_
  refine bP rfl ?_
  refine aE ?_
  refine aB (E := E) ?_
  refine aC rfl rfl rfl ?_
  refine aD ?_
  refine bX ?_
  refine bB ?_
  refine bQ (.tmp rfl .nil) ?_
  exact fun H hH => ⟨rfl, hH.kept⟩

set_option maxHeartbeats 1000000 in
theorem aBl {S : AH} {a b : Int} (hb : b ≠ 0) (ha0 : -4611686018427387904 ≤ a) (ha1 : a ≤ 4611686018427387904) : XCall Tryz.prog 193 [.int .i64 a, .int .i64 b] S fun v H' => v = .int .i64 (a.fdiv b) ∧ Kept S.nx S H' := by
 have hq := aFk a b
 have hc := uP (a := a) hb
 refine cP (E := E) (n := 31) (rs := [.tmp 4]) (l := [(1, _), (0, _)]) (bH Tryz.func193 rfl rfl rfl) (A0 := fun _ => False) (fun j h => h.elim) rfl ?_
 refine aE ?_
 refine aB (E := E) ?_
 refine aC rfl rfl rfl ?_
 refine aD ?_
 refine aE ?_
 refine aE ?_
 refine aB (E := E) ?_
 refine aA rfl rfl rfl ?_
 refine aF rfl rfl rfl rfl (by first | exact bC hb | exact bF (by first | rfl | assumption | omega) | exact bC (by first | rfl | assumption | omega)) ?_
 refine aD ?_
 refine aJ rfl ?_
 refine aV ?_
 refine aR ?_
 refine aE ?_
 refine aE ?_
 refine aB (E := E) ?_
 refine aA rfl rfl rfl ?_
 refine aF rfl rfl rfl rfl (by first | exact bC (by omega) | exact bF (by first | rfl | assumption | omega) | exact bC (by first | rfl | assumption | omega)) ?_
 refine aA rfl rfl rfl ?_
 first | refine aA rfl rfl rfl ?_ | refine aG rfl rfl rfl ?_
 first | refine aF rfl rfl rfl rfl (by first | exact bF (by first | rfl | assumption | omega) | exact bC (by first | rfl | assumption | omega)) ?_ | refine aG rfl rfl rfl ?_
 first | refine aP rfl rfl rfl rfl ?_ | refine aO rfl rfl rfl rfl ?_
 refine aD ?_
 refine aJ rfl ?_
 refine aV ?_
 refine aR ?_
 refine aE ?_
 rcases (show a.tmod b = 0 ∨ (a.tmod b ≠ 0 ∧ a < 0 ∧ b < 0) ∨ (a.tmod b ≠ 0 ∧ a < 0 ∧ 0 < b) ∨ (a.tmod b ≠ 0 ∧ 0 ≤ a ∧ b < 0) ∨ (a.tmod b ≠ 0 ∧ 0 ≤ a ∧ 0 < b) by rcases Decidable.em (a.tmod b = 0) with h | h <;> rcases Int.lt_or_le a 0 with h1 | h1 <;> rcases Int.lt_or_le b 0 with h2 | h2 <;> simp [h] <;> omega) with h | ⟨h, h1, h2⟩ | ⟨h, h1, h2⟩ | ⟨h, h1, h2⟩ | ⟨h, h1, h2⟩
 ·skip
  have hf : a.fdiv b = a.tdiv b := by rw [hc, if_neg (fun q => q.1 h)]
  rw [hf]
  refine aB (E := E) ?_
  refine aA rfl rfl rfl ?_
  refine aA rfl rfl rfl ?_
  refine aF rfl rfl rfl rfl (by first | exact oH hb (aL (by omega) (by omega))) ?_
  refine aC rfl rfl rfl ?_
  refine aD ?_
  refine aE ?_
  refine aE ?_
  refine aB (E := E) ?_
  refine aA rfl rfl rfl ?_
  refine aA rfl rfl rfl ?_
  refine aF rfl rfl rfl rfl (by first | exact rH hb rfl) ?_
  refine aF rfl rfl rfl rfl (by first | exact cJ h | exact cG h | exact cG (by first | rfl | assumption | omega) | exact cJ (by first | rfl | assumption | omega)) ?_
  refine aA rfl rfl rfl ?_
  first | refine aA rfl rfl rfl ?_ | refine aG rfl rfl rfl ?_
  first | refine aF rfl rfl rfl rfl (by first | exact aX (by omega) | exact aU (by omega)) ?_ | refine aG rfl rfl rfl ?_
  first | refine aA rfl rfl rfl ?_ | refine aG rfl rfl rfl ?_
  first | refine aF rfl rfl rfl rfl (by first | exact aX (by omega) | exact aU (by omega)) ?_ | refine aG rfl rfl rfl ?_
  first | refine aF rfl rfl rfl rfl (by first | exact nE Tryz.underlying4) ?_ | refine aG rfl rfl rfl ?_
  first | refine aP rfl rfl rfl rfl ?_ | refine aO rfl rfl rfl rfl ?_
  refine aD ?_
  refine aJ rfl ?_
  refine aV ?_
  refine aR ?_
  refine aE ?_
  refine aB (E := E) ?_
  refine aA rfl rfl rfl ?_
  refine aC rfl rfl rfl ?_
  refine aD ?_
  refine bX ?_
  refine bQ (.tmp rfl .nil) ?_
  exact fun H hH => ⟨rfl, hH.kept⟩
 ·skip
  have hf : a.fdiv b = a.tdiv b := by rw [hc]; simp [h, h1, h2]
  rw [hf]
  refine aB (E := E) ?_
  refine aA rfl rfl rfl ?_
  refine aA rfl rfl rfl ?_
  refine aF rfl rfl rfl rfl (by first | exact oH hb (aL (by omega) (by omega))) ?_
  refine aC rfl rfl rfl ?_
  refine aD ?_
  refine aE ?_
  refine aE ?_
  refine aB (E := E) ?_
  refine aA rfl rfl rfl ?_
  refine aA rfl rfl rfl ?_
  refine aF rfl rfl rfl rfl (by first | exact rH hb rfl) ?_
  refine aF rfl rfl rfl rfl (by first | exact cJ h | exact cG h | exact cG (by first | rfl | assumption | omega) | exact cJ (by first | rfl | assumption | omega)) ?_
  refine aA rfl rfl rfl ?_
  first | refine aA rfl rfl rfl ?_ | refine aG rfl rfl rfl ?_
  first | refine aF rfl rfl rfl rfl (by first | exact aX (by omega) | exact aU (by omega)) ?_ | refine aG rfl rfl rfl ?_
  first | refine aA rfl rfl rfl ?_ | refine aG rfl rfl rfl ?_
  first | refine aF rfl rfl rfl rfl (by first | exact aX (by omega) | exact aU (by omega)) ?_ | refine aG rfl rfl rfl ?_
  first | refine aF rfl rfl rfl rfl (by first | exact nE Tryz.underlying4) ?_ | refine aG rfl rfl rfl ?_
  first | refine aP rfl rfl rfl rfl ?_ | refine aO rfl rfl rfl rfl ?_
  refine aD ?_
  refine aJ rfl ?_
  refine aV ?_
  refine aR ?_
  refine aE ?_
  refine aB (E := E) ?_
  refine aA rfl rfl rfl ?_
  refine aC rfl rfl rfl ?_
  refine aD ?_
  refine bX ?_
  refine bQ (.tmp rfl .nil) ?_
  exact fun H hH => ⟨rfl, hH.kept⟩
 ·skip
  have hf : a.fdiv b = a.tdiv b - 1 := by rw [hc]; simp [h, h1, (show ¬ b < 0 by omega)]
  rw [hf]
  refine aB (E := E) ?_
  refine aA rfl rfl rfl ?_
  refine aA rfl rfl rfl ?_
  refine aF rfl rfl rfl rfl (by first | exact oH hb (aL (by omega) (by omega))) ?_
  refine aC rfl rfl rfl ?_
  refine aD ?_
  refine aE ?_
  refine aE ?_
  refine aB (E := E) ?_
  refine aA rfl rfl rfl ?_
  refine aA rfl rfl rfl ?_
  refine aF rfl rfl rfl rfl (by first | exact rH hb rfl) ?_
  refine aF rfl rfl rfl rfl (by first | exact cJ h | exact cG h | exact cG (by first | rfl | assumption | omega) | exact cJ (by first | rfl | assumption | omega)) ?_
  refine aA rfl rfl rfl ?_
  first | refine aA rfl rfl rfl ?_ | refine aG rfl rfl rfl ?_
  first | refine aF rfl rfl rfl rfl (by first | exact aX (by omega) | exact aU (by omega)) ?_ | refine aG rfl rfl rfl ?_
  first | refine aA rfl rfl rfl ?_ | refine aG rfl rfl rfl ?_
  first | refine aF rfl rfl rfl rfl (by first | exact aX (by omega) | exact aU (by omega)) ?_ | refine aG rfl rfl rfl ?_
  first | refine aF rfl rfl rfl rfl (by first | exact nE Tryz.underlying4) ?_ | refine aG rfl rfl rfl ?_
  first | refine aP rfl rfl rfl rfl ?_ | refine aO rfl rfl rfl rfl ?_
  refine aD ?_
  refine bP rfl ?_
  refine aB (E := E) ?_
  refine aA rfl rfl rfl ?_
  refine aF rfl rfl rfl rfl (by first | exact bV (aL (by omega) (by omega)) | exact dA (by omega) | exact bV (aL (by omega) (by omega)) | exact bV rfl) ?_
  refine aC rfl rfl rfl ?_
  refine aD ?_
  refine aE ?_
  refine aB (E := E) ?_
  refine aA rfl rfl rfl ?_
  refine aC rfl rfl rfl ?_
  refine aD ?_
  refine bX ?_
  refine bQ (.tmp rfl .nil) ?_
  exact fun H hH => ⟨rfl, hH.kept⟩
 ·skip
  have hf : a.fdiv b = a.tdiv b - 1 := by rw [hc]; simp [h, (show ¬ a < 0 by omega), h2]
  rw [hf]
  refine aB (E := E) ?_
  refine aA rfl rfl rfl ?_
  refine aA rfl rfl rfl ?_
  refine aF rfl rfl rfl rfl (by first | exact oH hb (aL (by omega) (by omega))) ?_
  refine aC rfl rfl rfl ?_
  refine aD ?_
  refine aE ?_
  refine aE ?_
  refine aB (E := E) ?_
  refine aA rfl rfl rfl ?_
  refine aA rfl rfl rfl ?_
  refine aF rfl rfl rfl rfl (by first | exact rH hb rfl) ?_
  refine aF rfl rfl rfl rfl (by first | exact cJ h | exact cG h | exact cG (by first | rfl | assumption | omega) | exact cJ (by first | rfl | assumption | omega)) ?_
  refine aA rfl rfl rfl ?_
  first | refine aA rfl rfl rfl ?_ | refine aG rfl rfl rfl ?_
  first | refine aF rfl rfl rfl rfl (by first | exact aX (by omega) | exact aU (by omega)) ?_ | refine aG rfl rfl rfl ?_
  first | refine aA rfl rfl rfl ?_ | refine aG rfl rfl rfl ?_
  first | refine aF rfl rfl rfl rfl (by first | exact aX (by omega) | exact aU (by omega)) ?_ | refine aG rfl rfl rfl ?_
  first | refine aF rfl rfl rfl rfl (by first | exact nE Tryz.underlying4) ?_ | refine aG rfl rfl rfl ?_
  first | refine aP rfl rfl rfl rfl ?_ | refine aO rfl rfl rfl rfl ?_
  refine aD ?_
  refine bP rfl ?_
  refine aB (E := E) ?_
  refine aA rfl rfl rfl ?_
  refine aF rfl rfl rfl rfl (by first | exact bV (aL (by omega) (by omega)) | exact dA (by omega) | exact bV (aL (by omega) (by omega)) | exact bV rfl) ?_
  refine aC rfl rfl rfl ?_
  refine aD ?_
  refine aE ?_
  refine aB (E := E) ?_
  refine aA rfl rfl rfl ?_
  refine aC rfl rfl rfl ?_
  refine aD ?_
  refine bX ?_
  refine bQ (.tmp rfl .nil) ?_
  exact fun H hH => ⟨rfl, hH.kept⟩
 ·skip
  have hf : a.fdiv b = a.tdiv b := by rw [hc]; simp [h, (show ¬ a < 0 by omega), (show ¬ b < 0 by omega)]
  rw [hf]
  refine aB (E := E) ?_
  refine aA rfl rfl rfl ?_
  refine aA rfl rfl rfl ?_
  refine aF rfl rfl rfl rfl (by first | exact oH hb (aL (by omega) (by omega))) ?_
  refine aC rfl rfl rfl ?_
  refine aD ?_
  refine aE ?_
  refine aE ?_
  refine aB (E := E) ?_
  refine aA rfl rfl rfl ?_
  refine aA rfl rfl rfl ?_
  refine aF rfl rfl rfl rfl (by first | exact rH hb rfl) ?_
  refine aF rfl rfl rfl rfl (by first | exact cJ h | exact cG h | exact cG (by first | rfl | assumption | omega) | exact cJ (by first | rfl | assumption | omega)) ?_
  refine aA rfl rfl rfl ?_
  first | refine aA rfl rfl rfl ?_ | refine aG rfl rfl rfl ?_
  first | refine aF rfl rfl rfl rfl (by first | exact aX (by omega) | exact aU (by omega)) ?_ | refine aG rfl rfl rfl ?_
  first | refine aA rfl rfl rfl ?_ | refine aG rfl rfl rfl ?_
  first | refine aF rfl rfl rfl rfl (by first | exact aX (by omega) | exact aU (by omega)) ?_ | refine aG rfl rfl rfl ?_
  first | refine aF rfl rfl rfl rfl (by first | exact nE Tryz.underlying4) ?_ | refine aG rfl rfl rfl ?_
  first | refine aP rfl rfl rfl rfl ?_ | refine aO rfl rfl rfl rfl ?_
  refine aD ?_
  refine aJ rfl ?_
  refine aV ?_
  refine aR ?_
  refine aE ?_
  refine aB (E := E) ?_
  refine aA rfl rfl rfl ?_
  refine aC rfl rfl rfl ?_
  refine aD ?_
  refine bX ?_
  refine bQ (.tmp rfl .nil) ?_
  exact fun H hH => ⟨rfl, hH.kept⟩

set_option maxHeartbeats 1000000 in
theorem iT {S : AH} {a b : Int} (ha0 : -4611686018427387904 ≤ a) (ha1 : a ≤ 4611686018427387904) (hb0 : -4611686018427387904 ≤ b) (hb1 : b ≤ 4611686018427387904) (h0 : -4611686018427387904 ≤ a + b) (h1 : a + b ≤ 4611686018427387904) : XCall Tryz.prog 188 [.string ⟨⟨[43]⟩⟩, .int .i64 a, .int .i64 b] S fun v H' => v = .tuple ⟨[.agg ⟨It.cs (.num (a + b))⟩, .int .i64 0]⟩ ∧ Kept S.nx S H' := by
 refine cP (E := E) (n := 84) (rs := [.cell 6 70, .tmp 7]) (l := [(2, _), (1, _), (0, _)]) (bH Tryz.func188 rfl rfl rfl) (A0 := fun _ => False) (fun j h => h.elim) rfl ?_
 refine aE ?_
 refine aB (E := E) ?_
 refine cL (cs := (.int .i64 0 :: .int .i64 0 :: .string ⟨#[]⟩ :: .slice none 0 0 :: [])) rfl rfl (fun h => nomatch h) bW rfl rfl ?_
 intro N6
 refine aC rfl rfl rfl ?_
 refine aD ?_
 refine aE ?_
 refine aE ?_
 refine aB (E := E) ?_
 refine aA rfl rfl rfl ?_
 refine aF rfl rfl rfl rfl (by first | exact aS (by first | rfl | assumption | decide) | exact aT (by first | rfl | assumption | decide)) ?_
 refine aD ?_
 refine aJ rfl ?_
 refine aV ?_
 refine aR ?_
 refine aE ?_
 refine aE ?_
 refine aB (E := E) ?_
 refine aA rfl rfl rfl ?_
 refine aD ?_
 refine bR ?_
 refine aE ?_
 refine aB (E := E) ?_
 refine aF rfl rfl rfl rfl (by first | exact aS (by first | rfl | assumption | decide) | exact aT (by first | rfl | assumption | decide)) ?_
 refine aC rfl rfl rfl ?_
 refine aD ?_
 refine bP rfl ?_
 refine aE ?_
 refine aE ?_
 rcases Int.lt_trichotomy (b) 0 with h | h | h
 ·skip
  refine aB (E := E) ?_
  refine aA rfl rfl rfl ?_
  refine aF rfl rfl rfl rfl (by first | exact bO (by omega) | exact bE (by omega)) ?_
  refine aA rfl rfl rfl ?_
  first | refine aA rfl rfl rfl ?_ | refine aG rfl rfl rfl ?_
  first | refine aA rfl rfl rfl ?_ | refine aG rfl rfl rfl ?_
  first | refine aF rfl rfl rfl rfl (by first | exact dA (by omega) | exact bV (aL (by omega) (by omega)) | exact bV rfl) ?_ | refine aG rfl rfl rfl ?_
  first | refine aF rfl rfl rfl rfl (by first | exact bO (by omega) | exact bE (by omega)) ?_ | refine aG rfl rfl rfl ?_
  first | refine aP rfl rfl rfl rfl ?_ | refine aO rfl rfl rfl rfl ?_
  refine aA rfl rfl rfl ?_
  first | refine aA rfl rfl rfl ?_ | refine aG rfl rfl rfl ?_
  first | refine aF rfl rfl rfl rfl (by first | exact aX (by omega) | exact aU (by omega)) ?_ | refine aG rfl rfl rfl ?_
  first | refine aA rfl rfl rfl ?_ | refine aG rfl rfl rfl ?_
  first | refine aA rfl rfl rfl ?_ | refine aG rfl rfl rfl ?_
  first | refine aA rfl rfl rfl ?_ | refine aG rfl rfl rfl ?_
  first | refine aF rfl rfl rfl rfl (by first | exact dA (by omega) | exact bV (aL (by omega) (by omega)) | exact bV rfl) ?_ | refine aG rfl rfl rfl ?_
  first | refine aF rfl rfl rfl rfl (by first | exact aX (by omega) | exact aU (by omega)) ?_ | refine aG rfl rfl rfl ?_
  first | refine aP rfl rfl rfl rfl ?_ | refine aO rfl rfl rfl rfl ?_ | refine aG rfl rfl rfl ?_
  first | refine aP rfl rfl rfl rfl ?_ | refine aO rfl rfl rfl rfl ?_
  refine aD ?_
  refine aJ rfl ?_
  refine aV ?_
  refine aR ?_
  refine aE ?_
  refine aB (E := E) ?_
  refine aA rfl rfl rfl ?_
  refine aA rfl rfl rfl ?_
  refine aF rfl rfl rfl rfl (by first | exact aI (c := a + b) (by rw [aL (by omega) (by omega)]; omega) | exact bG (by omega) | exact aI (aL (by omega) (by omega)) | exact aI rfl) ?_
  refine aZ rfl rfl (fun h => nomatch h) rfl mC (by repeat (first | exact Opvs.nil | apply Opvs.cons rfl)) (fun H hH => mJ) ?_
  refine cA rfl (fun h => nomatch h) rfl rfl bW (by first | exact aH _ _ | rfl) rfl (by repeat (first | exact .zero | apply Upd.succ)) (by first | exact bM rfl | exact bI rfl | exact bA rfl | exact bY rfl | rfl) (by first | exact aM rfl rfl | exact aM rfl (aH _ _) | exact aK rfl | exact Nat.le_of_ble_eq_true rfl | omega) (fun h => nomatch h) ?_
  refine aC rfl rfl rfl ?_
  refine aD ?_
  refine bX ?_
  refine bN ?_
  refine bB ?_
  refine cW (.cell rfl (by first | exact cD Tryz.underlying70 rfl bW rfl (by repeat (first | exact List.Mem.head _ | apply List.Mem.tail | apply List.mem_append_right)) (by first | exact aK rfl | exact Nat.le_of_ble_eq_true rfl | decide | omega) (by first | exact bD | exact take_all rfl | exact aW rfl | rfl) | exact bZ Tryz.underlying70 rfl bW rfl (by first | assumption | exact InA.add (by assumption) | exact InA.add (InA.add (by assumption))) (by assumption)) (.tmp rfl .nil)) ?_
  exact fun H hH => ⟨rfl, hH.kept⟩
 ·skip
  refine aB (E := E) ?_
  refine aA rfl rfl rfl ?_
  refine aF rfl rfl rfl rfl (by first | exact bO (by omega) | exact bE (by omega)) ?_
  refine aA rfl rfl rfl ?_
  first | refine aA rfl rfl rfl ?_ | refine aG rfl rfl rfl ?_
  first | refine aA rfl rfl rfl ?_ | refine aG rfl rfl rfl ?_
  first | refine aF rfl rfl rfl rfl (by first | exact dA (by omega) | exact bV (aL (by omega) (by omega)) | exact bV rfl) ?_ | refine aG rfl rfl rfl ?_
  first | refine aF rfl rfl rfl rfl (by first | exact bO (by omega) | exact bE (by omega)) ?_ | refine aG rfl rfl rfl ?_
  first | refine aP rfl rfl rfl rfl ?_ | refine aO rfl rfl rfl rfl ?_
  refine aA rfl rfl rfl ?_
  first | refine aA rfl rfl rfl ?_ | refine aG rfl rfl rfl ?_
  first | refine aF rfl rfl rfl rfl (by first | exact aX (by omega) | exact aU (by omega)) ?_ | refine aG rfl rfl rfl ?_
  first | refine aA rfl rfl rfl ?_ | refine aG rfl rfl rfl ?_
  first | refine aA rfl rfl rfl ?_ | refine aG rfl rfl rfl ?_
  first | refine aA rfl rfl rfl ?_ | refine aG rfl rfl rfl ?_
  first | refine aF rfl rfl rfl rfl (by first | exact dA (by omega) | exact bV (aL (by omega) (by omega)) | exact bV rfl) ?_ | refine aG rfl rfl rfl ?_
  first | refine aF rfl rfl rfl rfl (by first | exact aX (by omega) | exact aU (by omega)) ?_ | refine aG rfl rfl rfl ?_
  first | refine aP rfl rfl rfl rfl ?_ | refine aO rfl rfl rfl rfl ?_ | refine aG rfl rfl rfl ?_
  first | refine aP rfl rfl rfl rfl ?_ | refine aO rfl rfl rfl rfl ?_
  refine aD ?_
  refine aJ rfl ?_
  refine aV ?_
  refine aR ?_
  refine aE ?_
  refine aB (E := E) ?_
  refine aA rfl rfl rfl ?_
  refine aA rfl rfl rfl ?_
  refine aF rfl rfl rfl rfl (by first | exact aI (c := a + b) (by rw [aL (by omega) (by omega)]; omega) | exact bG (by omega) | exact aI (aL (by omega) (by omega)) | exact aI rfl) ?_
  refine aZ rfl rfl (fun h => nomatch h) rfl mC (by repeat (first | exact Opvs.nil | apply Opvs.cons rfl)) (fun H hH => mJ) ?_
  refine cA rfl (fun h => nomatch h) rfl rfl bW (by first | exact aH _ _ | rfl) rfl (by repeat (first | exact .zero | apply Upd.succ)) (by first | exact bM rfl | exact bI rfl | exact bA rfl | exact bY rfl | rfl) (by first | exact aM rfl rfl | exact aM rfl (aH _ _) | exact aK rfl | exact Nat.le_of_ble_eq_true rfl | omega) (fun h => nomatch h) ?_
  refine aC rfl rfl rfl ?_
  refine aD ?_
  refine bX ?_
  refine bN ?_
  refine bB ?_
  refine cW (.cell rfl (by first | exact cD Tryz.underlying70 rfl bW rfl (by repeat (first | exact List.Mem.head _ | apply List.Mem.tail | apply List.mem_append_right)) (by first | exact aK rfl | exact Nat.le_of_ble_eq_true rfl | decide | omega) (by first | exact bD | exact take_all rfl | exact aW rfl | rfl) | exact bZ Tryz.underlying70 rfl bW rfl (by first | assumption | exact InA.add (by assumption) | exact InA.add (InA.add (by assumption))) (by assumption)) (.tmp rfl .nil)) ?_
  exact fun H hH => ⟨rfl, hH.kept⟩
 ·skip
  refine aB (E := E) ?_
  refine aA rfl rfl rfl ?_
  refine aF rfl rfl rfl rfl (by first | exact bO (by omega) | exact bE (by omega)) ?_
  refine aA rfl rfl rfl ?_
  first | refine aA rfl rfl rfl ?_ | refine aG rfl rfl rfl ?_
  first | refine aA rfl rfl rfl ?_ | refine aG rfl rfl rfl ?_
  first | refine aF rfl rfl rfl rfl (by first | exact dA (by omega) | exact bV (aL (by omega) (by omega)) | exact bV rfl) ?_ | refine aG rfl rfl rfl ?_
  first | refine aF rfl rfl rfl rfl (by first | exact bO (by omega) | exact bE (by omega)) ?_ | refine aG rfl rfl rfl ?_
  first | refine aP rfl rfl rfl rfl ?_ | refine aO rfl rfl rfl rfl ?_
  refine aA rfl rfl rfl ?_
  first | refine aA rfl rfl rfl ?_ | refine aG rfl rfl rfl ?_
  first | refine aF rfl rfl rfl rfl (by first | exact aX (by omega) | exact aU (by omega)) ?_ | refine aG rfl rfl rfl ?_
  first | refine aA rfl rfl rfl ?_ | refine aG rfl rfl rfl ?_
  first | refine aA rfl rfl rfl ?_ | refine aG rfl rfl rfl ?_
  first | refine aA rfl rfl rfl ?_ | refine aG rfl rfl rfl ?_
  first | refine aF rfl rfl rfl rfl (by first | exact dA (by omega) | exact bV (aL (by omega) (by omega)) | exact bV rfl) ?_ | refine aG rfl rfl rfl ?_
  first | refine aF rfl rfl rfl rfl (by first | exact aX (by omega) | exact aU (by omega)) ?_ | refine aG rfl rfl rfl ?_
  first | refine aP rfl rfl rfl rfl ?_ | refine aO rfl rfl rfl rfl ?_ | refine aG rfl rfl rfl ?_
  first | refine aP rfl rfl rfl rfl ?_ | refine aO rfl rfl rfl rfl ?_
  refine aD ?_
  refine aJ rfl ?_
  refine aV ?_
  refine aR ?_
  refine aE ?_
  refine aB (E := E) ?_
  refine aA rfl rfl rfl ?_
  refine aA rfl rfl rfl ?_
  refine aF rfl rfl rfl rfl (by first | exact aI (c := a + b) (by rw [aL (by omega) (by omega)]; omega) | exact bG (by omega) | exact aI (aL (by omega) (by omega)) | exact aI rfl) ?_
  refine aZ rfl rfl (fun h => nomatch h) rfl mC (by repeat (first | exact Opvs.nil | apply Opvs.cons rfl)) (fun H hH => mJ) ?_
  refine cA rfl (fun h => nomatch h) rfl rfl bW (by first | exact aH _ _ | rfl) rfl (by repeat (first | exact .zero | apply Upd.succ)) (by first | exact bM rfl | exact bI rfl | exact bA rfl | exact bY rfl | rfl) (by first | exact aM rfl rfl | exact aM rfl (aH _ _) | exact aK rfl | exact Nat.le_of_ble_eq_true rfl | omega) (fun h => nomatch h) ?_
  refine aC rfl rfl rfl ?_
  refine aD ?_
  refine bX ?_
  refine bN ?_
  refine bB ?_
  refine cW (.cell rfl (by first | exact cD Tryz.underlying70 rfl bW rfl (by repeat (first | exact List.Mem.head _ | apply List.Mem.tail | apply List.mem_append_right)) (by first | exact aK rfl | exact Nat.le_of_ble_eq_true rfl | decide | omega) (by first | exact bD | exact take_all rfl | exact aW rfl | rfl) | exact bZ Tryz.underlying70 rfl bW rfl (by first | assumption | exact InA.add (by assumption) | exact InA.add (InA.add (by assumption))) (by assumption)) (.tmp rfl .nil)) ?_
  exact fun H hH => ⟨rfl, hH.kept⟩

set_option maxHeartbeats 1000000 in
theorem rG {S : AH} {a b : Int} (ha0 : -4611686018427387904 ≤ a) (ha1 : a ≤ 4611686018427387904) (hb0 : -4611686018427387904 ≤ b) (hb1 : b ≤ 4611686018427387904) (h0 : -4611686018427387904 ≤ a - b) (h1 : a - b ≤ 4611686018427387904) : XCall Tryz.prog 188 [.string ⟨⟨[45]⟩⟩, .int .i64 a, .int .i64 b] S fun v H' => v = .tuple ⟨[.agg ⟨It.cs (.num (a - b))⟩, .int .i64 0]⟩ ∧ Kept S.nx S H' := by
 refine cP (E := E) (n := 84) (rs := [.cell 6 70, .tmp 7]) (l := [(2, _), (1, _), (0, _)]) (bH Tryz.func188 rfl rfl rfl) (A0 := fun _ => False) (fun j h => h.elim) rfl ?_
 refine aE ?_
 refine aB (E := E) ?_
 refine cL (cs := (.int .i64 0 :: .int .i64 0 :: .string ⟨#[]⟩ :: .slice none 0 0 :: [])) rfl rfl (fun h => nomatch h) bW rfl rfl ?_
 intro N6
 refine aC rfl rfl rfl ?_
 refine aD ?_
 refine aE ?_
 refine aE ?_
 refine aB (E := E) ?_
 refine aA rfl rfl rfl ?_
 refine aF rfl rfl rfl rfl (by first | exact aS (by first | rfl | assumption | decide) | exact aT (by first | rfl | assumption | decide)) ?_
 refine aD ?_
 refine bP rfl ?_
 refine aB (E := E) ?_
 refine aA rfl rfl rfl ?_
 refine aCh rfl rfl rfl (show aun .neg (.int .i64 b) = some (.int .i64 (-b)) by simp only [aun]; congr 2; rw [aL (by omega) (by omega)]; omega) ?_
 refine aC rfl rfl rfl ?_
 refine aC rfl rfl rfl ?_
 refine aD ?_
 refine aE ?_
 refine aE ?_
 refine aB (E := E) ?_
 refine aA rfl rfl rfl ?_
 refine aD ?_
 refine bR ?_
 refine aE ?_
 refine aB (E := E) ?_
 refine aF rfl rfl rfl rfl (by first | exact aS (by first | rfl | assumption | decide) | exact aT (by first | rfl | assumption | decide)) ?_
 refine aC rfl rfl rfl ?_
 refine aD ?_
 refine bP rfl ?_
 refine aE ?_
 refine aE ?_
 rcases Int.lt_trichotomy (-b) 0 with h | h | h
 ·skip
  refine aB (E := E) ?_
  refine aA rfl rfl rfl ?_
  refine aF rfl rfl rfl rfl (by first | exact bO (by omega) | exact bE (by omega)) ?_
  refine aA rfl rfl rfl ?_
  first | refine aA rfl rfl rfl ?_ | refine aG rfl rfl rfl ?_
  first | refine aA rfl rfl rfl ?_ | refine aG rfl rfl rfl ?_
  first | refine aF rfl rfl rfl rfl (by first | exact dA (by omega) | exact bV (aL (by omega) (by omega)) | exact bV rfl) ?_ | refine aG rfl rfl rfl ?_
  first | refine aF rfl rfl rfl rfl (by first | exact bO (by omega) | exact bE (by omega)) ?_ | refine aG rfl rfl rfl ?_
  first | refine aP rfl rfl rfl rfl ?_ | refine aO rfl rfl rfl rfl ?_
  refine aA rfl rfl rfl ?_
  first | refine aA rfl rfl rfl ?_ | refine aG rfl rfl rfl ?_
  first | refine aF rfl rfl rfl rfl (by first | exact aX (by omega) | exact aU (by omega)) ?_ | refine aG rfl rfl rfl ?_
  first | refine aA rfl rfl rfl ?_ | refine aG rfl rfl rfl ?_
  first | refine aA rfl rfl rfl ?_ | refine aG rfl rfl rfl ?_
  first | refine aA rfl rfl rfl ?_ | refine aG rfl rfl rfl ?_
  first | refine aF rfl rfl rfl rfl (by first | exact dA (by omega) | exact bV (aL (by omega) (by omega)) | exact bV rfl) ?_ | refine aG rfl rfl rfl ?_
  first | refine aF rfl rfl rfl rfl (by first | exact aX (by omega) | exact aU (by omega)) ?_ | refine aG rfl rfl rfl ?_
  first | refine aP rfl rfl rfl rfl ?_ | refine aO rfl rfl rfl rfl ?_ | refine aG rfl rfl rfl ?_
  first | refine aP rfl rfl rfl rfl ?_ | refine aO rfl rfl rfl rfl ?_
  refine aD ?_
  refine aJ rfl ?_
  refine aV ?_
  refine aR ?_
  refine aE ?_
  refine aB (E := E) ?_
  refine aA rfl rfl rfl ?_
  refine aA rfl rfl rfl ?_
  refine aF rfl rfl rfl rfl (by first | exact aI (c := a - b) (by rw [aL (by omega) (by omega)]; omega) | exact bG (by omega) | exact aI (aL (by omega) (by omega)) | exact aI rfl) ?_
  refine aZ rfl rfl (fun h => nomatch h) rfl mC (by repeat (first | exact Opvs.nil | apply Opvs.cons rfl)) (fun H hH => mJ) ?_
  refine cA rfl (fun h => nomatch h) rfl rfl bW (by first | exact aH _ _ | rfl) rfl (by repeat (first | exact .zero | apply Upd.succ)) (by first | exact bM rfl | exact bI rfl | exact bA rfl | exact bY rfl | rfl) (by first | exact aM rfl rfl | exact aM rfl (aH _ _) | exact aK rfl | exact Nat.le_of_ble_eq_true rfl | omega) (fun h => nomatch h) ?_
  refine aC rfl rfl rfl ?_
  refine aD ?_
  refine bX ?_
  refine bN ?_
  refine bB ?_
  refine cW (.cell rfl (by first | exact cD Tryz.underlying70 rfl bW rfl (by repeat (first | exact List.Mem.head _ | apply List.Mem.tail | apply List.mem_append_right)) (by first | exact aK rfl | exact Nat.le_of_ble_eq_true rfl | decide | omega) (by first | exact bD | exact take_all rfl | exact aW rfl | rfl) | exact bZ Tryz.underlying70 rfl bW rfl (by first | assumption | exact InA.add (by assumption) | exact InA.add (InA.add (by assumption))) (by assumption)) (.tmp rfl .nil)) ?_
  exact fun H hH => ⟨rfl, hH.kept⟩
 ·skip
  refine aB (E := E) ?_
  refine aA rfl rfl rfl ?_
  refine aF rfl rfl rfl rfl (by first | exact bO (by omega) | exact bE (by omega)) ?_
  refine aA rfl rfl rfl ?_
  first | refine aA rfl rfl rfl ?_ | refine aG rfl rfl rfl ?_
  first | refine aA rfl rfl rfl ?_ | refine aG rfl rfl rfl ?_
  first | refine aF rfl rfl rfl rfl (by first | exact dA (by omega) | exact bV (aL (by omega) (by omega)) | exact bV rfl) ?_ | refine aG rfl rfl rfl ?_
  first | refine aF rfl rfl rfl rfl (by first | exact bO (by omega) | exact bE (by omega)) ?_ | refine aG rfl rfl rfl ?_
  first | refine aP rfl rfl rfl rfl ?_ | refine aO rfl rfl rfl rfl ?_
  refine aA rfl rfl rfl ?_
  first | refine aA rfl rfl rfl ?_ | refine aG rfl rfl rfl ?_
  first | refine aF rfl rfl rfl rfl (by first | exact aX (by omega) | exact aU (by omega)) ?_ | refine aG rfl rfl rfl ?_
  first | refine aA rfl rfl rfl ?_ | refine aG rfl rfl rfl ?_
  first | refine aA rfl rfl rfl ?_ | refine aG rfl rfl rfl ?_
  first | refine aA rfl rfl rfl ?_ | refine aG rfl rfl rfl ?_
  first | refine aF rfl rfl rfl rfl (by first | exact dA (by omega) | exact bV (aL (by omega) (by omega)) | exact bV rfl) ?_ | refine aG rfl rfl rfl ?_
  first | refine aF rfl rfl rfl rfl (by first | exact aX (by omega) | exact aU (by omega)) ?_ | refine aG rfl rfl rfl ?_
  first | refine aP rfl rfl rfl rfl ?_ | refine aO rfl rfl rfl rfl ?_ | refine aG rfl rfl rfl ?_
  first | refine aP rfl rfl rfl rfl ?_ | refine aO rfl rfl rfl rfl ?_
  refine aD ?_
  refine aJ rfl ?_
  refine aV ?_
  refine aR ?_
  refine aE ?_
  refine aB (E := E) ?_
  refine aA rfl rfl rfl ?_
  refine aA rfl rfl rfl ?_
  refine aF rfl rfl rfl rfl (by first | exact aI (c := a - b) (by rw [aL (by omega) (by omega)]; omega) | exact bG (by omega) | exact aI (aL (by omega) (by omega)) | exact aI rfl) ?_
  refine aZ rfl rfl (fun h => nomatch h) rfl mC (by repeat (first | exact Opvs.nil | apply Opvs.cons rfl)) (fun H hH => mJ) ?_
  refine cA rfl (fun h => nomatch h) rfl rfl bW (by first | exact aH _ _ | rfl) rfl (by repeat (first | exact .zero | apply Upd.succ)) (by first | exact bM rfl | exact bI rfl | exact bA rfl | exact bY rfl | rfl) (by first | exact aM rfl rfl | exact aM rfl (aH _ _) | exact aK rfl | exact Nat.le_of_ble_eq_true rfl | omega) (fun h => nomatch h) ?_
  refine aC rfl rfl rfl ?_
  refine aD ?_
  refine bX ?_
  refine bN ?_
  refine bB ?_
  refine cW (.cell rfl (by first | exact cD Tryz.underlying70 rfl bW rfl (by repeat (first | exact List.Mem.head _ | apply List.Mem.tail | apply List.mem_append_right)) (by first | exact aK rfl | exact Nat.le_of_ble_eq_true rfl | decide | omega) (by first | exact bD | exact take_all rfl | exact aW rfl | rfl) | exact bZ Tryz.underlying70 rfl bW rfl (by first | assumption | exact InA.add (by assumption) | exact InA.add (InA.add (by assumption))) (by assumption)) (.tmp rfl .nil)) ?_
  exact fun H hH => ⟨rfl, hH.kept⟩
 ·skip
  refine aB (E := E) ?_
  refine aA rfl rfl rfl ?_
  refine aF rfl rfl rfl rfl (by first | exact bO (by omega) | exact bE (by omega)) ?_
  refine aA rfl rfl rfl ?_
  first | refine aA rfl rfl rfl ?_ | refine aG rfl rfl rfl ?_
  first | refine aA rfl rfl rfl ?_ | refine aG rfl rfl rfl ?_
  first | refine aF rfl rfl rfl rfl (by first | exact dA (by omega) | exact bV (aL (by omega) (by omega)) | exact bV rfl) ?_ | refine aG rfl rfl rfl ?_
  first | refine aF rfl rfl rfl rfl (by first | exact bO (by omega) | exact bE (by omega)) ?_ | refine aG rfl rfl rfl ?_
  first | refine aP rfl rfl rfl rfl ?_ | refine aO rfl rfl rfl rfl ?_
  refine aA rfl rfl rfl ?_
  first | refine aA rfl rfl rfl ?_ | refine aG rfl rfl rfl ?_
  first | refine aF rfl rfl rfl rfl (by first | exact aX (by omega) | exact aU (by omega)) ?_ | refine aG rfl rfl rfl ?_
  first | refine aA rfl rfl rfl ?_ | refine aG rfl rfl rfl ?_
  first | refine aA rfl rfl rfl ?_ | refine aG rfl rfl rfl ?_
  first | refine aA rfl rfl rfl ?_ | refine aG rfl rfl rfl ?_
  first | refine aF rfl rfl rfl rfl (by first | exact dA (by omega) | exact bV (aL (by omega) (by omega)) | exact bV rfl) ?_ | refine aG rfl rfl rfl ?_
  first | refine aF rfl rfl rfl rfl (by first | exact aX (by omega) | exact aU (by omega)) ?_ | refine aG rfl rfl rfl ?_
  first | refine aP rfl rfl rfl rfl ?_ | refine aO rfl rfl rfl rfl ?_ | refine aG rfl rfl rfl ?_
  first | refine aP rfl rfl rfl rfl ?_ | refine aO rfl rfl rfl rfl ?_
  refine aD ?_
  refine aJ rfl ?_
  refine aV ?_
  refine aR ?_
  refine aE ?_
  refine aB (E := E) ?_
  refine aA rfl rfl rfl ?_
  refine aA rfl rfl rfl ?_
  refine aF rfl rfl rfl rfl (by first | exact aI (c := a - b) (by rw [aL (by omega) (by omega)]; omega) | exact bG (by omega) | exact aI (aL (by omega) (by omega)) | exact aI rfl) ?_
  refine aZ rfl rfl (fun h => nomatch h) rfl mC (by repeat (first | exact Opvs.nil | apply Opvs.cons rfl)) (fun H hH => mJ) ?_
  refine cA rfl (fun h => nomatch h) rfl rfl bW (by first | exact aH _ _ | rfl) rfl (by repeat (first | exact .zero | apply Upd.succ)) (by first | exact bM rfl | exact bI rfl | exact bA rfl | exact bY rfl | rfl) (by first | exact aM rfl rfl | exact aM rfl (aH _ _) | exact aK rfl | exact Nat.le_of_ble_eq_true rfl | omega) (fun h => nomatch h) ?_
  refine aC rfl rfl rfl ?_
  refine aD ?_
  refine bX ?_
  refine bN ?_
  refine bB ?_
  refine cW (.cell rfl (by first | exact cD Tryz.underlying70 rfl bW rfl (by repeat (first | exact List.Mem.head _ | apply List.Mem.tail | apply List.mem_append_right)) (by first | exact aK rfl | exact Nat.le_of_ble_eq_true rfl | decide | omega) (by first | exact bD | exact take_all rfl | exact aW rfl | rfl) | exact bZ Tryz.underlying70 rfl bW rfl (by first | assumption | exact InA.add (by assumption) | exact InA.add (InA.add (by assumption))) (by assumption)) (.tmp rfl .nil)) ?_
  exact fun H hH => ⟨rfl, hH.kept⟩

set_option maxHeartbeats 1000000 in
theorem iV {S : AH} {a b : Int} (ha0 : -4611686018427387904 ≤ a) (ha1 : a ≤ 4611686018427387904) (hb0 : -4611686018427387904 ≤ b) (hb1 : b ≤ 4611686018427387904) (hm : a.natAbs * b.natAbs ≤ 4611686018427387904) : XCall Tryz.prog 188 [.string ⟨⟨[42]⟩⟩, .int .i64 a, .int .i64 b] S fun v H' => v = .tuple ⟨[.agg ⟨It.cs (.num (a * b))⟩, .int .i64 0]⟩ ∧ Kept S.nx S H' := by
 have hab : (a * b).natAbs ≤ 4611686018427387904 := by rw [Int.natAbs_mul]; exact hm
 refine cP (E := E) (n := 84) (rs := [.cell 6 70, .tmp 7]) (l := [(2, _), (1, _), (0, _)]) (bH Tryz.func188 rfl rfl rfl) (A0 := fun _ => False) (fun j h => h.elim) rfl ?_
 refine aE ?_
 refine aB (E := E) ?_
 refine cL (cs := (.int .i64 0 :: .int .i64 0 :: .string ⟨#[]⟩ :: .slice none 0 0 :: [])) rfl rfl (fun h => nomatch h) bW rfl rfl ?_
 intro N6
 refine aC rfl rfl rfl ?_
 refine aD ?_
 refine aE ?_
 refine aE ?_
 refine aB (E := E) ?_
 refine aA rfl rfl rfl ?_
 refine aF rfl rfl rfl rfl (by first | exact aS (by first | rfl | assumption | decide) | exact aT (by first | rfl | assumption | decide)) ?_
 refine aD ?_
 refine aJ rfl ?_
 refine aV ?_
 refine aR ?_
 refine aE ?_
 refine aE ?_
 refine aB (E := E) ?_
 refine aA rfl rfl rfl ?_
 refine aD ?_
 refine bR ?_
 refine aE ?_
 refine aB (E := E) ?_
 refine aF rfl rfl rfl rfl (by first | exact aS (by first | rfl | assumption | decide) | exact aT (by first | rfl | assumption | decide)) ?_
 refine aC rfl rfl rfl ?_
 refine aD ?_
 refine aJ rfl ?_
 refine aE ?_
 refine aB (E := E) ?_
 refine aF rfl rfl rfl rfl (by first | exact aS (by first | rfl | assumption | decide) | exact aT (by first | rfl | assumption | decide)) ?_
 refine aC rfl rfl rfl ?_
 refine aD ?_
 refine bP rfl ?_
 refine aE ?_
 refine aB (E := E) ?_
 refine aA rfl rfl rfl ?_
 refine aA rfl rfl rfl ?_
 refine aCh rfl rfl rfl (show aun .neg (.int .i64 a) = some (.int .i64 (-a)) by simp only [aun]; congr 2; rw [aL (by omega) (by omega)]; omega) ?_
 refine aGd rfl rfl rfl rfl rfl rfl (show max a (-a) = ((a.natAbs : Nat) : Int) by omega) ?_
 refine lC rfl rfl rfl Tryz.underlying3 Tryz.underlying144 (qF _ (by omega) (by omega)) ?_
 refine aA rfl rfl rfl ?_
 refine aA rfl rfl rfl ?_
 refine aCh rfl rfl rfl (show aun .neg (.int .i64 b) = some (.int .i64 (-b)) by simp only [aun]; congr 2; rw [aL (by omega) (by omega)]; omega) ?_
 refine aGd rfl rfl rfl rfl rfl rfl (show max b (-b) = ((b.natAbs : Nat) : Int) by omega) ?_
 refine lC rfl rfl rfl Tryz.underlying3 Tryz.underlying144 (qF _ (by omega) (by omega)) ?_
 refine aZ rfl rfl (fun h => nomatch h) rfl aRl (by repeat (first | exact Opvs.nil | apply Opvs.cons rfl)) (fun H hH => aNf (by omega) (by omega) hm) ?_
 refine aA rfl rfl rfl ?_
 refine bT rfl rfl rfl rfl ?_
 refine bT rfl rfl rfl rfl ?_
 refine aC rfl rfl rfl ?_
 refine aC rfl rfl rfl ?_
 refine aD ?_
 refine aE ?_
 refine aE ?_
 refine aB (E := E) ?_
 refine aA rfl rfl rfl ?_
 refine aF rfl rfl rfl rfl (by first | exact bO (by omega) | exact bE (by omega)) ?_
 refine aA rfl rfl rfl ?_
 first | refine aA rfl rfl rfl ?_ | refine aG rfl rfl rfl ?_
 first | refine aF rfl rfl rfl rfl (by first | exact bO (by omega) | exact bE (by omega)) ?_ | refine aG rfl rfl rfl ?_
 first | refine aP rfl rfl rfl rfl ?_ | refine aO rfl rfl rfl rfl ?_
 refine aD ?_
 refine aJ rfl ?_
 refine aV ?_
 refine aR ?_
 refine aE ?_
 refine aB (E := E) ?_
 refine aA rfl rfl rfl ?_
 refine aA rfl rfl rfl ?_
 refine aF rfl rfl rfl rfl (by first | exact uF (aL (by omega) (by omega))) ?_
 refine aZ rfl rfl (fun h => nomatch h) rfl mC (by repeat (first | exact Opvs.nil | apply Opvs.cons rfl)) (fun H hH => mJ) ?_
 refine cA rfl (fun h => nomatch h) rfl rfl bW (by first | exact aH _ _ | rfl) rfl (by repeat (first | exact .zero | apply Upd.succ)) (by first | exact bM rfl | exact bI rfl | exact bA rfl | exact bY rfl | rfl) (by first | exact aM rfl rfl | exact aM rfl (aH _ _) | exact aK rfl | exact Nat.le_of_ble_eq_true rfl | omega) (fun h => nomatch h) ?_
 refine aC rfl rfl rfl ?_
 refine aD ?_
 refine bX ?_
 refine bN ?_
 refine bB ?_
 refine cW (.cell rfl (by first | exact cD Tryz.underlying70 rfl bW rfl (by repeat (first | exact List.Mem.head _ | apply List.Mem.tail | apply List.mem_append_right)) (by first | exact aK rfl | exact Nat.le_of_ble_eq_true rfl | decide | omega) (by first | exact bD | exact take_all rfl | exact aW rfl | rfl) | exact bZ Tryz.underlying70 rfl bW rfl (by first | assumption | exact InA.add (by assumption) | exact InA.add (InA.add (by assumption))) (by assumption)) (.tmp rfl .nil)) ?_
 exact fun H hH => ⟨rfl, hH.kept⟩

set_option maxHeartbeats 1000000 in
theorem qM {S : AH} {a b : Int} (ha0 : -4611686018427387904 ≤ a) (ha1 : a ≤ 4611686018427387904) (hb0 : -4611686018427387904 ≤ b) (hb1 : b ≤ 4611686018427387904) (hb : b ≠ 0) : XCall Tryz.prog 188 [.string ⟨⟨[47]⟩⟩, .int .i64 a, .int .i64 b] S fun v H' => v = .tuple ⟨[.agg ⟨It.cs (.num (a.fdiv b))⟩, .int .i64 0]⟩ ∧ Kept S.nx S H' := by
 refine cP (E := E) (n := 84) (rs := [.cell 6 70, .tmp 7]) (l := [(2, _), (1, _), (0, _)]) (bH Tryz.func188 rfl rfl rfl) (A0 := fun _ => False) (fun j h => h.elim) rfl ?_
 refine aE ?_
 refine aB (E := E) ?_
 refine cL (cs := (.int .i64 0 :: .int .i64 0 :: .string ⟨#[]⟩ :: .slice none 0 0 :: [])) rfl rfl (fun h => nomatch h) bW rfl rfl ?_
 intro N6
 refine aC rfl rfl rfl ?_
 refine aD ?_
 refine aE ?_
 refine aE ?_
 refine aB (E := E) ?_
 refine aA rfl rfl rfl ?_
 refine aF rfl rfl rfl rfl (by first | exact aS (by first | rfl | assumption | decide) | exact aT (by first | rfl | assumption | decide)) ?_
 refine aD ?_
 refine aJ rfl ?_
 refine aV ?_
 refine aR ?_
 refine aE ?_
 refine aE ?_
 refine aB (E := E) ?_
 refine aA rfl rfl rfl ?_
 refine aD ?_
 refine bR ?_
 refine aE ?_
 refine aB (E := E) ?_
 refine aF rfl rfl rfl rfl (by first | exact aS (by first | rfl | assumption | decide) | exact aT (by first | rfl | assumption | decide)) ?_
 refine aC rfl rfl rfl ?_
 refine aD ?_
 refine aJ rfl ?_
 refine aE ?_
 refine aB (E := E) ?_
 refine aF rfl rfl rfl rfl (by first | exact aS (by first | rfl | assumption | decide) | exact aT (by first | rfl | assumption | decide)) ?_
 refine aC rfl rfl rfl ?_
 refine aD ?_
 refine aJ rfl ?_
 refine aV ?_
 refine cV ?_
 refine aR ?_
 refine aE ?_
 refine aE ?_
 refine aB (E := E) ?_
 refine aA rfl rfl rfl ?_
 refine aF rfl rfl rfl rfl (by first | exact bC hb | exact bF (by first | rfl | assumption | omega) | exact bC (by first | rfl | assumption | omega)) ?_
 refine aD ?_
 refine aJ rfl ?_
 refine aV ?_
 refine aR ?_
 refine aE ?_
 refine aB (E := E) ?_
 refine aA rfl rfl rfl ?_
 refine aA rfl rfl rfl ?_
 refine aZ rfl rfl (fun h => nomatch h) rfl aKp (by repeat (first | exact Opvs.nil | apply Opvs.cons rfl)) (fun H hH => aBl hb ha0 ha1) ?_
 refine aC rfl rfl rfl ?_
 refine aD ?_
 refine aE ?_
 refine aE ?_
 refine aB (E := E) ?_
 refine aA rfl rfl rfl ?_
 refine aF rfl rfl rfl rfl (by first | exact aS (by first | rfl | assumption | decide) | exact aT (by first | rfl | assumption | decide)) ?_
 refine aD ?_
 refine aJ rfl ?_
 refine aV ?_
 refine aR ?_
 refine aE ?_
 refine aB (E := E) ?_
 refine aA rfl rfl rfl ?_
 refine aZ rfl rfl (fun h => nomatch h) rfl mC (by repeat (first | exact Opvs.nil | apply Opvs.cons rfl)) (fun H hH => mJ) ?_
 refine cA rfl (fun h => nomatch h) rfl rfl bW (by first | exact aH _ _ | rfl) rfl (by repeat (first | exact .zero | apply Upd.succ)) (by first | exact bM rfl | exact bI rfl | exact bA rfl | exact bY rfl | rfl) (by first | exact aM rfl rfl | exact aM rfl (aH _ _) | exact aK rfl | exact Nat.le_of_ble_eq_true rfl | omega) (fun h => nomatch h) ?_
 refine aC rfl rfl rfl ?_
 refine aD ?_
 refine bX ?_
 refine cW (.cell rfl (by first | exact cD Tryz.underlying70 rfl bW rfl (by repeat (first | exact List.Mem.head _ | apply List.Mem.tail | apply List.mem_append_right)) (by first | exact aK rfl | exact Nat.le_of_ble_eq_true rfl | decide | omega) (by first | exact bD | exact take_all rfl | exact aW rfl | rfl) | exact bZ Tryz.underlying70 rfl bW rfl (by first | assumption | exact InA.add (by assumption) | exact InA.add (InA.add (by assumption))) (by assumption)) (.tmp rfl .nil)) ?_
 exact fun H hH => ⟨rfl, hH.kept⟩

set_option maxHeartbeats 1000000 in
theorem rK {S : AH} {a b : Int} (ha0 : -4611686018427387904 ≤ a) (ha1 : a ≤ 4611686018427387904) (hb0 : -4611686018427387904 ≤ b) (hb1 : b ≤ 4611686018427387904) (hb : b ≠ 0) (hm : (b * a.fdiv b).natAbs ≤ 9223372036854775807) (hr : (a - b * a.fdiv b).natAbs ≤ 9223372036854775807) : XCall Tryz.prog 188 [.string ⟨⟨[37]⟩⟩, .int .i64 a, .int .i64 b] S fun v H' => v = .tuple ⟨[.agg ⟨It.cs (.num (a - b * a.fdiv b))⟩, .int .i64 0]⟩ ∧ Kept S.nx S H' := by
 refine cP (E := E) (n := 84) (rs := [.cell 6 70, .tmp 7]) (l := [(2, _), (1, _), (0, _)]) (bH Tryz.func188 rfl rfl rfl) (A0 := fun _ => False) (fun j h => h.elim) rfl ?_
 refine aE ?_
 refine aB (E := E) ?_
 refine cL (cs := (.int .i64 0 :: .int .i64 0 :: .string ⟨#[]⟩ :: .slice none 0 0 :: [])) rfl rfl (fun h => nomatch h) bW rfl rfl ?_
 intro N6
 refine aC rfl rfl rfl ?_
 refine aD ?_
 refine aE ?_
 refine aE ?_
 refine aB (E := E) ?_
 refine aA rfl rfl rfl ?_
 refine aF rfl rfl rfl rfl (by first | exact aS (by first | rfl | assumption | decide) | exact aT (by first | rfl | assumption | decide)) ?_
 refine aD ?_
 refine aJ rfl ?_
 refine aV ?_
 refine aR ?_
 refine aE ?_
 refine aE ?_
 refine aB (E := E) ?_
 refine aA rfl rfl rfl ?_
 refine aD ?_
 refine bR ?_
 refine aE ?_
 refine aB (E := E) ?_
 refine aF rfl rfl rfl rfl (by first | exact aS (by first | rfl | assumption | decide) | exact aT (by first | rfl | assumption | decide)) ?_
 refine aC rfl rfl rfl ?_
 refine aD ?_
 refine aJ rfl ?_
 refine aE ?_
 refine aB (E := E) ?_
 refine aF rfl rfl rfl rfl (by first | exact aS (by first | rfl | assumption | decide) | exact aT (by first | rfl | assumption | decide)) ?_
 refine aC rfl rfl rfl ?_
 refine aD ?_
 refine aJ rfl ?_
 refine aV ?_
 refine cV ?_
 refine aR ?_
 refine aE ?_
 refine aE ?_
 refine aB (E := E) ?_
 refine aA rfl rfl rfl ?_
 refine aF rfl rfl rfl rfl (by first | exact bC hb | exact bF (by first | rfl | assumption | omega) | exact bC (by first | rfl | assumption | omega)) ?_
 refine aD ?_
 refine aJ rfl ?_
 refine aV ?_
 refine aR ?_
 refine aE ?_
 refine aB (E := E) ?_
 refine aA rfl rfl rfl ?_
 refine aA rfl rfl rfl ?_
 refine aZ rfl rfl (fun h => nomatch h) rfl aKp (by repeat (first | exact Opvs.nil | apply Opvs.cons rfl)) (fun H hH => aBl hb ha0 ha1) ?_
 refine aC rfl rfl rfl ?_
 refine aD ?_
 refine aE ?_
 refine aE ?_
 refine aB (E := E) ?_
 refine aA rfl rfl rfl ?_
 refine aF rfl rfl rfl rfl (by first | exact aS (by first | rfl | assumption | decide) | exact aT (by first | rfl | assumption | decide)) ?_
 refine aD ?_
 refine bP rfl ?_
 refine aE ?_
 refine aB (E := E) ?_
 refine aA rfl rfl rfl ?_
 refine aA rfl rfl rfl ?_
 refine aA rfl rfl rfl ?_
 refine aF rfl rfl rfl rfl (by first | exact uF (c := b * a.fdiv b) (aL (by omega) (by omega))) ?_
 refine aF rfl rfl rfl rfl (by first | exact bV (aL (by omega) (by omega)) | exact dA (by omega) | exact bV (aL (by omega) (by omega)) | exact bV rfl) ?_
 refine aZ rfl rfl (fun h => nomatch h) rfl mC (by repeat (first | exact Opvs.nil | apply Opvs.cons rfl)) (fun H hH => mJ) ?_
 refine cA rfl (fun h => nomatch h) rfl rfl bW (by first | exact aH _ _ | rfl) rfl (by repeat (first | exact .zero | apply Upd.succ)) (by first | exact bM rfl | exact bI rfl | exact bA rfl | exact bY rfl | rfl) (by first | exact aM rfl rfl | exact aM rfl (aH _ _) | exact aK rfl | exact Nat.le_of_ble_eq_true rfl | omega) (fun h => nomatch h) ?_
 refine aC rfl rfl rfl ?_
 refine aD ?_
 refine bX ?_
 refine bB ?_
 refine cW (.cell rfl (by first | exact cD Tryz.underlying70 rfl bW rfl (by repeat (first | exact List.Mem.head _ | apply List.Mem.tail | apply List.mem_append_right)) (by first | exact aK rfl | exact Nat.le_of_ble_eq_true rfl | decide | omega) (by first | exact bD | exact take_all rfl | exact aW rfl | rfl) | exact bZ Tryz.underlying70 rfl bW rfl (by first | assumption | exact InA.add (by assumption) | exact InA.add (InA.add (by assumption))) (by assumption)) (.tmp rfl .nil)) ?_
 exact fun H hH => ⟨rfl, hH.kept⟩

set_option maxHeartbeats 1000000 in
theorem xY {S : AH} {a : Int} : XCall Tryz.prog 188 [.string ⟨⟨[37]⟩⟩, .int .i64 a, .int .i64 0] S fun v H' => v = .tuple ⟨[.agg ⟨[.int .i64 0, .int .i64 0, .string ⟨#[]⟩, .slice none 0 0]⟩, .int .i64 1]⟩ ∧ Kept S.nx S H' := by
 refine cP (E := E) (n := 84) (rs := [.cell 6 70, .tmp 7]) (l := [(2, _), (1, _), (0, _)]) (bH Tryz.func188 rfl rfl rfl) (A0 := fun _ => False) (fun j h => h.elim) rfl ?_
 refine aE ?_
 refine aB (E := E) ?_
 refine cL (cs := (.int .i64 0 :: .int .i64 0 :: .string ⟨#[]⟩ :: .slice none 0 0 :: [])) rfl rfl (fun h => nomatch h) bW rfl rfl ?_
 intro N6
 refine aC rfl rfl rfl ?_
 refine aD ?_
 refine aE ?_
 refine aE ?_
 refine aB (E := E) ?_
 refine aA rfl rfl rfl ?_
 refine aF rfl rfl rfl rfl (by first | exact aS (by first | rfl | assumption | decide) | exact aT (by first | rfl | assumption | decide)) ?_
 refine aD ?_
 refine aJ rfl ?_
 refine aV ?_
 refine aR ?_
 refine aE ?_
 refine aE ?_
 refine aB (E := E) ?_
 refine aA rfl rfl rfl ?_
 refine aD ?_
 refine bR ?_
 refine aE ?_
 refine aB (E := E) ?_
 refine aF rfl rfl rfl rfl (by first | exact aS (by first | rfl | assumption | decide) | exact aT (by first | rfl | assumption | decide)) ?_
 refine aC rfl rfl rfl ?_
 refine aD ?_
 refine aJ rfl ?_
 refine aE ?_
 refine aB (E := E) ?_
 refine aF rfl rfl rfl rfl (by first | exact aS (by first | rfl | assumption | decide) | exact aT (by first | rfl | assumption | decide)) ?_
 refine aC rfl rfl rfl ?_
 refine aD ?_
 refine aJ rfl ?_
 refine aV ?_
 refine cV ?_
 refine aR ?_
 refine aE ?_
 refine aE ?_
 refine aB (E := E) ?_
 refine aA rfl rfl rfl ?_
 refine aF rfl rfl rfl rfl (by first | exact bF rfl | exact bF (by first | rfl | assumption | omega) | exact bC (by first | rfl | assumption | omega)) ?_
 refine aD ?_
 refine bP rfl ?_
 refine aE ?_
 refine aB (E := E) ?_
 refine eV rfl rfl (by repeat (first | exact Opps.nil | apply Opps.cons rfl)) (by rfl) ?_
 refine cA rfl (fun h => nomatch h) rfl rfl bW (by first | exact aH _ _ | rfl) rfl (by repeat (first | exact .zero | apply Upd.succ)) (by first | exact bM rfl | exact bI rfl | exact bA rfl | exact bY rfl | rfl) (by first | exact aM rfl rfl | exact aM rfl (aH _ _) | exact aK rfl | exact Nat.le_of_ble_eq_true rfl | omega) (fun h => nomatch h) ?_
 refine aC rfl rfl rfl ?_
 refine aD ?_
 refine bX ?_
 refine bB ?_
 refine cW (.cell rfl (by first | exact cD Tryz.underlying70 rfl bW rfl (by repeat (first | exact List.Mem.head _ | apply List.Mem.tail | apply List.mem_append_right)) (by first | exact aK rfl | exact Nat.le_of_ble_eq_true rfl | decide | omega) (by first | exact bD | exact take_all rfl | exact aW rfl | rfl) | exact bZ Tryz.underlying70 rfl bW rfl (by first | assumption | exact InA.add (by assumption) | exact InA.add (InA.add (by assumption))) (by assumption)) (.tmp rfl .nil)) ?_
 exact fun H hH => ⟨rfl, hH.kept⟩

end Go.Proofs.YthgfcpgjabodoaaGreatDoor
