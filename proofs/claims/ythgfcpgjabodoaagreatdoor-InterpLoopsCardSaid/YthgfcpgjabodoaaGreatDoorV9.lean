/-
  What the scripts leave.
-/
import Derived.Test.YthgfcpgjabodoaaGreatDoorY0
import Derived.Test.YthgfcpgjabodoaaGreatDoorZ0
import Derived.Test.YthgfcpgjabodoaaGreatDoorXL00p
import Derived.Test.YthgfcpgjabodoaaGreatDoorXL11p
import Derived.Test.YthgfcpgjabodoaaGreatDoorXL10p
import Derived.Test.YthgfcpgjabodoaaGreatDoorXL00z
import Derived.Test.YthgfcpgjabodoaaGreatDoorXL01z
import Derived.Test.YthgfcpgjabodoaaGreatDoorXL11z
import Derived.Test.YthgfcpgjabodoaaGreatDoorA
set_option linter.unusedVariables false
set_option linter.unusedSimpArgs false
set_option linter.unusedSectionVars false
set_option maxRecDepth 100000
namespace Go.Proofs.YthgfcpgjabodoaaGreatDoor
open Go Go.AM
def scL (a b : Int) : List UInt8 := ((([108, 101, 116, 32, 110, 32, 61, 32, 48, 59, 32, 102, 111, 114, 32, 105, 32, 105, 110, 32] ++ Lib.itoa a) ++ [32, 46, 46, 32]) ++ Lib.itoa b) ++ [32, 123, 32, 110, 32, 61, 32, 110, 32, 43, 32, 49, 59, 32, 112, 114, 105, 110, 116, 40, 105, 41, 59, 32, 125, 32, 112, 114, 105, 110, 116, 40, 110, 41, 59]
def wL (a : Int) (n : Nat) : List UInt8 := (ol a n ++ Lib.itoa ((n : Nat) : Int)) ++ [10]
theorem sD (A : Nat) : Lib.itoa ((A : Nat) : Int) = Lib.decDigits A := Lib.itoa_nonneg A
theorem sP {A : Nat} (h : 1 ≤ A) : Lib.itoa (-((A : Nat) : Int)) = 45 :: Lib.decDigits A := Lib.itoa_neg A h
theorem aKn {A B n : Nat} (hA : A ≤ 1048576) (hB : B ≤ 4611686018427387904) (hn : ((B : Nat) : Int) = ((A : Nat) : Int) + ((n : Nat) : Int)) (hn1 : 1 ≤ n) (hn2 : n ≤ 1000) : xM ⟨⟨scL ((A : Nat) : Int) ((B : Nat) : Int)⟩⟩ (wL ((A : Nat) : Int) n) 0 0 := by
  have e : scL ((A : Nat) : Int) ((B : Nat) : Int) = [108, 101, 116, 32, 110, 32, 61, 32, 48, 59, 32, 102, 111, 114, 32, 105, 32, 105, 110, 32] ++ (Lib.decDigits A ++ ([32, 46, 46, 32] ++ (Lib.decDigits B ++ [32, 123, 32, 110, 32, 61, 32, 110, 32, 43, 32, 49, 59, 32, 112, 114, 105, 110, 116, 40, 105, 41, 59, 32, 125, 32, 112, 114, 105, 110, 116, 40, 110, 41, 59]))) := by
    unfold scL
    rw [sD A, sD B]
    simp only [List.append_assoc, List.cons_append, List.nil_append]
  intro S hT
  rw [e]
  refine (aSm hA hB hn hn1 hn2 hT (fE (by omega)) (fE (by omega)) (gU (by omega)) (gU (by omega)) (eA _) (eA _) (iT _) (iT _) (fG (by omega)) (fG (by omega))).mono ?_
  rintro u H' _ ⟨Lo, h1, rfl, rfl⟩
  have e2 : (ol ((A : Nat) : Int) n ++ ot ([.num ((n : Nat) : Int)] : List It) ++ [10]) = wL ((A : Nat) : Int) n := by simp [ot, It.txt, wL, ol]
  have hne : (ol ((A : Nat) : Int) n ++ ot ([.num ((n : Nat) : Int)] : List It) ++ [10]) ≠ [] := by simp
  rw [← e2]
  exact ⟨_, h1, S.nx + 720, S.nx + 738, 1, (fun k => ([.int .i64 1, .int .i64 1, .int .i64 0, .slice none 0 0, .int .i64 1, .int .i64 0, .int .i64 0, .slice none 0 0, .slice none 0 0, .slice none 0 0, .slice none 0 0, .slice none 0 0, .int .i64 (5 + 8 * ((n : Nat) : Int) + 3), .int .i64 0, .map (some (2 * (S.nx + 719) + 1)), .int .i64 0, .int .i64 0, .string ⟨#[]⟩, .slice none 0 0, .int .i64 0, .int .i64 0][k]?).getD (.slice none 0 0)), rfl, by rw [cN hne, eU hne]; rfl⟩
theorem aIp {A B n : Nat} (hA : A ≤ 1048576) (hB : B ≤ 4611686018427387904) (hA1 : 1 ≤ A) (hB1 : 1 ≤ B) (hn : (-((B : Nat) : Int)) = (-((A : Nat) : Int)) + ((n : Nat) : Int)) (hn1 : 1 ≤ n) (hn2 : n ≤ 1000) : xM ⟨⟨scL (-((A : Nat) : Int)) (-((B : Nat) : Int))⟩⟩ (wL (-((A : Nat) : Int)) n) 0 0 := by
  have e : scL (-((A : Nat) : Int)) (-((B : Nat) : Int)) = [108, 101, 116, 32, 110, 32, 61, 32, 48, 59, 32, 102, 111, 114, 32, 105, 32, 105, 110, 32, 45] ++ (Lib.decDigits A ++ ([32, 46, 46, 32, 45] ++ (Lib.decDigits B ++ [32, 123, 32, 110, 32, 61, 32, 110, 32, 43, 32, 49, 59, 32, 112, 114, 105, 110, 116, 40, 105, 41, 59, 32, 125, 32, 112, 114, 105, 110, 116, 40, 110, 41, 59]))) := by
    unfold scL
    rw [sP hA1, sP hB1]
    simp only [List.append_assoc, List.cons_append, List.nil_append]
  intro S hT
  rw [e]
  refine (aRt hA hB hn hn1 hn2 hT (fE (by omega)) (fE (by omega)) (gU (by omega)) (gU (by omega)) (eA _) (eA _) (iT _) (iT _) (fG (by omega)) (fG (by omega))).mono ?_
  rintro u H' _ ⟨Lo, h1, rfl, rfl⟩
  have e2 : (ol (-((A : Nat) : Int)) n ++ ot ([.num ((n : Nat) : Int)] : List It) ++ [10]) = wL (-((A : Nat) : Int)) n := by simp [ot, It.txt, wL, ol]
  have hne : (ol (-((A : Nat) : Int)) n ++ ot ([.num ((n : Nat) : Int)] : List It) ++ [10]) ≠ [] := by simp
  rw [← e2]
  exact ⟨_, h1, S.nx + 748, S.nx + 766, 1, (fun k => ([.int .i64 1, .int .i64 1, .int .i64 0, .slice none 0 0, .int .i64 1, .int .i64 0, .int .i64 0, .slice none 0 0, .slice none 0 0, .slice none 0 0, .slice none 0 0, .slice none 0 0, .int .i64 (7 + 8 * ((n : Nat) : Int) + 3), .int .i64 0, .map (some (2 * (S.nx + 747) + 1)), .int .i64 0, .int .i64 0, .string ⟨#[]⟩, .slice none 0 0, .int .i64 0, .int .i64 0][k]?).getD (.slice none 0 0)), rfl, by rw [cN hne, eU hne]; rfl⟩
theorem aKy {A B n : Nat} (hA : A ≤ 1048576) (hB : B ≤ 4611686018427387904) (hA1 : 1 ≤ A) (hn : ((B : Nat) : Int) = (-((A : Nat) : Int)) + ((n : Nat) : Int)) (hn1 : 1 ≤ n) (hn2 : n ≤ 1000) : xM ⟨⟨scL (-((A : Nat) : Int)) ((B : Nat) : Int)⟩⟩ (wL (-((A : Nat) : Int)) n) 0 0 := by
  have e : scL (-((A : Nat) : Int)) ((B : Nat) : Int) = [108, 101, 116, 32, 110, 32, 61, 32, 48, 59, 32, 102, 111, 114, 32, 105, 32, 105, 110, 32, 45] ++ (Lib.decDigits A ++ ([32, 46, 46, 32] ++ (Lib.decDigits B ++ [32, 123, 32, 110, 32, 61, 32, 110, 32, 43, 32, 49, 59, 32, 112, 114, 105, 110, 116, 40, 105, 41, 59, 32, 125, 32, 112, 114, 105, 110, 116, 40, 110, 41, 59]))) := by
    unfold scL
    rw [sP hA1, sD B]
    simp only [List.append_assoc, List.cons_append, List.nil_append]
  intro S hT
  rw [e]
  refine (aSe hA hB hn hn1 hn2 hT (fE (by omega)) (fE (by omega)) (gU (by omega)) (gU (by omega)) (eA _) (eA _) (iT _) (iT _) (fG (by omega)) (fG (by omega))).mono ?_
  rintro u H' _ ⟨Lo, h1, rfl, rfl⟩
  have e2 : (ol (-((A : Nat) : Int)) n ++ ot ([.num ((n : Nat) : Int)] : List It) ++ [10]) = wL (-((A : Nat) : Int)) n := by simp [ot, It.txt, wL, ol]
  have hne : (ol (-((A : Nat) : Int)) n ++ ot ([.num ((n : Nat) : Int)] : List It) ++ [10]) ≠ [] := by simp
  rw [← e2]
  exact ⟨_, h1, S.nx + 734, S.nx + 752, 1, (fun k => ([.int .i64 1, .int .i64 1, .int .i64 0, .slice none 0 0, .int .i64 1, .int .i64 0, .int .i64 0, .slice none 0 0, .slice none 0 0, .slice none 0 0, .slice none 0 0, .slice none 0 0, .int .i64 (6 + 8 * ((n : Nat) : Int) + 3), .int .i64 0, .map (some (2 * (S.nx + 733) + 1)), .int .i64 0, .int .i64 0, .string ⟨#[]⟩, .slice none 0 0, .int .i64 0, .int .i64 0][k]?).getD (.slice none 0 0)), rfl, by rw [cN hne, eU hne]; rfl⟩
theorem aNy {A B : Nat} (hA : A ≤ 1048576) (hB : B ≤ 4611686018427387904) (hz : ((B : Nat) : Int) ≤ ((A : Nat) : Int)) : xM ⟨⟨scL ((A : Nat) : Int) ((B : Nat) : Int)⟩⟩ (wL ((A : Nat) : Int) 0) 0 0 := by
  have e : scL ((A : Nat) : Int) ((B : Nat) : Int) = [108, 101, 116, 32, 110, 32, 61, 32, 48, 59, 32, 102, 111, 114, 32, 105, 32, 105, 110, 32] ++ (Lib.decDigits A ++ ([32, 46, 46, 32] ++ (Lib.decDigits B ++ [32, 123, 32, 110, 32, 61, 32, 110, 32, 43, 32, 49, 59, 32, 112, 114, 105, 110, 116, 40, 105, 41, 59, 32, 125, 32, 112, 114, 105, 110, 116, 40, 110, 41, 59]))) := by
    unfold scL
    rw [sD A, sD B]
    simp only [List.append_assoc, List.cons_append, List.nil_append]
  intro S hT
  rw [e]
  refine (aSo hA hB hz hT (fE (by omega)) (fE (by omega)) (gU (by omega)) (gU (by omega)) (eA _) (eA _) (iT _) (iT _) (fG (by omega)) (fG (by omega))).mono ?_
  rintro u H' _ ⟨Lo, h1, rfl, rfl⟩
  have e2 : (ot ([.num 0] : List It) ++ [10]) = wL ((A : Nat) : Int) 0 := by simp [ot, It.txt, wL, ol]
  have hne : (ot ([.num 0] : List It) ++ [10]) ≠ [] := by simp
  rw [← e2]
  exact ⟨_, h1, S.nx + 720, S.nx + 744, zH ([.num 0] : List It), (fun k => ([.int .i64 1, .int .i64 1, .int .i64 0, .slice none 0 0, .int .i64 1, .int .i64 0, .int .i64 0, .slice none 0 0, .slice none 0 0, .slice none 0 0, .slice none 0 0, .slice none 0 0, .int .i64 8, .int .i64 0, .map (some (2 * (S.nx + 719) + 1)), .int .i64 0, .int .i64 0, .string ⟨#[]⟩, .slice none 0 0, .int .i64 0, .int .i64 0][k]?).getD (.slice none 0 0)), rfl, by rw [cN hne, eU hne]; rfl⟩
theorem aLs {A B : Nat} (hA : A ≤ 1048576) (hB : B ≤ 4611686018427387904) (hB1 : 1 ≤ B) (hz : (-((B : Nat) : Int)) ≤ ((A : Nat) : Int)) : xM ⟨⟨scL ((A : Nat) : Int) (-((B : Nat) : Int))⟩⟩ (wL ((A : Nat) : Int) 0) 0 0 := by
  have e : scL ((A : Nat) : Int) (-((B : Nat) : Int)) = [108, 101, 116, 32, 110, 32, 61, 32, 48, 59, 32, 102, 111, 114, 32, 105, 32, 105, 110, 32] ++ (Lib.decDigits A ++ ([32, 46, 46, 32, 45] ++ (Lib.decDigits B ++ [32, 123, 32, 110, 32, 61, 32, 110, 32, 43, 32, 49, 59, 32, 112, 114, 105, 110, 116, 40, 105, 41, 59, 32, 125, 32, 112, 114, 105, 110, 116, 40, 110, 41, 59]))) := by
    unfold scL
    rw [sD A, sP hB1]
    simp only [List.append_assoc, List.cons_append, List.nil_append]
  intro S hT
  rw [e]
  refine (aRd hA hB hz hT (fE (by omega)) (fE (by omega)) (gU (by omega)) (gU (by omega)) (eA _) (eA _) (iT _) (iT _) (fG (by omega)) (fG (by omega))).mono ?_
  rintro u H' _ ⟨Lo, h1, rfl, rfl⟩
  have e2 : (ot ([.num 0] : List It) ++ [10]) = wL ((A : Nat) : Int) 0 := by simp [ot, It.txt, wL, ol]
  have hne : (ot ([.num 0] : List It) ++ [10]) ≠ [] := by simp
  rw [← e2]
  exact ⟨_, h1, S.nx + 734, S.nx + 766, zH ([.num 0] : List It), (fun k => ([.int .i64 1, .int .i64 1, .int .i64 0, .slice none 0 0, .int .i64 1, .int .i64 0, .int .i64 0, .slice none 0 0, .slice none 0 0, .slice none 0 0, .slice none 0 0, .slice none 0 0, .int .i64 9, .int .i64 0, .map (some (2 * (S.nx + 733) + 1)), .int .i64 0, .int .i64 0, .string ⟨#[]⟩, .slice none 0 0, .int .i64 0, .int .i64 0][k]?).getD (.slice none 0 0)), rfl, by rw [cN hne, eU hne]; rfl⟩
theorem aOa {A B : Nat} (hA : A ≤ 1048576) (hB : B ≤ 4611686018427387904) (hA1 : 1 ≤ A) (hB1 : 1 ≤ B) (hz : (-((B : Nat) : Int)) ≤ (-((A : Nat) : Int))) : xM ⟨⟨scL (-((A : Nat) : Int)) (-((B : Nat) : Int))⟩⟩ (wL (-((A : Nat) : Int)) 0) 0 0 := by
  have e : scL (-((A : Nat) : Int)) (-((B : Nat) : Int)) = [108, 101, 116, 32, 110, 32, 61, 32, 48, 59, 32, 102, 111, 114, 32, 105, 32, 105, 110, 32, 45] ++ (Lib.decDigits A ++ ([32, 46, 46, 32, 45] ++ (Lib.decDigits B ++ [32, 123, 32, 110, 32, 61, 32, 110, 32, 43, 32, 49, 59, 32, 112, 114, 105, 110, 116, 40, 105, 41, 59, 32, 125, 32, 112, 114, 105, 110, 116, 40, 110, 41, 59]))) := by
    unfold scL
    rw [sP hA1, sP hB1]
    simp only [List.append_assoc, List.cons_append, List.nil_append]
  intro S hT
  rw [e]
  refine (aRj hA hB hz hT (fE (by omega)) (fE (by omega)) (gU (by omega)) (gU (by omega)) (eA _) (eA _) (iT _) (iT _) (fG (by omega)) (fG (by omega))).mono ?_
  rintro u H' _ ⟨Lo, h1, rfl, rfl⟩
  have e2 : (ot ([.num 0] : List It) ++ [10]) = wL (-((A : Nat) : Int)) 0 := by simp [ot, It.txt, wL, ol]
  have hne : (ot ([.num 0] : List It) ++ [10]) ≠ [] := by simp
  rw [← e2]
  exact ⟨_, h1, S.nx + 748, S.nx + 788, zH ([.num 0] : List It), (fun k => ([.int .i64 1, .int .i64 1, .int .i64 0, .slice none 0 0, .int .i64 1, .int .i64 0, .int .i64 0, .slice none 0 0, .slice none 0 0, .slice none 0 0, .slice none 0 0, .slice none 0 0, .int .i64 10, .int .i64 0, .map (some (2 * (S.nx + 747) + 1)), .int .i64 0, .int .i64 0, .string ⟨#[]⟩, .slice none 0 0, .int .i64 0, .int .i64 0][k]?).getD (.slice none 0 0)), rfl, by rw [cN hne, eU hne]; rfl⟩
theorem leftL {a b : Int} {n : Nat} (h0 : -1048576 ≤ a) (h1 : a ≤ 1048576) (hb : b ≤ a + 1000) (hb0 : -4611686018427387904 ≤ b) (hn : n = (b - a).toNat) : xM ⟨⟨scL a b⟩⟩ (wL a n) 0 0 := by
  rcases Int.lt_or_le a 0 with h | h
  · obtain ⟨A, rfl⟩ : ∃ A : Nat, a = -((A : Nat) : Int) := ⟨a.natAbs, by omega⟩
    rcases Int.lt_or_le b 0 with k | k
    · obtain ⟨B, rfl⟩ : ∃ B : Nat, b = -((B : Nat) : Int) := ⟨b.natAbs, by omega⟩
      rcases Int.lt_or_le (-((A : Nat) : Int)) (-((B : Nat) : Int)) with q | q
      · exact aIp (by omega) (by omega) (by omega) (by omega) (by omega) (by omega) (by omega)
      · obtain rfl : n = 0 := by omega
        exact aOa (by omega) (by omega) (by omega) (by omega) q
    · obtain ⟨B, rfl⟩ : ∃ B : Nat, b = ((B : Nat) : Int) := ⟨b.toNat, by omega⟩
      exact aKy (by omega) (by omega) (by omega) (by omega) (by omega) (by omega)
  · obtain ⟨A, rfl⟩ : ∃ A : Nat, a = ((A : Nat) : Int) := ⟨a.toNat, by omega⟩
    rcases Int.lt_or_le b 0 with k | k
    · obtain ⟨B, rfl⟩ : ∃ B : Nat, b = -((B : Nat) : Int) := ⟨b.natAbs, by omega⟩
      obtain rfl : n = 0 := by omega
      exact aLs (by omega) (by omega) (by omega) (by omega)
    · obtain ⟨B, rfl⟩ : ∃ B : Nat, b = ((B : Nat) : Int) := ⟨b.toNat, by omega⟩
      rcases Int.lt_or_le ((A : Nat) : Int) ((B : Nat) : Int) with q | q
      · exact aKn (by omega) (by omega) (by omega) (by omega) (by omega)
      · obtain rfl : n = 0 := by omega
        exact aNy (by omega) (by omega) q
end Go.Proofs.YthgfcpgjabodoaaGreatDoor
namespace Go.Proofs.YthgfcpgjabodoaaGreatDoor
open Go Go.AM
set_option maxHeartbeats 1000000 in
theorem aHm {S : AH} {a b : Int} (hT : Tab S) (h : a < -1048576 ∨ 1048576 < a ∨ a + 1000 < b ∨ b < -4611686018427387904) : XCall Tryz.prog 3 [.int .i64 a, .int .i64 b] S fun v H' => v = .bool true ∧ Kept S.nx S H' := by
  refine fD (E := E) (n := 71) (rs := [.tmp 4]) (l := [(1, _), (0, _)]) (aV Tryz.func3 rfl rfl rfl) (A0 := fun _ => False) (fun j h => h.elim) rfl ?_
  refine aE ?_
  refine aB (E := E) ?_
  refine aC rfl rfl rfl ?_
  refine aD ?_
  refine aE ?_
  refine aE ?_
  rcases (show a < -1048576 ∨ (¬ a < -1048576 ∧ 1048576 < a) ∨ (¬ a < -1048576 ∧ ¬ 1048576 < a ∧ a + 1000 < b) ∨ (¬ a < -1048576 ∧ ¬ 1048576 < a ∧ ¬ a + 1000 < b ∧ b < -4611686018427387904) by omega) with h | ⟨h1, h⟩ | ⟨h1, h2, h⟩ | ⟨h1, h2, h3, h⟩
  · skip
    refine aB (E := E) ?_
    refine aA rfl rfl rfl ?_
    refine aG rfl rfl rfl rfl (by first | exact aW (by omega) | exact aS (by omega)) ?_
    refine aA rfl rfl rfl ?_
    first | refine aA rfl rfl rfl ?_ | refine aH rfl rfl rfl ?_
    first | refine aG rfl rfl rfl rfl (by first | exact bU (by omega) | exact aY (by omega)) ?_ | refine aH rfl rfl rfl ?_
    first | refine bA rfl rfl rfl rfl ?_ | refine bB rfl rfl rfl rfl ?_
    refine aA rfl rfl rfl ?_
    first | refine aA rfl rfl rfl ?_ | refine aH rfl rfl rfl ?_
    first | refine aA rfl rfl rfl ?_ | refine aH rfl rfl rfl ?_
    first | refine aG rfl rfl rfl rfl (by first | exact aF (aK (by omega) (by omega)) | exact bC (by omega) | exact aF (aK (by omega) (by omega)) | exact aF rfl) ?_ | refine aH rfl rfl rfl ?_
    first | refine aG rfl rfl rfl rfl (by first | exact bU (by omega) | exact aY (by omega)) ?_ | refine aH rfl rfl rfl ?_
    first | refine bA rfl rfl rfl rfl ?_ | refine bB rfl rfl rfl rfl ?_
    refine aA rfl rfl rfl ?_
    first | refine aA rfl rfl rfl ?_ | refine aH rfl rfl rfl ?_
    first | refine aG rfl rfl rfl rfl (by first | exact aW (by omega) | exact aS (by omega)) ?_ | refine aH rfl rfl rfl ?_
    first | refine bA rfl rfl rfl rfl ?_ | refine bB rfl rfl rfl rfl ?_
    refine aD ?_
    refine bX rfl ?_
    refine aE ?_
    refine aB (E := E) ?_
    refine bO rfl rfl (fun h => nomatch h) rfl aLi (by repeat (first | exact Opvs.nil | apply Opvs.cons rfl)) (fun H hH => mN (hT.at hH.kept.w0.symm)) ?_
    refine aC rfl rfl rfl ?_
    refine aD ?_
    refine cI ?_
    refine bT ?_
    refine bH (.tmp rfl .nil) ?_
    exact fun H hH => ⟨rfl, hH.kept⟩
  · skip
    refine aB (E := E) ?_
    refine aA rfl rfl rfl ?_
    refine aG rfl rfl rfl rfl (by first | exact aW (by omega) | exact aS (by omega)) ?_
    refine aA rfl rfl rfl ?_
    first | refine aA rfl rfl rfl ?_ | refine aH rfl rfl rfl ?_
    first | refine aG rfl rfl rfl rfl (by first | exact bU (by omega) | exact aY (by omega)) ?_ | refine aH rfl rfl rfl ?_
    first | refine bA rfl rfl rfl rfl ?_ | refine bB rfl rfl rfl rfl ?_
    refine aA rfl rfl rfl ?_
    first | refine aA rfl rfl rfl ?_ | refine aH rfl rfl rfl ?_
    first | refine aA rfl rfl rfl ?_ | refine aH rfl rfl rfl ?_
    first | refine aG rfl rfl rfl rfl (by first | exact aF (aK (by omega) (by omega)) | exact bC (by omega) | exact aF (aK (by omega) (by omega)) | exact aF rfl) ?_ | refine aH rfl rfl rfl ?_
    first | refine aG rfl rfl rfl rfl (by first | exact bU (by omega) | exact aY (by omega)) ?_ | refine aH rfl rfl rfl ?_
    first | refine bA rfl rfl rfl rfl ?_ | refine bB rfl rfl rfl rfl ?_
    refine aA rfl rfl rfl ?_
    first | refine aA rfl rfl rfl ?_ | refine aH rfl rfl rfl ?_
    first | refine aG rfl rfl rfl rfl (by first | exact aW (by omega) | exact aS (by omega)) ?_ | refine aH rfl rfl rfl ?_
    first | refine bA rfl rfl rfl rfl ?_ | refine bB rfl rfl rfl rfl ?_
    refine aD ?_
    refine bX rfl ?_
    refine aE ?_
    refine aB (E := E) ?_
    refine bO rfl rfl (fun h => nomatch h) rfl aLi (by repeat (first | exact Opvs.nil | apply Opvs.cons rfl)) (fun H hH => mN (hT.at hH.kept.w0.symm)) ?_
    refine aC rfl rfl rfl ?_
    refine aD ?_
    refine cI ?_
    refine bT ?_
    refine bH (.tmp rfl .nil) ?_
    exact fun H hH => ⟨rfl, hH.kept⟩
  · skip
    refine aB (E := E) ?_
    refine aA rfl rfl rfl ?_
    refine aG rfl rfl rfl rfl (by first | exact aW (by omega) | exact aS (by omega)) ?_
    refine aA rfl rfl rfl ?_
    first | refine aA rfl rfl rfl ?_ | refine aH rfl rfl rfl ?_
    first | refine aG rfl rfl rfl rfl (by first | exact bU (by omega) | exact aY (by omega)) ?_ | refine aH rfl rfl rfl ?_
    first | refine bA rfl rfl rfl rfl ?_ | refine bB rfl rfl rfl rfl ?_
    refine aA rfl rfl rfl ?_
    first | refine aA rfl rfl rfl ?_ | refine aH rfl rfl rfl ?_
    first | refine aA rfl rfl rfl ?_ | refine aH rfl rfl rfl ?_
    first | refine aG rfl rfl rfl rfl (by first | exact aF (aK (by omega) (by omega)) | exact bC (by omega) | exact aF (aK (by omega) (by omega)) | exact aF rfl) ?_ | refine aH rfl rfl rfl ?_
    first | refine aG rfl rfl rfl rfl (by first | exact bU (by omega) | exact aY (by omega)) ?_ | refine aH rfl rfl rfl ?_
    first | refine bA rfl rfl rfl rfl ?_ | refine bB rfl rfl rfl rfl ?_
    refine aA rfl rfl rfl ?_
    first | refine aA rfl rfl rfl ?_ | refine aH rfl rfl rfl ?_
    first | refine aG rfl rfl rfl rfl (by first | exact aW (by omega) | exact aS (by omega)) ?_ | refine aH rfl rfl rfl ?_
    first | refine bA rfl rfl rfl rfl ?_ | refine bB rfl rfl rfl rfl ?_
    refine aD ?_
    refine bX rfl ?_
    refine aE ?_
    refine aB (E := E) ?_
    refine bO rfl rfl (fun h => nomatch h) rfl aLi (by repeat (first | exact Opvs.nil | apply Opvs.cons rfl)) (fun H hH => mN (hT.at hH.kept.w0.symm)) ?_
    refine aC rfl rfl rfl ?_
    refine aD ?_
    refine cI ?_
    refine bT ?_
    refine bH (.tmp rfl .nil) ?_
    exact fun H hH => ⟨rfl, hH.kept⟩
  · skip
    refine aB (E := E) ?_
    refine aA rfl rfl rfl ?_
    refine aG rfl rfl rfl rfl (by first | exact aW (by omega) | exact aS (by omega)) ?_
    refine aA rfl rfl rfl ?_
    first | refine aA rfl rfl rfl ?_ | refine aH rfl rfl rfl ?_
    first | refine aG rfl rfl rfl rfl (by first | exact bU (by omega) | exact aY (by omega)) ?_ | refine aH rfl rfl rfl ?_
    first | refine bA rfl rfl rfl rfl ?_ | refine bB rfl rfl rfl rfl ?_
    refine aA rfl rfl rfl ?_
    first | refine aA rfl rfl rfl ?_ | refine aH rfl rfl rfl ?_
    first | refine aA rfl rfl rfl ?_ | refine aH rfl rfl rfl ?_
    first | refine aG rfl rfl rfl rfl (by first | exact aF (aK (by omega) (by omega)) | exact bC (by omega) | exact aF (aK (by omega) (by omega)) | exact aF rfl) ?_ | refine aH rfl rfl rfl ?_
    first | refine aG rfl rfl rfl rfl (by first | exact bU (by omega) | exact aY (by omega)) ?_ | refine aH rfl rfl rfl ?_
    first | refine bA rfl rfl rfl rfl ?_ | refine bB rfl rfl rfl rfl ?_
    refine aA rfl rfl rfl ?_
    first | refine aA rfl rfl rfl ?_ | refine aH rfl rfl rfl ?_
    first | refine aG rfl rfl rfl rfl (by first | exact aW (by omega) | exact aS (by omega)) ?_ | refine aH rfl rfl rfl ?_
    first | refine bA rfl rfl rfl rfl ?_ | refine bB rfl rfl rfl rfl ?_
    refine aD ?_
    refine bX rfl ?_
    refine aE ?_
    refine aB (E := E) ?_
    refine bO rfl rfl (fun h => nomatch h) rfl aLi (by repeat (first | exact Opvs.nil | apply Opvs.cons rfl)) (fun H hH => mN (hT.at hH.kept.w0.symm)) ?_
    refine aC rfl rfl rfl ?_
    refine aD ?_
    refine cI ?_
    refine bT ?_
    refine bH (.tmp rfl .nil) ?_
    exact fun H hH => ⟨rfl, hH.kept⟩
set_option maxHeartbeats 4000000 in
theorem aNh {S : AH} {a b : Int} {n : Nat} (hT : Tab S) (ha0 : -1048576 ≤ a) (ha1 : a ≤ 1048576) (hb : b ≤ a + 1000) (hb0 : -4611686018427387904 ≤ b) (hn0 : b ≤ a + ((n : Nat) : Int)) (hn1 : n = 0 ∨ b = a + ((n : Nat) : Int)) (hl : xM ⟨⟨scL a b⟩⟩ (wL a n) 0 0) : XCall Tryz.prog 3 [.int .i64 a, .int .i64 b] S fun v H' => v = .bool true ∧ Kept S.nx S H' := by
  have hn2 : n ≤ 1000 := by omega
  have l1 := It.txt_le (y := .num a) (It.ok_small (by omega) (by omega))
  have l2 := It.txt_le (y := .num b) ⟨by omega, by omega⟩
  simp only [It.txt] at l1 l2
  have hw : wL a n ≠ [] := by simp [wL]
  refine fD (E := E) (n := 71) (rs := [.tmp 4]) (l := [(1, _), (0, _)]) (aV Tryz.func3 rfl rfl rfl) (A0 := fun _ => False) (fun j h => h.elim) rfl ?_
  refine aE ?_
  refine aB (E := E) ?_
  refine aC rfl rfl rfl ?_
  refine aD ?_
  refine aE ?_
  refine aE ?_
  refine aB (E := E) ?_
  refine aA rfl rfl rfl ?_
  refine aG rfl rfl rfl rfl (by first | exact aW (by omega) | exact aS (by omega)) ?_
  refine aA rfl rfl rfl ?_
  first | refine aA rfl rfl rfl ?_ | refine aH rfl rfl rfl ?_
  first | refine aG rfl rfl rfl rfl (by first | exact bU (by omega) | exact aY (by omega)) ?_ | refine aH rfl rfl rfl ?_
  first | refine bA rfl rfl rfl rfl ?_ | refine bB rfl rfl rfl rfl ?_
  refine aA rfl rfl rfl ?_
  first | refine aA rfl rfl rfl ?_ | refine aH rfl rfl rfl ?_
  first | refine aA rfl rfl rfl ?_ | refine aH rfl rfl rfl ?_
  first | refine aG rfl rfl rfl rfl (by first | exact aF (aK (by omega) (by omega)) | exact bC (by omega) | exact aF (aK (by omega) (by omega)) | exact aF rfl) ?_ | refine aH rfl rfl rfl ?_
  first | refine aG rfl rfl rfl rfl (by first | exact bU (by omega) | exact aY (by omega)) ?_ | refine aH rfl rfl rfl ?_
  first | refine bA rfl rfl rfl rfl ?_ | refine bB rfl rfl rfl rfl ?_
  refine aA rfl rfl rfl ?_
  first | refine aA rfl rfl rfl ?_ | refine aH rfl rfl rfl ?_
  first | refine aG rfl rfl rfl rfl (by first | exact aW (by omega) | exact aS (by omega)) ?_ | refine aH rfl rfl rfl ?_
  first | refine bA rfl rfl rfl rfl ?_ | refine bB rfl rfl rfl rfl ?_
  refine aD ?_
  refine aM rfl ?_
  refine aX ?_
  refine aQ ?_
  refine aE ?_
  refine aB (E := E) ?_
  refine iY rfl rfl (by repeat (first | exact Opps.nil | apply Opps.cons rfl)) (by rfl) ?_
  refine aA rfl rfl rfl ?_
  refine bO rfl rfl (fun h => nomatch h) rfl aQk (by repeat (first | exact Opvs.nil | apply Opvs.cons rfl)) (fun H hH => uI (hT.at hH.kept.w0.symm) (by omega) (by omega)) ?_
  refine aG rfl rfl rfl rfl (by first | exact kN (by show List.length _ + List.length _ ≤ _; simp only [List.length_append, List.length_cons, List.length_nil]; omega) rfl | exact bC (by omega) | exact aF (aK (by omega) (by omega)) | exact aF rfl) ?_
  refine aG rfl rfl rfl rfl (by first | exact kN (by show List.length _ + List.length _ ≤ _; simp only [List.length_append, List.length_cons, List.length_nil]; omega) rfl | exact bC (by omega) | exact aF (aK (by omega) (by omega)) | exact aF rfl) ?_
  refine aA rfl rfl rfl ?_
  refine bO rfl rfl (fun h => nomatch h) rfl aQk (by repeat (first | exact Opvs.nil | apply Opvs.cons rfl)) (fun H hH => uI (hT.at hH.kept.w0.symm) (by omega) (by omega)) ?_
  refine aG rfl rfl rfl rfl (by first | exact kN (by show List.length _ + List.length _ ≤ _; simp only [List.length_append, List.length_cons, List.length_nil]; omega) rfl | exact bC (by omega) | exact aF (aK (by omega) (by omega)) | exact aF rfl) ?_
  refine aG rfl rfl rfl rfl (by first | exact kN (by show List.length _ + List.length _ ≤ _; simp only [List.length_append, List.length_cons, List.length_nil]; omega) rfl | exact bC (by omega) | exact aF (aK (by omega) (by omega)) | exact aF rfl) ?_
  refine bO rfl rfl (fun h => nomatch h) rfl has6 (by repeat (first | exact Opvs.nil | apply Opvs.cons rfl)) (fun H hH => aRf (s := ⟨⟨scL a b⟩⟩) (hT.at hH.kept.w0.symm) hw hl) ?_
  refine aA rfl rfl rfl ?_
  refine bP rfl rfl rfl rfl ?_
  refine bP rfl rfl rfl rfl ?_
  refine bP rfl rfl rfl rfl ?_
  refine bP rfl rfl rfl rfl ?_
  refine cZ (cs := (.int .i64 0 :: .int .i64 0 :: .int .i64 0 :: .slice none 0 0 :: .int .i64 0 :: .int .i64 0 :: .int .i64 0 :: .slice none 0 0 :: .slice none 0 0 :: .slice none 0 0 :: [])) rfl rfl (fun h => nomatch h) iA rfl rfl ?_
  intro N5
  refine cQ rfl (fun h => nomatch h) rfl rfl iA (by first | exact aI _ _ | rfl) rfl (by repeat (first | exact .zero | apply Upd.succ)) (by first | exact bW rfl | exact bR rfl | exact bK rfl | exact cD rfl | rfl) (by first | exact aT rfl rfl | exact aT rfl (aI _ _) | exact aP rfl | exact Nat.le_of_ble_eq_true rfl | omega) (fun h => nomatch h) ?_
  refine aC rfl rfl rfl ?_
  refine aC rfl rfl rfl ?_
  refine aC rfl rfl rfl ?_
  refine aD ?_
  refine aE ?_
  refine aB (E := E) ?_
  refine aC rfl rfl rfl ?_
  refine aD ?_
  refine aE ?_
  refine aB (E := E) ?_
  refine aC rfl rfl rfl ?_
  refine aD ?_
  refine aE ?_
  refine aE ?_
  refine aB (E := E) ?_
  refine aA rfl rfl rfl ?_
  refine aC rfl rfl rfl ?_
  refine aD ?_
  refine bE ?_
  refine gT (τ := Nat) (fun k => n - k) (fun k => [(0, .int .i64 a), (1, .int .i64 b), (6, .string ⟨⟨wL a n⟩⟩), (8, .int .i64 0), (9, .string ⟨⟨ol a k⟩⟩), (10, .int .i64 ((k : Nat) : Int)), (11, .int .i64 (a + ((k : Nat) : Int)))]) (fun _ => _) (fun _ => _) (fun _ => []) (fun k => k ≤ n) (0) ((Nat.zero_le _)) (by repeat (first | exact .nil | refine .cons (by first | rfl | exact congrArg (fun i => some (Value.int .i64 i)) (show a = a + ((0 : Nat) : Int) by omega)) ?_)) rfl rfl (List.nil_sublist _) ?_
  intro k hJ2 t1
  have hk0 : k ≤ n := hJ2
  have h9 := mY (a := a) (k := k) ha0 ha1 (by omega)
  have h8 := gG (x := a + ((k : Nat) : Int)) (by omega) (by omega)
  have h7 := gG (x := ((k : Nat) : Int)) (by omega) (by omega)
  refine aE ?_
  refine aE ?_
  rcases Nat.lt_or_ge k n with hk | hk
  · skip
    refine aB (E := E) ?_
    refine aA rfl rfl rfl ?_
    refine aA rfl rfl rfl ?_
    refine aG rfl rfl rfl rfl (by first | exact aW (by omega) | exact aS (by omega) | exact aW (by omega) | exact aS (by omega)) ?_
    refine aD ?_
    refine bX rfl ?_
    refine aX ?_
    refine aQ ?_
    refine aE ?_
    refine bE ?_
    refine aE ?_
    refine aB (E := E) ?_
    refine aA rfl rfl rfl ?_
    refine aA rfl rfl rfl ?_
    refine bO rfl rfl (fun h => nomatch h) rfl aQk (by repeat (first | exact Opvs.nil | apply Opvs.cons rfl)) (fun H hH => uI (hT.at hH.kept.w0.symm) (by omega) (by omega)) ?_
    refine aG rfl rfl rfl rfl (by first | exact kN (by show List.length _ + List.length _ ≤ _; simp only [List.length_append, List.length_cons, List.length_nil]; omega) rfl | exact bC (by omega) | exact aF (aK (by omega) (by omega)) | exact aF rfl) ?_
    refine aG rfl rfl rfl rfl (by first | exact kN (by show List.length _ + List.length _ ≤ _; simp only [List.length_append, List.length_cons, List.length_nil]; omega) rfl | exact bC (by omega) | exact aF (aK (by omega) (by omega)) | exact aF rfl) ?_
    refine aC rfl rfl rfl ?_
    refine aD ?_
    refine aB (E := E) ?_
    refine aA rfl rfl rfl ?_
    refine aG rfl rfl rfl rfl (by first | exact bC (by omega) | exact bC (by omega) | exact aF (aK (by omega) (by omega)) | exact aF rfl) ?_
    refine aC rfl rfl rfl ?_
    refine eY ?_
    refine cP ?_
    refine aQ ?_
    refine aB (E := E) ?_
    refine aA rfl rfl rfl ?_
    refine aG rfl rfl rfl rfl (by first | exact aF (aK (by omega) (by omega)) | exact bC (by omega) | exact aF (aK (by omega) (by omega)) | exact aF rfl) ?_
    refine aC rfl rfl rfl ?_
    refine eY ?_
    exact dR (k + 1) (show n - (k + 1) < n - k by omega) (show k + 1 ≤ n by omega) (by repeat (first | exact .nil | refine .cons (by first | rfl | exact congrArg (fun i => some (Value.int .i64 i)) (show a + ((k : Nat) : Int) + 1 = a + ((k + 1 : Nat) : Int) by omega)) ?_)) rfl rfl (List.nil_sublist _)
  · skip
    obtain rfl : k = n := by omega
    refine aB (E := E) ?_
    refine aA rfl rfl rfl ?_
    refine aA rfl rfl rfl ?_
    refine aG rfl rfl rfl rfl (by first | exact aW (by omega) | exact aS (by omega) | exact aW (by omega) | exact aS (by omega)) ?_
    refine aD ?_
    refine aM rfl ?_
    refine kG ?_
    refine eG ?_
    refine eK ?_
    refine dL ?_
    refine aQ ?_
    refine aE ?_
    refine aB (E := E) ?_
    refine aA rfl rfl rfl ?_
    refine aA rfl rfl rfl ?_
    refine aA rfl rfl rfl ?_
    refine bO rfl rfl (fun h => nomatch h) rfl aQk (by repeat (first | exact Opvs.nil | apply Opvs.cons rfl)) (fun H hH => uI (hT.at hH.kept.w0.symm) (by omega) (by omega)) ?_
    refine aG rfl rfl rfl rfl (by first | exact kN (by show List.length _ + List.length _ ≤ _; simp only [List.length_append, List.length_cons, List.length_nil]; omega) rfl | exact bC (by omega) | exact aF (aK (by omega) (by omega)) | exact aF rfl) ?_
    refine aG rfl rfl rfl rfl (by first | exact kN (by show List.length _ + List.length _ ≤ _; simp only [List.length_append, List.length_cons, List.length_nil]; omega) rfl | exact bC (by omega) | exact aF (aK (by omega) (by omega)) | exact aF rfl) ?_
    refine aG rfl rfl rfl rfl (by first | exact vE rfl | exact vE (by first | rfl | assumption | decide) | exact aEl (by first | rfl | assumption | decide)) ?_
    refine aA rfl rfl rfl ?_
    first | refine aA rfl rfl rfl ?_ | refine aH rfl rfl rfl ?_
    first | refine aG rfl rfl rfl rfl (by first | exact bN rfl | exact bN (by first | rfl | assumption | omega) | exact bJ (by first | rfl | assumption | omega)) ?_ | refine aH rfl rfl rfl ?_
    first | refine bA rfl rfl rfl rfl ?_ | refine bB rfl rfl rfl rfl ?_
    refine aA rfl rfl rfl ?_
    first | refine bO rfl rfl (fun h => nomatch h) rfl aLi (by repeat (first | exact Opvs.nil | apply Opvs.cons rfl)) (fun H hH => mN (hT.at hH.kept.w0.symm)) ?_ | refine aH rfl rfl rfl ?_
    first | refine bA rfl rfl rfl rfl ?_ | refine bB rfl rfl rfl rfl ?_
    refine aC rfl rfl rfl ?_
    refine aD ?_
    refine cI ?_
    refine bH (.tmp rfl .nil) ?_
    exact fun H hH => ⟨rfl, hH.kept⟩
end Go.Proofs.YthgfcpgjabodoaaGreatDoor
namespace Go.Proofs.YthgfcpgjabodoaaGreatDoor
open Go Go.AM
/-- the law InterpLoops returns true -/
theorem vZ {S : AH} {a b : Int} (hT : Tab S) : XCall Tryz.prog 3 [.int .i64 a, .int .i64 b] S fun v H' => v = .bool true ∧ Kept S.nx S H' := by
  rcases (show (a < -1048576 ∨ 1048576 < a ∨ a + 1000 < b ∨ b < -4611686018427387904) ∨ (-1048576 ≤ a ∧ a ≤ 1048576 ∧ b ≤ a + 1000 ∧ -4611686018427387904 ≤ b) by omega) with h | ⟨h1, h2, h3, h4⟩
  · exact aHm hT h
  · exact aNh (n := (b - a).toNat) hT h1 h2 h3 h4 (by omega) (by omega) (leftL h1 h2 h3 h4 rfl)
end Go.Proofs.YthgfcpgjabodoaaGreatDoor
