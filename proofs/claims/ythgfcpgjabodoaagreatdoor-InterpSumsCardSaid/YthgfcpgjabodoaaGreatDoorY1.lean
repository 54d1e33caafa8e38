/-
  What the scripts leave.
-/
import Derived.Test.YthgfcpgjabodoaaGreatDoorY0
import Derived.Test.YthgfcpgjabodoaaGreatDoorZ0
import Derived.Test.YthgfcpgjabodoaaGreatDoorXS00
import Derived.Test.YthgfcpgjabodoaaGreatDoorXS01
import Derived.Test.YthgfcpgjabodoaaGreatDoorXS10
import Derived.Test.YthgfcpgjabodoaaGreatDoorXS11
import Derived.Test.YthgfcpgjabodoaaGreatDoorXT00z
import Derived.Test.YthgfcpgjabodoaaGreatDoorXT00p
import Derived.Test.YthgfcpgjabodoaaGreatDoorXT10z
import Derived.Test.YthgfcpgjabodoaaGreatDoorXT10p
import Derived.Test.YthgfcpgjabodoaaGreatDoorXT01
import Derived.Test.YthgfcpgjabodoaaGreatDoorXT11
set_option linter.unusedVariables false
set_option linter.unusedSimpArgs false
set_option maxRecDepth 100000
namespace Go.Proofs.YthgfcpgjabodoaaGreatDoor
open Go Go.AM

def sT (a : Int) : List UInt8 := ([40] ++ Lib.itoa a) ++ [41]
def scS (a b : Int) : List UInt8 := ((([108, 101, 116, 32, 97, 32, 61, 32] ++ sT a) ++ [59, 32, 108, 101, 116, 32, 98, 32, 61, 32]) ++ sT b) ++ [59, 32, 112, 114, 105, 110, 116, 40, 97, 32, 43, 32, 98, 44, 32, 97, 32, 45, 32, 98, 44, 32, 97, 32, 42, 32, 98, 44, 32, 45, 97, 44, 32, 97, 32, 60, 32, 98, 44, 32, 97, 32, 61, 61, 32, 98, 44, 32, 97, 32, 62, 61, 32, 98, 41, 59]
def scT (a b : Int) : List UInt8 := ((([108, 101, 116, 32, 97, 32, 61, 32] ++ sT a) ++ [59, 32, 108, 101, 116, 32, 98, 32, 61, 32]) ++ sT b) ++ [59, 32, 108, 101, 116, 32, 114, 32, 61, 32, 97, 32, 37, 32, 98, 59, 32, 112, 114, 105, 110, 116, 40, 97, 32, 47, 32, 98, 32, 42, 32, 98, 32, 43, 32, 114, 32, 61, 61, 32, 97, 44, 32, 98, 32, 62, 32, 48, 32, 38, 38, 32, 48, 32, 60, 61, 32, 114, 32, 38, 38, 32, 114, 32, 60, 32, 98, 32, 124, 124, 32, 98, 32, 60, 32, 48, 32, 38, 38, 32, 98, 32, 60, 32, 114, 32, 38, 38, 32, 114, 32, 60, 61, 32, 48, 41, 59]
def wS (a b : Int) : List UInt8 := ((((((((((((Lib.itoa (a + b) ++ [32]) ++ Lib.itoa (a - b)) ++ [32]) ++ Lib.itoa (a * b)) ++ [32]) ++ Lib.itoa (-a)) ++ [32]) ++ shB (decide (a < b))) ++ [32]) ++ shB (decide (a = b))) ++ [32]) ++ shB (decide (b ≤ a))) ++ [10]
theorem jY (A : Nat) : Lib.itoa ((A : Nat) : Int) = Lib.decDigits A := Lib.itoa_nonneg A
theorem mK {A : Nat} (h : 1 ≤ A) : Lib.itoa (-((A : Nat) : Int)) = 45 :: Lib.decDigits A := Lib.itoa_neg A h
theorem aNv {A B : Nat} (hA : A ≤ 2147483648) (hB : B ≤ 2147483648) : mV ⟨⟨scS ((A : Nat) : Int) ((B : Nat) : Int)⟩⟩ (wS ((A : Nat) : Int) ((B : Nat) : Int)) 0 0 := by
 have e : scS ((A : Nat) : Int) ((B : Nat) : Int) = [108, 101, 116, 32, 97, 32, 61, 32, 40] ++ (Lib.decDigits A ++ ([41, 59, 32, 108, 101, 116, 32, 98, 32, 61, 32, 40] ++ (Lib.decDigits B ++ [41, 59, 32, 112, 114, 105, 110, 116, 40, 97, 32, 43, 32, 98, 44, 32, 97, 32, 45, 32, 98, 44, 32, 97, 32, 42, 32, 98, 44, 32, 45, 97, 44, 32, 97, 32, 60, 32, 98, 44, 32, 97, 32, 61, 61, 32, 98, 44, 32, 97, 32, 62, 61, 32, 98, 41, 59]))) := by
  unfold scS sT
  rw [jY A, jY B]
  simp only [List.append_assoc, List.cons_append, List.nil_append]
 intro S hT
 rw [e]
 refine (exS00 hA hB hT (cZ (by omega)) (cZ (by omega)) (dH (by omega)) (dH (by omega)) (dC _) (dC _) (eG _) (eG _) (dB (by omega)) (dB (by omega))).mono ?_
 rintro u H' _ ⟨Lo, h1, rfl, rfl⟩
 have e2 : ot ([.num (((A : Nat) : Int) + ((B : Nat) : Int)), .num (((A : Nat) : Int) - ((B : Nat) : Int)), .num (((A : Nat) : Int) * ((B : Nat) : Int)), .num (-((A : Nat) : Int)), .tru (decide (((A : Nat) : Int) < ((B : Nat) : Int))), .tru (decide (((A : Nat) : Int) = ((B : Nat) : Int))), .tru (decide (((B : Nat) : Int) ≤ ((A : Nat) : Int)))] : List It) ++ [10] = wS ((A : Nat) : Int) ((B : Nat) : Int) := by simp [ot, It.txt, wS, shB]
 have hne : ot ([.num (((A : Nat) : Int) + ((B : Nat) : Int)), .num (((A : Nat) : Int) - ((B : Nat) : Int)), .num (((A : Nat) : Int) * ((B : Nat) : Int)), .num (-((A : Nat) : Int)), .tru (decide (((A : Nat) : Int) < ((B : Nat) : Int))), .tru (decide (((A : Nat) : Int) = ((B : Nat) : Int))), .tru (decide (((B : Nat) : Int) ≤ ((A : Nat) : Int)))] : List It) ++ [10] ≠ [] := by simp
 rw [← e2]
 exact ⟨_, h1, S.nx + 1059, S.nx + 1183, zH ([.num (((A : Nat) : Int) + ((B : Nat) : Int)), .num (((A : Nat) : Int) - ((B : Nat) : Int)), .num (((A : Nat) : Int) * ((B : Nat) : Int)), .num (-((A : Nat) : Int)), .tru (decide (((A : Nat) : Int) < ((B : Nat) : Int))), .tru (decide (((A : Nat) : Int) = ((B : Nat) : Int))), .tru (decide (((B : Nat) : Int) ≤ ((A : Nat) : Int)))] : List It), (fun k => ([.int .i64 1, .int .i64 1, .int .i64 0, .slice none 0 0, .int .i64 1, .int .i64 0, .int .i64 0, .slice none 0 0, .slice none 0 0, .slice none 0 0, .slice none 0 0, .slice none 0 0, .int .i64 26, .int .i64 0, .map (some (2 * (S.nx + 1058) + 1)), .int .i64 0, .int .i64 0, .string ⟨#[]⟩, .slice none 0 0, .int .i64 0, .int .i64 0][k]?).getD (.slice none 0 0)), rfl, by rw [dO hne, iG hne]; rfl⟩
theorem aPl {A B : Nat} (hA : A ≤ 2147483648) (hB : B ≤ 2147483648) (hB1 : 1 ≤ B) : mV ⟨⟨scS ((A : Nat) : Int) (-((B : Nat) : Int))⟩⟩ (wS ((A : Nat) : Int) (-((B : Nat) : Int))) 0 0 := by
 have e : scS ((A : Nat) : Int) (-((B : Nat) : Int)) = [108, 101, 116, 32, 97, 32, 61, 32, 40] ++ (Lib.decDigits A ++ ([41, 59, 32, 108, 101, 116, 32, 98, 32, 61, 32, 40, 45] ++ (Lib.decDigits B ++ [41, 59, 32, 112, 114, 105, 110, 116, 40, 97, 32, 43, 32, 98, 44, 32, 97, 32, 45, 32, 98, 44, 32, 97, 32, 42, 32, 98, 44, 32, 45, 97, 44, 32, 97, 32, 60, 32, 98, 44, 32, 97, 32, 61, 61, 32, 98, 44, 32, 97, 32, 62, 61, 32, 98, 41, 59]))) := by
  unfold scS sT
  rw [jY A, mK hB1]
  simp only [List.append_assoc, List.cons_append, List.nil_append]
 intro S hT
 rw [e]
 refine (exS01 hA hB hT (cZ (by omega)) (cZ (by omega)) (dH (by omega)) (dH (by omega)) (dC _) (dC _) (eG _) (eG _) (dB (by omega)) (dB (by omega))).mono ?_
 rintro u H' _ ⟨Lo, h1, rfl, rfl⟩
 have e2 : ot ([.num (((A : Nat) : Int) + (-((B : Nat) : Int))), .num (((A : Nat) : Int) - (-((B : Nat) : Int))), .num (((A : Nat) : Int) * (-((B : Nat) : Int))), .num (-((A : Nat) : Int)), .tru (decide (((A : Nat) : Int) < (-((B : Nat) : Int)))), .tru (decide (((A : Nat) : Int) = (-((B : Nat) : Int)))), .tru (decide ((-((B : Nat) : Int)) ≤ ((A : Nat) : Int)))] : List It) ++ [10] = wS ((A : Nat) : Int) (-((B : Nat) : Int)) := by simp [ot, It.txt, wS, shB]
 have hne : ot ([.num (((A : Nat) : Int) + (-((B : Nat) : Int))), .num (((A : Nat) : Int) - (-((B : Nat) : Int))), .num (((A : Nat) : Int) * (-((B : Nat) : Int))), .num (-((A : Nat) : Int)), .tru (decide (((A : Nat) : Int) < (-((B : Nat) : Int)))), .tru (decide (((A : Nat) : Int) = (-((B : Nat) : Int)))), .tru (decide ((-((B : Nat) : Int)) ≤ ((A : Nat) : Int)))] : List It) ++ [10] ≠ [] := by simp
 rw [← e2]
 exact ⟨_, h1, S.nx + 1073, S.nx + 1205, zH ([.num (((A : Nat) : Int) + (-((B : Nat) : Int))), .num (((A : Nat) : Int) - (-((B : Nat) : Int))), .num (((A : Nat) : Int) * (-((B : Nat) : Int))), .num (-((A : Nat) : Int)), .tru (decide (((A : Nat) : Int) < (-((B : Nat) : Int)))), .tru (decide (((A : Nat) : Int) = (-((B : Nat) : Int)))), .tru (decide ((-((B : Nat) : Int)) ≤ ((A : Nat) : Int)))] : List It), (fun k => ([.int .i64 1, .int .i64 1, .int .i64 0, .slice none 0 0, .int .i64 1, .int .i64 0, .int .i64 0, .slice none 0 0, .slice none 0 0, .slice none 0 0, .slice none 0 0, .slice none 0 0, .int .i64 27, .int .i64 0, .map (some (2 * (S.nx + 1072) + 1)), .int .i64 0, .int .i64 0, .string ⟨#[]⟩, .slice none 0 0, .int .i64 0, .int .i64 0][k]?).getD (.slice none 0 0)), rfl, by rw [dO hne, iG hne]; rfl⟩
theorem aPa {A B : Nat} (hA : A ≤ 2147483648) (hB : B ≤ 2147483648) (hA1 : 1 ≤ A) : mV ⟨⟨scS (-((A : Nat) : Int)) ((B : Nat) : Int)⟩⟩ (wS (-((A : Nat) : Int)) ((B : Nat) : Int)) 0 0 := by
 have e : scS (-((A : Nat) : Int)) ((B : Nat) : Int) = [108, 101, 116, 32, 97, 32, 61, 32, 40, 45] ++ (Lib.decDigits A ++ ([41, 59, 32, 108, 101, 116, 32, 98, 32, 61, 32, 40] ++ (Lib.decDigits B ++ [41, 59, 32, 112, 114, 105, 110, 116, 40, 97, 32, 43, 32, 98, 44, 32, 97, 32, 45, 32, 98, 44, 32, 97, 32, 42, 32, 98, 44, 32, 45, 97, 44, 32, 97, 32, 60, 32, 98, 44, 32, 97, 32, 61, 61, 32, 98, 44, 32, 97, 32, 62, 61, 32, 98, 41, 59]))) := by
  unfold scS sT
  rw [mK hA1, jY B]
  simp only [List.append_assoc, List.cons_append, List.nil_append]
 intro S hT
 rw [e]
 refine (exS10 hA hB hT (cZ (by omega)) (cZ (by omega)) (dH (by omega)) (dH (by omega)) (dC _) (dC _) (eG _) (eG _) (dB (by omega)) (dB (by omega))).mono ?_
 rintro u H' _ ⟨Lo, h1, rfl, rfl⟩
 have e2 : ot ([.num ((-((A : Nat) : Int)) + ((B : Nat) : Int)), .num ((-((A : Nat) : Int)) - ((B : Nat) : Int)), .num ((-((A : Nat) : Int)) * ((B : Nat) : Int)), .num (-(-((A : Nat) : Int))), .tru (decide ((-((A : Nat) : Int)) < ((B : Nat) : Int))), .tru (decide ((-((A : Nat) : Int)) = ((B : Nat) : Int))), .tru (decide (((B : Nat) : Int) ≤ (-((A : Nat) : Int))))] : List It) ++ [10] = wS (-((A : Nat) : Int)) ((B : Nat) : Int) := by simp [ot, It.txt, wS, shB]
 have hne : ot ([.num ((-((A : Nat) : Int)) + ((B : Nat) : Int)), .num ((-((A : Nat) : Int)) - ((B : Nat) : Int)), .num ((-((A : Nat) : Int)) * ((B : Nat) : Int)), .num (-(-((A : Nat) : Int))), .tru (decide ((-((A : Nat) : Int)) < ((B : Nat) : Int))), .tru (decide ((-((A : Nat) : Int)) = ((B : Nat) : Int))), .tru (decide (((B : Nat) : Int) ≤ (-((A : Nat) : Int))))] : List It) ++ [10] ≠ [] := by simp
 rw [← e2]
 exact ⟨_, h1, S.nx + 1073, S.nx + 1205, zH ([.num ((-((A : Nat) : Int)) + ((B : Nat) : Int)), .num ((-((A : Nat) : Int)) - ((B : Nat) : Int)), .num ((-((A : Nat) : Int)) * ((B : Nat) : Int)), .num (-(-((A : Nat) : Int))), .tru (decide ((-((A : Nat) : Int)) < ((B : Nat) : Int))), .tru (decide ((-((A : Nat) : Int)) = ((B : Nat) : Int))), .tru (decide (((B : Nat) : Int) ≤ (-((A : Nat) : Int))))] : List It), (fun k => ([.int .i64 1, .int .i64 1, .int .i64 0, .slice none 0 0, .int .i64 1, .int .i64 0, .int .i64 0, .slice none 0 0, .slice none 0 0, .slice none 0 0, .slice none 0 0, .slice none 0 0, .int .i64 27, .int .i64 0, .map (some (2 * (S.nx + 1072) + 1)), .int .i64 0, .int .i64 0, .string ⟨#[]⟩, .slice none 0 0, .int .i64 0, .int .i64 0][k]?).getD (.slice none 0 0)), rfl, by rw [dO hne, iG hne]; rfl⟩
theorem aOb {A B : Nat} (hA : A ≤ 2147483648) (hB : B ≤ 2147483648) (hA1 : 1 ≤ A) (hB1 : 1 ≤ B) : mV ⟨⟨scS (-((A : Nat) : Int)) (-((B : Nat) : Int))⟩⟩ (wS (-((A : Nat) : Int)) (-((B : Nat) : Int))) 0 0 := by
 have e : scS (-((A : Nat) : Int)) (-((B : Nat) : Int)) = [108, 101, 116, 32, 97, 32, 61, 32, 40, 45] ++ (Lib.decDigits A ++ ([41, 59, 32, 108, 101, 116, 32, 98, 32, 61, 32, 40, 45] ++ (Lib.decDigits B ++ [41, 59, 32, 112, 114, 105, 110, 116, 40, 97, 32, 43, 32, 98, 44, 32, 97, 32, 45, 32, 98, 44, 32, 97, 32, 42, 32, 98, 44, 32, 45, 97, 44, 32, 97, 32, 60, 32, 98, 44, 32, 97, 32, 61, 61, 32, 98, 44, 32, 97, 32, 62, 61, 32, 98, 41, 59]))) := by
  unfold scS sT
  rw [mK hA1, mK hB1]
  simp only [List.append_assoc, List.cons_append, List.nil_append]
 intro S hT
 rw [e]
 refine (exS11 hA hB hT (cZ (by omega)) (cZ (by omega)) (dH (by omega)) (dH (by omega)) (dC _) (dC _) (eG _) (eG _) (dB (by omega)) (dB (by omega))).mono ?_
 rintro u H' _ ⟨Lo, h1, rfl, rfl⟩
 have e2 : ot ([.num ((-((A : Nat) : Int)) + (-((B : Nat) : Int))), .num ((-((A : Nat) : Int)) - (-((B : Nat) : Int))), .num ((-((A : Nat) : Int)) * (-((B : Nat) : Int))), .num (-(-((A : Nat) : Int))), .tru (decide ((-((A : Nat) : Int)) < (-((B : Nat) : Int)))), .tru (decide ((-((A : Nat) : Int)) = (-((B : Nat) : Int)))), .tru (decide ((-((B : Nat) : Int)) ≤ (-((A : Nat) : Int))))] : List It) ++ [10] = wS (-((A : Nat) : Int)) (-((B : Nat) : Int)) := by simp [ot, It.txt, wS, shB]
 have hne : ot ([.num ((-((A : Nat) : Int)) + (-((B : Nat) : Int))), .num ((-((A : Nat) : Int)) - (-((B : Nat) : Int))), .num ((-((A : Nat) : Int)) * (-((B : Nat) : Int))), .num (-(-((A : Nat) : Int))), .tru (decide ((-((A : Nat) : Int)) < (-((B : Nat) : Int)))), .tru (decide ((-((A : Nat) : Int)) = (-((B : Nat) : Int)))), .tru (decide ((-((B : Nat) : Int)) ≤ (-((A : Nat) : Int))))] : List It) ++ [10] ≠ [] := by simp
 rw [← e2]
 exact ⟨_, h1, S.nx + 1087, S.nx + 1227, zH ([.num ((-((A : Nat) : Int)) + (-((B : Nat) : Int))), .num ((-((A : Nat) : Int)) - (-((B : Nat) : Int))), .num ((-((A : Nat) : Int)) * (-((B : Nat) : Int))), .num (-(-((A : Nat) : Int))), .tru (decide ((-((A : Nat) : Int)) < (-((B : Nat) : Int)))), .tru (decide ((-((A : Nat) : Int)) = (-((B : Nat) : Int)))), .tru (decide ((-((B : Nat) : Int)) ≤ (-((A : Nat) : Int))))] : List It), (fun k => ([.int .i64 1, .int .i64 1, .int .i64 0, .slice none 0 0, .int .i64 1, .int .i64 0, .int .i64 0, .slice none 0 0, .slice none 0 0, .slice none 0 0, .slice none 0 0, .slice none 0 0, .int .i64 28, .int .i64 0, .map (some (2 * (S.nx + 1086) + 1)), .int .i64 0, .int .i64 0, .string ⟨#[]⟩, .slice none 0 0, .int .i64 0, .int .i64 0][k]?).getD (.slice none 0 0)), rfl, by rw [dO hne, iG hne]; rfl⟩
theorem aNk {A B : Nat} (hA : A ≤ 2147483648) (hB : B ≤ 2147483648) (hB0 : B = 0) : mV ⟨⟨scT ((A : Nat) : Int) ((B : Nat) : Int)⟩⟩ ([]) (((9 + (Lib.decDigits A).length + 12 + (Lib.decDigits B).length + 13 : Nat) : Int)) 1 := by
 have e : scT ((A : Nat) : Int) ((B : Nat) : Int) = [108, 101, 116, 32, 97, 32, 61, 32, 40] ++ (Lib.decDigits A ++ ([41, 59, 32, 108, 101, 116, 32, 98, 32, 61, 32, 40] ++ (Lib.decDigits B ++ [41, 59, 32, 108, 101, 116, 32, 114, 32, 61, 32, 97, 32, 37, 32, 98, 59, 32, 112, 114, 105, 110, 116, 40, 97, 32, 47, 32, 98, 32, 42, 32, 98, 32, 43, 32, 114, 32, 61, 61, 32, 97, 44, 32, 98, 32, 62, 32, 48, 32, 38, 38, 32, 48, 32, 60, 61, 32, 114, 32, 38, 38, 32, 114, 32, 60, 32, 98, 32, 124, 124, 32, 98, 32, 60, 32, 48, 32, 38, 38, 32, 98, 32, 60, 32, 114, 32, 38, 38, 32, 114, 32, 60, 61, 32, 48, 41, 59]))) := by
  unfold scT sT
  rw [jY A, jY B]
  simp only [List.append_assoc, List.cons_append, List.nil_append]
 intro S hT
 rw [e]
 refine (aSd hA hB hB0 hT (cZ (by omega)) (cZ (by omega)) (dH (by omega)) (dH (by omega)) (dC _) (dC _) (eG _) (eG _) (dB (by omega)) (dB (by omega))).mono ?_
 rintro u H' _ ⟨Lo, h1, rfl, rfl⟩
 exact ⟨_, h1, S.nx + 1284, 0, 1, (fun k => ([.int .i64 1, .int .i64 1, .int .i64 0, .slice none 0 0, .int .i64 1, .int .i64 0, .int .i64 0, .slice none 0 0, .slice none 0 0, .slice none 0 0, .slice none 0 0, .slice none 0 0, .int .i64 8, .int .i64 0, .map (some (2 * (S.nx + 1283) + 1)), .int .i64 0, .int .i64 0, .string ⟨#[]⟩, .slice none 0 0, .int .i64 ((9 + (Lib.decDigits A).length + 12 + (Lib.decDigits B).length + 13 : Nat) : Int), .int .i64 1][k]?).getD (.slice none 0 0)), rfl, rfl⟩
theorem aIa {A B : Nat} (hA : A ≤ 2147483648) (hB : B ≤ 2147483648) (hB0 : 0 < B) : mV ⟨⟨scT ((A : Nat) : Int) ((B : Nat) : Int)⟩⟩ ([116, 114, 117, 101, 32, 116, 114, 117, 101, 10]) 0 0 := by
 have e : scT ((A : Nat) : Int) ((B : Nat) : Int) = [108, 101, 116, 32, 97, 32, 61, 32, 40] ++ (Lib.decDigits A ++ ([41, 59, 32, 108, 101, 116, 32, 98, 32, 61, 32, 40] ++ (Lib.decDigits B ++ [41, 59, 32, 108, 101, 116, 32, 114, 32, 61, 32, 97, 32, 37, 32, 98, 59, 32, 112, 114, 105, 110, 116, 40, 97, 32, 47, 32, 98, 32, 42, 32, 98, 32, 43, 32, 114, 32, 61, 61, 32, 97, 44, 32, 98, 32, 62, 32, 48, 32, 38, 38, 32, 48, 32, 60, 61, 32, 114, 32, 38, 38, 32, 114, 32, 60, 32, 98, 32, 124, 124, 32, 98, 32, 60, 32, 48, 32, 38, 38, 32, 98, 32, 60, 32, 114, 32, 38, 38, 32, 114, 32, 60, 61, 32, 48, 41, 59]))) := by
  unfold scT sT
  rw [jY A, jY B]
  simp only [List.append_assoc, List.cons_append, List.nil_append]
 intro S hT
 rw [e]
 refine (aSr hA hB hB0 hT (cZ (by omega)) (cZ (by omega)) (dH (by omega)) (dH (by omega)) (dC _) (dC _) (eG _) (eG _) (dB (by omega)) (dB (by omega))).mono ?_
 rintro u H' _ ⟨Lo, h1, rfl, rfl⟩
 have e2 : ot ([.tru true, .tru true] : List It) ++ [10] = [116, 114, 117, 101, 32, 116, 114, 117, 101, 10] := by simp [ot, It.txt, wS, shB]
 have hne : ot ([.tru true, .tru true] : List It) ++ [10] ≠ [] := by simp
 rw [← e2]
 exact ⟨_, h1, S.nx + 1284, S.nx + 1420, zH ([.tru true, .tru true] : List It), (fun k => ([.int .i64 1, .int .i64 1, .int .i64 0, .slice none 0 0, .int .i64 1, .int .i64 0, .int .i64 0, .slice none 0 0, .slice none 0 0, .slice none 0 0, .slice none 0 0, .slice none 0 0, .int .i64 31, .int .i64 0, .map (some (2 * (S.nx + 1283) + 1)), .int .i64 0, .int .i64 0, .string ⟨#[]⟩, .slice none 0 0, .int .i64 0, .int .i64 0][k]?).getD (.slice none 0 0)), rfl, by rw [dO hne, iG hne]; rfl⟩
theorem aLl {A B : Nat} (hA : A ≤ 2147483648) (hB : B ≤ 2147483648) (hA1 : 1 ≤ A) (hB0 : B = 0) : mV ⟨⟨scT (-((A : Nat) : Int)) ((B : Nat) : Int)⟩⟩ ([]) (((10 + (Lib.decDigits A).length + 12 + (Lib.decDigits B).length + 13 : Nat) : Int)) 1 := by
 have e : scT (-((A : Nat) : Int)) ((B : Nat) : Int) = [108, 101, 116, 32, 97, 32, 61, 32, 40, 45] ++ (Lib.decDigits A ++ ([41, 59, 32, 108, 101, 116, 32, 98, 32, 61, 32, 40] ++ (Lib.decDigits B ++ [41, 59, 32, 108, 101, 116, 32, 114, 32, 61, 32, 97, 32, 37, 32, 98, 59, 32, 112, 114, 105, 110, 116, 40, 97, 32, 47, 32, 98, 32, 42, 32, 98, 32, 43, 32, 114, 32, 61, 61, 32, 97, 44, 32, 98, 32, 62, 32, 48, 32, 38, 38, 32, 48, 32, 60, 61, 32, 114, 32, 38, 38, 32, 114, 32, 60, 32, 98, 32, 124, 124, 32, 98, 32, 60, 32, 48, 32, 38, 38, 32, 98, 32, 60, 32, 114, 32, 38, 38, 32, 114, 32, 60, 61, 32, 48, 41, 59]))) := by
  unfold scT sT
  rw [mK hA1, jY B]
  simp only [List.append_assoc, List.cons_append, List.nil_append]
 intro S hT
 rw [e]
 refine (aRx hA hB hB0 hT (cZ (by omega)) (cZ (by omega)) (dH (by omega)) (dH (by omega)) (dC _) (dC _) (eG _) (eG _) (dB (by omega)) (dB (by omega))).mono ?_
 rintro u H' _ ⟨Lo, h1, rfl, rfl⟩
 exact ⟨_, h1, S.nx + 1298, 0, 1, (fun k => ([.int .i64 1, .int .i64 1, .int .i64 0, .slice none 0 0, .int .i64 1, .int .i64 0, .int .i64 0, .slice none 0 0, .slice none 0 0, .slice none 0 0, .slice none 0 0, .slice none 0 0, .int .i64 9, .int .i64 0, .map (some (2 * (S.nx + 1297) + 1)), .int .i64 0, .int .i64 0, .string ⟨#[]⟩, .slice none 0 0, .int .i64 ((10 + (Lib.decDigits A).length + 12 + (Lib.decDigits B).length + 13 : Nat) : Int), .int .i64 1][k]?).getD (.slice none 0 0)), rfl, rfl⟩
theorem aKc {A B : Nat} (hA : A ≤ 2147483648) (hB : B ≤ 2147483648) (hA1 : 1 ≤ A) (hB0 : 0 < B) : mV ⟨⟨scT (-((A : Nat) : Int)) ((B : Nat) : Int)⟩⟩ ([116, 114, 117, 101, 32, 116, 114, 117, 101, 10]) 0 0 := by
 have e : scT (-((A : Nat) : Int)) ((B : Nat) : Int) = [108, 101, 116, 32, 97, 32, 61, 32, 40, 45] ++ (Lib.decDigits A ++ ([41, 59, 32, 108, 101, 116, 32, 98, 32, 61, 32, 40] ++ (Lib.decDigits B ++ [41, 59, 32, 108, 101, 116, 32, 114, 32, 61, 32, 97, 32, 37, 32, 98, 59, 32, 112, 114, 105, 110, 116, 40, 97, 32, 47, 32, 98, 32, 42, 32, 98, 32, 43, 32, 114, 32, 61, 61, 32, 97, 44, 32, 98, 32, 62, 32, 48, 32, 38, 38, 32, 48, 32, 60, 61, 32, 114, 32, 38, 38, 32, 114, 32, 60, 32, 98, 32, 124, 124, 32, 98, 32, 60, 32, 48, 32, 38, 38, 32, 98, 32, 60, 32, 114, 32, 38, 38, 32, 114, 32, 60, 61, 32, 48, 41, 59]))) := by
  unfold scT sT
  rw [mK hA1, jY B]
  simp only [List.append_assoc, List.cons_append, List.nil_append]
 intro S hT
 rw [e]
 refine (aRz hA hB hB0 hT (cZ (by omega)) (cZ (by omega)) (dH (by omega)) (dH (by omega)) (dC _) (dC _) (eG _) (eG _) (dB (by omega)) (dB (by omega))).mono ?_
 rintro u H' _ ⟨Lo, h1, rfl, rfl⟩
 have e2 : ot ([.tru true, .tru true] : List It) ++ [10] = [116, 114, 117, 101, 32, 116, 114, 117, 101, 10] := by simp [ot, It.txt, wS, shB]
 have hne : ot ([.tru true, .tru true] : List It) ++ [10] ≠ [] := by simp
 rw [← e2]
 exact ⟨_, h1, S.nx + 1298, S.nx + 1442, zH ([.tru true, .tru true] : List It), (fun k => ([.int .i64 1, .int .i64 1, .int .i64 0, .slice none 0 0, .int .i64 1, .int .i64 0, .int .i64 0, .slice none 0 0, .slice none 0 0, .slice none 0 0, .slice none 0 0, .slice none 0 0, .int .i64 32, .int .i64 0, .map (some (2 * (S.nx + 1297) + 1)), .int .i64 0, .int .i64 0, .string ⟨#[]⟩, .slice none 0 0, .int .i64 0, .int .i64 0][k]?).getD (.slice none 0 0)), rfl, by rw [dO hne, iG hne]; rfl⟩
theorem aNq {A B : Nat} (hA : A ≤ 2147483648) (hB : B ≤ 2147483648) (hB1 : 1 ≤ B) : mV ⟨⟨scT ((A : Nat) : Int) (-((B : Nat) : Int))⟩⟩ ([116, 114, 117, 101, 32, 116, 114, 117, 101, 10]) 0 0 := by
 have e : scT ((A : Nat) : Int) (-((B : Nat) : Int)) = [108, 101, 116, 32, 97, 32, 61, 32, 40] ++ (Lib.decDigits A ++ ([41, 59, 32, 108, 101, 116, 32, 98, 32, 61, 32, 40, 45] ++ (Lib.decDigits B ++ [41, 59, 32, 108, 101, 116, 32, 114, 32, 61, 32, 97, 32, 37, 32, 98, 59, 32, 112, 114, 105, 110, 116, 40, 97, 32, 47, 32, 98, 32, 42, 32, 98, 32, 43, 32, 114, 32, 61, 61, 32, 97, 44, 32, 98, 32, 62, 32, 48, 32, 38, 38, 32, 48, 32, 60, 61, 32, 114, 32, 38, 38, 32, 114, 32, 60, 32, 98, 32, 124, 124, 32, 98, 32, 60, 32, 48, 32, 38, 38, 32, 98, 32, 60, 32, 114, 32, 38, 38, 32, 114, 32, 60, 61, 32, 48, 41, 59]))) := by
  unfold scT sT
  rw [jY A, mK hB1]
  simp only [List.append_assoc, List.cons_append, List.nil_append]
 intro S hT
 rw [e]
 refine (exT01 hA hB (by omega) hT (cZ (by omega)) (cZ (by omega)) (dH (by omega)) (dH (by omega)) (dC _) (dC _) (eG _) (eG _) (dB (by omega)) (dB (by omega))).mono ?_
 rintro u H' _ ⟨Lo, h1, rfl, rfl⟩
 have e2 : ot ([.tru true, .tru true] : List It) ++ [10] = [116, 114, 117, 101, 32, 116, 114, 117, 101, 10] := by simp [ot, It.txt, wS, shB]
 have hne : ot ([.tru true, .tru true] : List It) ++ [10] ≠ [] := by simp
 rw [← e2]
 exact ⟨_, h1, S.nx + 1298, S.nx + 1462, zH ([.tru true, .tru true] : List It), (fun k => ([.int .i64 1, .int .i64 1, .int .i64 0, .slice none 0 0, .int .i64 1, .int .i64 0, .int .i64 0, .slice none 0 0, .slice none 0 0, .slice none 0 0, .slice none 0 0, .slice none 0 0, .int .i64 37, .int .i64 0, .map (some (2 * (S.nx + 1297) + 1)), .int .i64 0, .int .i64 0, .string ⟨#[]⟩, .slice none 0 0, .int .i64 0, .int .i64 0][k]?).getD (.slice none 0 0)), rfl, by rw [dO hne, iG hne]; rfl⟩
theorem aNu {A B : Nat} (hA : A ≤ 2147483648) (hB : B ≤ 2147483648) (hA1 : 1 ≤ A) (hB1 : 1 ≤ B) : mV ⟨⟨scT (-((A : Nat) : Int)) (-((B : Nat) : Int))⟩⟩ ([116, 114, 117, 101, 32, 116, 114, 117, 101, 10]) 0 0 := by
 have e : scT (-((A : Nat) : Int)) (-((B : Nat) : Int)) = [108, 101, 116, 32, 97, 32, 61, 32, 40, 45] ++ (Lib.decDigits A ++ ([41, 59, 32, 108, 101, 116, 32, 98, 32, 61, 32, 40, 45] ++ (Lib.decDigits B ++ [41, 59, 32, 108, 101, 116, 32, 114, 32, 61, 32, 97, 32, 37, 32, 98, 59, 32, 112, 114, 105, 110, 116, 40, 97, 32, 47, 32, 98, 32, 42, 32, 98, 32, 43, 32, 114, 32, 61, 61, 32, 97, 44, 32, 98, 32, 62, 32, 48, 32, 38, 38, 32, 48, 32, 60, 61, 32, 114, 32, 38, 38, 32, 114, 32, 60, 32, 98, 32, 124, 124, 32, 98, 32, 60, 32, 48, 32, 38, 38, 32, 98, 32, 60, 32, 114, 32, 38, 38, 32, 114, 32, 60, 61, 32, 48, 41, 59]))) := by
  unfold scT sT
  rw [mK hA1, mK hB1]
  simp only [List.append_assoc, List.cons_append, List.nil_append]
 intro S hT
 rw [e]
 refine (exT11 hA hB (by omega) hT (cZ (by omega)) (cZ (by omega)) (dH (by omega)) (dH (by omega)) (dC _) (dC _) (eG _) (eG _) (dB (by omega)) (dB (by omega))).mono ?_
 rintro u H' _ ⟨Lo, h1, rfl, rfl⟩
 have e2 : ot ([.tru true, .tru true] : List It) ++ [10] = [116, 114, 117, 101, 32, 116, 114, 117, 101, 10] := by simp [ot, It.txt, wS, shB]
 have hne : ot ([.tru true, .tru true] : List It) ++ [10] ≠ [] := by simp
 rw [← e2]
 exact ⟨_, h1, S.nx + 1312, S.nx + 1484, zH ([.tru true, .tru true] : List It), (fun k => ([.int .i64 1, .int .i64 1, .int .i64 0, .slice none 0 0, .int .i64 1, .int .i64 0, .int .i64 0, .slice none 0 0, .slice none 0 0, .slice none 0 0, .slice none 0 0, .slice none 0 0, .int .i64 38, .int .i64 0, .map (some (2 * (S.nx + 1311) + 1)), .int .i64 0, .int .i64 0, .string ⟨#[]⟩, .slice none 0 0, .int .i64 0, .int .i64 0][k]?).getD (.slice none 0 0)), rfl, by rw [dO hne, iG hne]; rfl⟩
end Go.Proofs.YthgfcpgjabodoaaGreatDoor
