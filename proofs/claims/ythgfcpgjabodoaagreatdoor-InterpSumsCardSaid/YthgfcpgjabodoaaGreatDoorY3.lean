/-
  InterpSums returns true.
-/
import Derived.Test.YthgfcpgjabodoaaGreatDoorY2
set_option linter.unusedVariables false
set_option linter.unusedSimpArgs false
set_option maxRecDepth 100000
namespace Go.Proofs.YthgfcpgjabodoaaGreatDoor
open Go Go.AM

theorem leftS {a b : Int} (ha0 : -2147483648 ≤ a) (ha1 : a ≤ 2147483648) (hb0 : -2147483648 ≤ b) (hb1 : b ≤ 2147483648) : mV ⟨⟨scS a b⟩⟩ (wS a b) 0 0 := by
 rcases Int.lt_or_le a 0 with h | h <;> rcases Int.lt_or_le b 0 with k | k
 ·obtain ⟨A, rfl⟩ : ∃ A : Nat, a = -((A : Nat) : Int) := ⟨a.natAbs, by omega⟩
  obtain ⟨B, rfl⟩ : ∃ B : Nat, b = -((B : Nat) : Int) := ⟨b.natAbs, by omega⟩
  exact aOb (by omega) (by omega) (by omega) (by omega)
 ·obtain ⟨A, rfl⟩ : ∃ A : Nat, a = -((A : Nat) : Int) := ⟨a.natAbs, by omega⟩
  obtain ⟨B, rfl⟩ : ∃ B : Nat, b = ((B : Nat) : Int) := ⟨b.toNat, by omega⟩
  exact aPa (by omega) (by omega) (by omega)
 ·obtain ⟨A, rfl⟩ : ∃ A : Nat, a = ((A : Nat) : Int) := ⟨a.toNat, by omega⟩
  obtain ⟨B, rfl⟩ : ∃ B : Nat, b = -((B : Nat) : Int) := ⟨b.natAbs, by omega⟩
  exact aPl (by omega) (by omega) (by omega)
 ·obtain ⟨A, rfl⟩ : ∃ A : Nat, a = ((A : Nat) : Int) := ⟨a.toNat, by omega⟩
  obtain ⟨B, rfl⟩ : ∃ B : Nat, b = ((B : Nat) : Int) := ⟨b.toNat, by omega⟩
  exact aNv (by omega) (by omega)
theorem leftT {a b : Int} (ha0 : -2147483648 ≤ a) (ha1 : a ≤ 2147483648) (hb0 : -2147483648 ≤ b) (hb1 : b ≤ 2147483648) : (b = 0 ∧ ∃ at0, mV ⟨⟨scT a b⟩⟩ [] at0 1) ∨ (b ≠ 0 ∧ mV ⟨⟨scT a b⟩⟩ [116, 114, 117, 101, 32, 116, 114, 117, 101, 10] 0 0) := by
 rcases Int.lt_trichotomy b 0 with k | k | k
 ·refine .inr ⟨by omega, ?_⟩
  obtain ⟨B, rfl⟩ : ∃ B : Nat, b = -((B : Nat) : Int) := ⟨b.natAbs, by omega⟩
  rcases Int.lt_or_le a 0 with h | h
  ·obtain ⟨A, rfl⟩ : ∃ A : Nat, a = -((A : Nat) : Int) := ⟨a.natAbs, by omega⟩
   exact aNu (by omega) (by omega) (by omega) (by omega)
  ·obtain ⟨A, rfl⟩ : ∃ A : Nat, a = ((A : Nat) : Int) := ⟨a.toNat, by omega⟩
   exact aNq (by omega) (by omega) (by omega)
 ·refine .inl ⟨k, ?_⟩
  obtain ⟨B, rfl⟩ : ∃ B : Nat, b = ((B : Nat) : Int) := ⟨b.toNat, by omega⟩
  rcases Int.lt_or_le a 0 with h | h
  ·obtain ⟨A, rfl⟩ : ∃ A : Nat, a = -((A : Nat) : Int) := ⟨a.natAbs, by omega⟩
   exact ⟨_, aLl (by omega) (by omega) (by omega) (by omega)⟩
  ·obtain ⟨A, rfl⟩ : ∃ A : Nat, a = ((A : Nat) : Int) := ⟨a.toNat, by omega⟩
   exact ⟨_, aNk (by omega) (by omega) (by omega)⟩
 ·refine .inr ⟨by omega, ?_⟩
  obtain ⟨B, rfl⟩ : ∃ B : Nat, b = ((B : Nat) : Int) := ⟨b.toNat, by omega⟩
  rcases Int.lt_or_le a 0 with h | h
  ·obtain ⟨A, rfl⟩ : ∃ A : Nat, a = -((A : Nat) : Int) := ⟨a.natAbs, by omega⟩
   exact aKc (by omega) (by omega) (by omega) (by omega)
  ·obtain ⟨A, rfl⟩ : ∃ A : Nat, a = ((A : Nat) : Int) := ⟨a.toNat, by omega⟩
   exact aIa (by omega) (by omega) (by omega)
/-- the law InterpSums returns true -/
theorem xB {S : AH} {a b : Int} (hT : Tab S) : XCall Tryz.prog 4 [.int .i64 a, .int .i64 b] S fun v H' => v = .bool true ∧ Kept S.nx S H' := by
 rcases (show (a < -2147483648 ∨ 2147483648 < a ∨ b < -2147483648 ∨ 2147483648 < b) ∨ (-2147483648 ≤ a ∧ a ≤ 2147483648 ∧ -2147483648 ≤ b ∧ b ≤ 2147483648) by omega) with h | ⟨h1, h2, h3, h4⟩
 ·exact aNg hT h
 ·exact aNp hT h1 h2 h3 h4 (leftS h1 h2 h3 h4) (leftT h1 h2 h3 h4)
end Go.Proofs.YthgfcpgjabodoaaGreatDoor
