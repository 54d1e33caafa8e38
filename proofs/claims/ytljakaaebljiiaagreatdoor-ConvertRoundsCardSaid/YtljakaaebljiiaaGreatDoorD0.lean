/-
  Walks, laid by program.
-/
import Derived.Test.YtljakaaebljiiaaGreatDoorB3
import Derived.Test.YtljakaaebljiiaaGreatDoorAM31
set_option linter.unusedVariables false
set_option linter.unusedSimpArgs false
set_option maxRecDepth 100000
namespace Go.Proofs.YtljakaaebljiiaaGreatDoor
open Go Go.AM

def saidTrue : Option (Value × AH) → Bool
  | some (.bool true, _) => true
  | _ => false
theorem of_saidTrue {o : Option (Value × AH)} (h : saidTrue o = true) : ∃ H', o = some (.bool true, H') := by
  unfold saidTrue at h
  split at h
  · exact ⟨_, rfl⟩
  · cases h
/-- the matrix of the profile of files, and its inverse -/
def matL : List Value := [.int .i64 27031, .int .i64 23434, .int .i64 11825, .int .i64 13938, .int .i64 46868, .int .i64 4730, .int .i64 1267, .int .i64 7811, .int .i64 62279]
def invL : List Value := [.int .i64 212365, .int .i64 (-100738), .int .i64 (-32671), .int .i64 (-63523), .int .i64 122947, .int .i64 2724, .int .i64 3647, .int .i64 (-13371), .int .i64 69286]
def saidInv : Option (Value × AH) → Bool
  | some (.tuple ⟨[.agg ⟨l⟩, .int .i64 z]⟩, _) => veqL l invL && decide (z = 0)
  | _ => false
theorem of_saidInv {o : Option (Value × AH)} (h : saidInv o = true) : ∃ H', o = some (.tuple ⟨[.agg ⟨invL⟩, .int .i64 0]⟩, H') := by
  unfold saidInv at h
  split at h
  · rename_i l z K
    simp only [Bool.and_eq_true] at h
    obtain ⟨h1, h2⟩ := h
    have h2 : z = 0 := by simpa using h2
    rw [veqL_eq h1, h2]
    exact ⟨_, rfl⟩
  · cases h
theorem inv_run (w : World) : saidInv (acallT E (fun _ _ => none) 60 267 [.agg ⟨matL⟩] (Go.AM.start w)) = true := by kernel_rfl
theorem inv_flat (w : World) : Flat Tryz.prog 267 [.agg ⟨matL⟩] w (.tuple ⟨[.agg ⟨invL⟩, .int .i64 0]⟩) :=
  Flat.closedT E tabNone mixed (by kernel_rfl) 60 (fun w => of_saidInv (inv_run w)) w
/-- the calls whose outcomes are known -/
def tb (g : FuncId) (args : List Value) : Option Value :=
  bif Nat.beq g 7 then (match args with
    | [.string q] => some (.int .i64 (detV q.data.toList))
    | _ => none)
  else bif Nat.beq g 267 then (match args with
    | [.agg ⟨l⟩] => bif veqL l matL then some (.tuple ⟨[.agg ⟨invL⟩, .int .i64 0]⟩) else none
    | _ => none)
  else none
theorem tb_ok : TabOk Tryz.prog tb := by
  intro g args r h
  unfold tb at h
  cases h7 : Nat.beq g 7 with
  | true =>
    rw [h7, cond_true] at h
    have := Nat.eq_of_beq_eq_true h7; subst this
    split at h
    · rename_i q
      cases h
      exact ⟨rfl, rfl, fun w => (detect_ok (S := Go.AM.start w) q).calls.mono fun v H' hv => hv.1⟩
    · cases h
  | false =>
    rw [h7, cond_false] at h
    cases h2 : Nat.beq g 267 with
    | true =>
      rw [h2, cond_true] at h
      have := Nat.eq_of_beq_eq_true h2; subst this
      split at h
      · rename_i l
        cases hl : veqL l matL with
        | true =>
          rw [hl, cond_true] at h
          cases h
          rw [veqL_eq hl]
          exact ⟨rfl, rfl, inv_flat⟩
        | false => rw [hl] at h; cases h
      · cases h
    | false => rw [h2] at h; cases h
end Go.Proofs.YtljakaaebljiiaaGreatDoor
