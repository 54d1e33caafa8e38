/-
  The ground of the walks: the machine over this program, facts on its types and functions. Laid by program.
-/
import Derived.Test.YthnplnlhibalcaaGreatDoorRows
import Derived.Test.YthnplnlhibalcaaGreatDoorAM28
import Derived.Test.YthnplnlhibalcaaGreatDoorAM29
set_option linter.unusedVariables false
set_option linter.unusedSimpArgs false
set_option maxRecDepth 100000
namespace Go.Proofs.YthnplnlhibalcaaGreatDoor
open Go Go.AM
theorem namesOk : (Tryz.prog.funcs.all fun F => !(F.name == "runtime.NumGoroutine")) = true := by kernel_rfl
theorem names (f : Nat) (F : Func) (h : Tryz.prog.funcs[f]? = some F) : (F.name == "runtime.NumGoroutine") = false := by
  have := namesOk
  rw [Array.all_eq_true] at this
  obtain ⟨hf, rfl⟩ := Array.getElem?_eq_some_iff.1 h
  simpa using this f hf
def eqTs : List Nat := [24, 60, 78, 94, 106, 169, 338]
theorem eqTsOk : (eqTs.all fun t => !(Tryz.prog.stoodInHeld t) && !(Tryz.prog.eqGuardType Tryz.prog.depth t)) = true := by kernel_rfl
def eqT (t : Nat) : Bool := eqTs.contains t
theorem eqT_ok (t : Nat) (h : eqT t = true) : Tryz.prog.stoodInHeld t = false ∧ Tryz.prog.eqGuardType Tryz.prog.depth t = false := by
  have := eqTsOk
  rw [List.all_eq_true] at this
  have := this t (by simpa [eqT] using h)
  simpa using this
noncomputable def E : Env Tryz.prog := Env.own Tryz.prog names eqT eqT_ok
theorem mixed : Tryz.prog.follows .mixedOrders = true := by kernel_rfl
theorem inf3 : E.inf 3 = some ⟨1, 8, some (.int .i64 0)⟩ := by kernel_rfl
theorem inf4 : E.inf 4 = some ⟨1, 1, some (.bool false)⟩ := by kernel_rfl
theorem inf5 : E.inf 5 = some ⟨1, 1, some (.int .u8 0)⟩ := by kernel_rfl
theorem inf9 : E.inf 9 = some ⟨1, 16, some (.string ⟨#[]⟩)⟩ := by kernel_rfl
theorem inf22 : E.inf 22 = some ⟨1, 24, some (.slice none 0 0)⟩ := by kernel_rfl
theorem inf24 : E.inf 24 = some ⟨3, 40, some (.agg #[.string ⟨#[]⟩, .int .i64 0, .string ⟨#[]⟩])⟩ := by kernel_rfl
theorem inf25 : E.inf 25 = some ⟨1, 8, some (.int .i64 0)⟩ := by kernel_rfl
theorem inf36 : E.inf 36 = some ⟨7, 80, some (.agg #[.int .i64 0, .string ⟨#[]⟩, .int .i64 0, .int .i64 0, .int .i64 0, .int .i64 0, .slice none 0 0])⟩ := by kernel_rfl
theorem inf66 : E.inf 66 = some ⟨1, 24, some (.slice none 0 0)⟩ := by kernel_rfl
def k24 : List Kd := [.str, .int .i64, .str]
def k36 : List Kd := [.int .i64, .str, .int .i64, .int .i64, .int .i64, .int .i64, .row 32 [.int .i64, .int .i64, .int .i64, .int .i64]]
theorem has3 : ∃ fn, E.fn 3 = some fn := ⟨_, fn_own Tryz.func3 rfl rfl rfl⟩
theorem has4 : ∃ fn, E.fn 4 = some fn := ⟨_, fn_own Tryz.func4 rfl rfl rfl⟩
theorem has5 : ∃ fn, E.fn 5 = some fn := ⟨_, fn_own Tryz.func5 rfl rfl rfl⟩
theorem has6 : ∃ fn, E.fn 6 = some fn := ⟨_, fn_own Tryz.func6 rfl rfl rfl⟩
theorem has7 : ∃ fn, E.fn 7 = some fn := ⟨_, fn_own Tryz.func7 rfl rfl rfl⟩
theorem has8 : ∃ fn, E.fn 8 = some fn := ⟨_, fn_own Tryz.func8 rfl rfl rfl⟩
theorem has9 : ∃ fn, E.fn 9 = some fn := ⟨_, fn_own Tryz.func9 rfl rfl rfl⟩
theorem has10 : ∃ fn, E.fn 10 = some fn := ⟨_, fn_own Tryz.func10 rfl rfl rfl⟩
theorem has11 : ∃ fn, E.fn 11 = some fn := ⟨_, fn_own Tryz.func11 rfl rfl rfl⟩
theorem has12 : ∃ fn, E.fn 12 = some fn := ⟨_, fn_own Tryz.func12 rfl rfl rfl⟩
theorem has13 : ∃ fn, E.fn 13 = some fn := ⟨_, fn_own Tryz.func13 rfl rfl rfl⟩
theorem has14 : ∃ fn, E.fn 14 = some fn := ⟨_, fn_own Tryz.func14 rfl rfl rfl⟩
theorem has15 : ∃ fn, E.fn 15 = some fn := ⟨_, fn_own Tryz.func15 rfl rfl rfl⟩
theorem has16 : ∃ fn, E.fn 16 = some fn := ⟨_, fn_own Tryz.func16 rfl rfl rfl⟩
theorem has17 : ∃ fn, E.fn 17 = some fn := ⟨_, fn_own Tryz.func17 rfl rfl rfl⟩
theorem has18 : ∃ fn, E.fn 18 = some fn := ⟨_, fn_own Tryz.func18 rfl rfl rfl⟩
theorem has19 : ∃ fn, E.fn 19 = some fn := ⟨_, fn_own Tryz.func19 rfl rfl rfl⟩
theorem has20 : ∃ fn, E.fn 20 = some fn := ⟨_, fn_own Tryz.func20 rfl rfl rfl⟩
theorem has21 : ∃ fn, E.fn 21 = some fn := ⟨_, fn_own Tryz.func21 rfl rfl rfl⟩
theorem has22 : ∃ fn, E.fn 22 = some fn := ⟨_, fn_own Tryz.func22 rfl rfl rfl⟩
theorem has23 : ∃ fn, E.fn 23 = some fn := ⟨_, fn_own Tryz.func23 rfl rfl rfl⟩
theorem has24 : ∃ fn, E.fn 24 = some fn := ⟨_, fn_own Tryz.func24 rfl rfl rfl⟩
theorem has25 : ∃ fn, E.fn 25 = some fn := ⟨_, fn_own Tryz.func25 rfl rfl rfl⟩
theorem has26 : ∃ fn, E.fn 26 = some fn := ⟨_, fn_own Tryz.func26 rfl rfl rfl⟩
theorem has27 : ∃ fn, E.fn 27 = some fn := ⟨_, fn_own Tryz.func27 rfl rfl rfl⟩
theorem has28 : ∃ fn, E.fn 28 = some fn := ⟨_, fn_own Tryz.func28 rfl rfl rfl⟩
theorem has29 : ∃ fn, E.fn 29 = some fn := ⟨_, fn_own Tryz.func29 rfl rfl rfl⟩
theorem has30 : ∃ fn, E.fn 30 = some fn := ⟨_, fn_own Tryz.func30 rfl rfl rfl⟩
theorem has31 : ∃ fn, E.fn 31 = some fn := ⟨_, fn_own Tryz.func31 rfl rfl rfl⟩
theorem has32 : ∃ fn, E.fn 32 = some fn := ⟨_, fn_own Tryz.func32 rfl rfl rfl⟩
theorem has33 : ∃ fn, E.fn 33 = some fn := ⟨_, fn_own Tryz.func33 rfl rfl rfl⟩
end Go.Proofs.YthnplnlhibalcaaGreatDoor
