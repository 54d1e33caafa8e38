/-
  The ground of the walks: the machine over this program, facts on its types and functions. Laid by program.
-/
import Derived.Test.YtljakaaebljiiaaGreatDoorRows
import Derived.Test.YtljakaaebljiiaaGreatDoorAM28
import Derived.Test.YtljakaaebljiiaaGreatDoorAM29
set_option linter.unusedVariables false
set_option linter.unusedSimpArgs false
set_option maxRecDepth 100000
namespace Go.Proofs.YtljakaaebljiiaaGreatDoor
open Go Go.AM
theorem in_chunk {α : Type} {l : List α} {f c : Nat} {x : α} (hc : 0 < c) (h : l[f]? = some x) : x ∈ (l.drop (f / c * c)).take c := by
  have hm : f % c < c := Nat.mod_lt _ hc
  have e : f / c * c + f % c = f := Nat.div_add_mod' f c
  have : ((l.drop (f / c * c)).take c)[f % c]? = some x := by
    rw [List.getElem?_take, if_pos hm, List.getElem?_drop, e]; exact h
  exact List.mem_of_getElem? this
def noName (F : Func) : Bool := !(F.name == "runtime.NumGoroutine")
theorem namesOk0 : ((Tryz.prog.funcs.toList.drop 0).take 150).all noName = true := by kernel_rfl
theorem namesOk1 : ((Tryz.prog.funcs.toList.drop 150).take 150).all noName = true := by kernel_rfl
theorem namesOk2 : ((Tryz.prog.funcs.toList.drop 300).take 150).all noName = true := by kernel_rfl
theorem namesOk3 : ((Tryz.prog.funcs.toList.drop 450).take 150).all noName = true := by kernel_rfl
theorem namesOk4 : ((Tryz.prog.funcs.toList.drop 600).take 150).all noName = true := by kernel_rfl
theorem funcsSize : Tryz.prog.funcs.size = 630 := by kernel_rfl
theorem names (f : Nat) (F : Func) (h : Tryz.prog.funcs[f]? = some F) : (F.name == "runtime.NumGoroutine") = false := by
  have hl : Tryz.prog.funcs.toList[f]? = some F := by rw [Array.getElem?_toList]; exact h
  have hf : f < 630 := by rw [← funcsSize]; exact (Array.getElem?_eq_some_iff.1 h).1
  have hm := in_chunk (c := 150) (by decide) hl
  have key : noName F = true := by
    have h8 : f / 150 < 5 := by omega
    generalize f / 150 = q at hm h8
    match q, h8, hm with
    | 0, _, hm => exact List.all_eq_true.1 namesOk0 F hm
    | 1, _, hm => exact List.all_eq_true.1 namesOk1 F hm
    | 2, _, hm => exact List.all_eq_true.1 namesOk2 F hm
    | 3, _, hm => exact List.all_eq_true.1 namesOk3 F hm
    | 4, _, hm => exact List.all_eq_true.1 namesOk4 F hm
    | k + 5, h8, _ => omega
  unfold noName at key
  simpa using key
def eqTs : List Nat := [35, 49, 90, 102, 249, 284]
theorem eqTsOk : (eqTs.all fun t => !(Tryz.prog.stoodInHeld t) && !(Tryz.prog.eqGuardType Tryz.prog.depth t)) = true := by kernel_rfl
def eqT (t : Nat) : Bool := eqTs.contains t
theorem eqT_ok (t : Nat) (h : eqT t = true) : Tryz.prog.stoodInHeld t = false ∧ Tryz.prog.eqGuardType Tryz.prog.depth t = false := by
  have := eqTsOk
  rw [List.all_eq_true] at this
  have := this t (by simpa [eqT] using h)
  simpa using this
noncomputable def E : Env Tryz.prog := Env.own Tryz.prog names eqT eqT_ok
theorem mixed : Tryz.prog.follows .mixedOrders = true := by kernel_rfl
theorem inf3 : E.inf 3 = some ⟨1, 8, some (.int .i64 0)⟩ := by kernel_rfl
theorem inf4 : E.inf 4 = some ⟨1, 1, some (.bool false)⟩ := by kernel_rfl
theorem inf5 : E.inf 5 = some ⟨1, 1, some (.int .u8 0)⟩ := by kernel_rfl
theorem inf9 : E.inf 9 = some ⟨1, 16, some (.string ⟨#[]⟩)⟩ := by kernel_rfl
theorem inf24 : E.inf 24 = some ⟨1, 8, some (.nilFunc)⟩ := by kernel_rfl
theorem inf25 : E.inf 25 = some ⟨1, 24, some (.slice none 0 0)⟩ := by kernel_rfl
theorem inf27 : E.inf 27 = some ⟨3, 40, some (.agg #[.int .i64 0, .int .i64 0, .slice none 0 0])⟩ := by kernel_rfl
theorem inf35 : E.inf 35 = some ⟨4, 32, some (.agg #[.int .i64 0, .int .i64 0, .int .i64 0, .int .i64 0])⟩ := by kernel_rfl
theorem inf59 : E.inf 59 = some ⟨1, 24, some (.slice none 0 0)⟩ := by kernel_rfl
def k25 : List Kd := [.row 32 [.int .i64, .int .i64, .int .i64, .int .i64]]
def k27 : List Kd := [.int .i64, .int .i64, .row 32 [.int .i64, .int .i64, .int .i64, .int .i64]]
def k35 : List Kd := [.int .i64, .int .i64, .int .i64, .int .i64]
theorem has3 : ∃ fn, E.fn 3 = some fn := ⟨_, fn_own Tryz.func3 rfl rfl rfl⟩
theorem has4 : ∃ fn, E.fn 4 = some fn := ⟨_, fn_own Tryz.func4 rfl rfl rfl⟩
theorem has5 : ∃ fn, E.fn 5 = some fn := ⟨_, fn_own Tryz.func5 rfl rfl rfl⟩
theorem has6 : ∃ fn, E.fn 6 = some fn := ⟨_, fn_own Tryz.func6 rfl rfl rfl⟩
theorem has7 : ∃ fn, E.fn 7 = some fn := ⟨_, fn_own Tryz.func7 rfl rfl rfl⟩
theorem has8 : ∃ fn, E.fn 8 = some fn := ⟨_, fn_own Tryz.func8 rfl rfl rfl⟩
theorem has9 : ∃ fn, E.fn 9 = some fn := ⟨_, fn_own Tryz.func9 rfl rfl rfl⟩
theorem has10 : ∃ fn, E.fn 10 = some fn := ⟨_, fn_own Tryz.func10 rfl rfl rfl⟩
theorem has11 : ∃ fn, E.fn 11 = some fn := ⟨_, fn_own Tryz.func11 rfl rfl rfl⟩
theorem has12 : ∃ fn, E.fn 12 = some fn := ⟨_, fn_own Tryz.func12 rfl rfl rfl⟩
theorem has13 : ∃ fn, E.fn 13 = some fn := ⟨_, fn_own Tryz.func13 rfl rfl rfl⟩
theorem has14 : ∃ fn, E.fn 14 = some fn := ⟨_, fn_own Tryz.func14 rfl rfl rfl⟩
theorem has15 : ∃ fn, E.fn 15 = some fn := ⟨_, fn_own Tryz.func15 rfl rfl rfl⟩
theorem has16 : ∃ fn, E.fn 16 = some fn := ⟨_, fn_own Tryz.func16 rfl rfl rfl⟩
theorem has17 : ∃ fn, E.fn 17 = some fn := ⟨_, fn_own Tryz.func17 rfl rfl rfl⟩
theorem has18 : ∃ fn, E.fn 18 = some fn := ⟨_, fn_own Tryz.func18 rfl rfl rfl⟩
theorem has19 : ∃ fn, E.fn 19 = some fn := ⟨_, fn_own Tryz.func19 rfl rfl rfl⟩
theorem has20 : ∃ fn, E.fn 20 = some fn := ⟨_, fn_own Tryz.func20 rfl rfl rfl⟩
theorem has21 : ∃ fn, E.fn 21 = some fn := ⟨_, fn_own Tryz.func21 rfl rfl rfl⟩
theorem has22 : ∃ fn, E.fn 22 = some fn := ⟨_, fn_own Tryz.func22 rfl rfl rfl⟩
theorem has23 : ∃ fn, E.fn 23 = some fn := ⟨_, fn_own Tryz.func23 rfl rfl rfl⟩
theorem has24 : ∃ fn, E.fn 24 = some fn := ⟨_, fn_own Tryz.func24 rfl rfl rfl⟩
theorem has25 : ∃ fn, E.fn 25 = some fn := ⟨_, fn_own Tryz.func25 rfl rfl rfl⟩
theorem has26 : ∃ fn, E.fn 26 = some fn := ⟨_, fn_own Tryz.func26 rfl rfl rfl⟩
theorem has27 : ∃ fn, E.fn 27 = some fn := ⟨_, fn_own Tryz.func27 rfl rfl rfl⟩
theorem has28 : ∃ fn, E.fn 28 = some fn := ⟨_, fn_own Tryz.func28 rfl rfl rfl⟩
theorem has29 : ∃ fn, E.fn 29 = some fn := ⟨_, fn_own Tryz.func29 rfl rfl rfl⟩
theorem has30 : ∃ fn, E.fn 30 = some fn := ⟨_, fn_own Tryz.func30 rfl rfl rfl⟩
theorem has31 : ∃ fn, E.fn 31 = some fn := ⟨_, fn_own Tryz.func31 rfl rfl rfl⟩
theorem has32 : ∃ fn, E.fn 32 = some fn := ⟨_, fn_own Tryz.func32 rfl rfl rfl⟩
theorem has33 : ∃ fn, E.fn 33 = some fn := ⟨_, fn_own Tryz.func33 rfl rfl rfl⟩
theorem has34 : ∃ fn, E.fn 34 = some fn := ⟨_, fn_own Tryz.func34 rfl rfl rfl⟩
theorem has35 : ∃ fn, E.fn 35 = some fn := ⟨_, fn_own Tryz.func35 rfl rfl rfl⟩
theorem has36 : ∃ fn, E.fn 36 = some fn := ⟨_, fn_own Tryz.func36 rfl rfl rfl⟩
theorem has37 : ∃ fn, E.fn 37 = some fn := ⟨_, fn_own Tryz.func37 rfl rfl rfl⟩
theorem has38 : ∃ fn, E.fn 38 = some fn := ⟨_, fn_own Tryz.func38 rfl rfl rfl⟩
theorem has39 : ∃ fn, E.fn 39 = some fn := ⟨_, fn_own Tryz.func39 rfl rfl rfl⟩
theorem has40 : ∃ fn, E.fn 40 = some fn := ⟨_, fn_own Tryz.func40 rfl rfl rfl⟩
theorem has41 : ∃ fn, E.fn 41 = some fn := ⟨_, fn_own Tryz.func41 rfl rfl rfl⟩
theorem has42 : ∃ fn, E.fn 42 = some fn := ⟨_, fn_own Tryz.func42 rfl rfl rfl⟩
theorem has43 : ∃ fn, E.fn 43 = some fn := ⟨_, fn_own Tryz.func43 rfl rfl rfl⟩
theorem has44 : ∃ fn, E.fn 44 = some fn := ⟨_, fn_own Tryz.func44 rfl rfl rfl⟩
theorem has45 : ∃ fn, E.fn 45 = some fn := ⟨_, fn_own Tryz.func45 rfl rfl rfl⟩
theorem has46 : ∃ fn, E.fn 46 = some fn := ⟨_, fn_own Tryz.func46 rfl rfl rfl⟩
theorem has47 : ∃ fn, E.fn 47 = some fn := ⟨_, fn_own Tryz.func47 rfl rfl rfl⟩
end Go.Proofs.YtljakaaebljiiaaGreatDoor
