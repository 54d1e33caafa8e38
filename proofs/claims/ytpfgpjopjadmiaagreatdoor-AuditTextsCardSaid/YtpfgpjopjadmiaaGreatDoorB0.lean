/-
  The ground of the walks: the machine over this program, facts on its types and functions. Laid by program.
-/
import Derived.Test.YtpfgpjopjadmiaaGreatDoorProg
import Derived.Test.YtpfgpjopjadmiaaGreatDoorAM28
import Derived.Test.YtpfgpjopjadmiaaGreatDoorAM29
set_option linter.unusedVariables false
set_option linter.unusedSimpArgs false
set_option maxRecDepth 100000
namespace Go.Proofs.YtpfgpjopjadmiaaGreatDoor
open Go Go.AM
theorem in_chunk {α : Type} {l : List α} {f c : Nat} {x : α} (hc : 0 < c) (h : l[f]? = some x) : x ∈ (l.drop (f / c * c)).take c := by
  have hm : f % c < c := Nat.mod_lt _ hc
  have e : f / c * c + f % c = f := Nat.div_add_mod' f c
  have : ((l.drop (f / c * c)).take c)[f % c]? = some x := by
    rw [List.getElem?_take, if_pos hm, List.getElem?_drop, e]; exact h
  exact List.mem_of_getElem? this
def noName (F : Func) : Bool := !(F.name == "runtime.NumGoroutine")
theorem namesOk0 : ((Tryz.prog.funcs.toList.drop 0).take 150).all noName = true := by kernel_rfl
theorem namesOk1 : ((Tryz.prog.funcs.toList.drop 150).take 150).all noName = true := by kernel_rfl
theorem namesOk2 : ((Tryz.prog.funcs.toList.drop 300).take 150).all noName = true := by kernel_rfl
theorem namesOk3 : ((Tryz.prog.funcs.toList.drop 450).take 150).all noName = true := by kernel_rfl
theorem namesOk4 : ((Tryz.prog.funcs.toList.drop 600).take 150).all noName = true := by kernel_rfl
theorem namesOk5 : ((Tryz.prog.funcs.toList.drop 750).take 150).all noName = true := by kernel_rfl
theorem namesOk6 : ((Tryz.prog.funcs.toList.drop 900).take 150).all noName = true := by kernel_rfl
theorem namesOk7 : ((Tryz.prog.funcs.toList.drop 1050).take 150).all noName = true := by kernel_rfl
theorem funcsSize : Tryz.prog.funcs.size = 1060 := by kernel_rfl
theorem names (f : Nat) (F : Func) (h : Tryz.prog.funcs[f]? = some F) : (F.name == "runtime.NumGoroutine") = false := by
  have hl : Tryz.prog.funcs.toList[f]? = some F := by rw [Array.getElem?_toList]; exact h
  have hf : f < 1060 := by rw [← funcsSize]; exact (Array.getElem?_eq_some_iff.1 h).1
  have hm := in_chunk (c := 150) (by decide) hl
  have key : noName F = true := by
    have h8 : f / 150 < 8 := by omega
    generalize f / 150 = q at hm h8
    match q, h8, hm with
    | 0, _, hm => exact List.all_eq_true.1 namesOk0 F hm
    | 1, _, hm => exact List.all_eq_true.1 namesOk1 F hm
    | 2, _, hm => exact List.all_eq_true.1 namesOk2 F hm
    | 3, _, hm => exact List.all_eq_true.1 namesOk3 F hm
    | 4, _, hm => exact List.all_eq_true.1 namesOk4 F hm
    | 5, _, hm => exact List.all_eq_true.1 namesOk5 F hm
    | 6, _, hm => exact List.all_eq_true.1 namesOk6 F hm
    | 7, _, hm => exact List.all_eq_true.1 namesOk7 F hm
    | k + 8, h8, _ => omega
  unfold noName at key
  simpa using key
def eqTs : List Nat := [23, 62, 67, 80, 111, 290, 292, 294, 356, 454, 643, 646, 1008]
theorem eqTsOk : (eqTs.all fun t => !(Tryz.prog.stoodInHeld t) && !(Tryz.prog.eqGuardType Tryz.prog.depth t)) = true := by kernel_rfl
def eqT (t : Nat) : Bool := eqTs.contains t
theorem eqT_ok (t : Nat) (h : eqT t = true) : Tryz.prog.stoodInHeld t = false ∧ Tryz.prog.eqGuardType Tryz.prog.depth t = false := by
  have := eqTsOk
  rw [List.all_eq_true] at this
  have := this t (by simpa [eqT] using h)
  simpa using this
noncomputable def E : Env Tryz.prog := Env.own Tryz.prog names eqT eqT_ok
theorem mixed : Tryz.prog.follows .mixedOrders = true := by kernel_rfl
theorem inf3 : E.inf 3 = some ⟨1, 8, some (.int .i64 0)⟩ := by kernel_rfl
theorem inf4 : E.inf 4 = some ⟨1, 1, some (.bool false)⟩ := by kernel_rfl
theorem inf9 : E.inf 9 = some ⟨1, 16, some (.string ⟨#[]⟩)⟩ := by kernel_rfl
theorem inf23 : E.inf 23 = some ⟨3, 24, some (.agg #[.int .i64 0, .int .i64 0, .int .i64 0])⟩ := by kernel_rfl
theorem inf28 : E.inf 28 = some ⟨1, 24, some (.slice none 0 0)⟩ := by kernel_rfl
def k23 : List Kd := [.int .i64, .int .i64, .int .i64]
theorem has3 : ∃ fn, E.fn 3 = some fn := ⟨_, fn_own Tryz.func3 rfl rfl rfl⟩
theorem has4 : ∃ fn, E.fn 4 = some fn := ⟨_, fn_own Tryz.func4 rfl rfl rfl⟩
theorem has5 : ∃ fn, E.fn 5 = some fn := ⟨_, fn_own Tryz.func5 rfl rfl rfl⟩
theorem has6 : ∃ fn, E.fn 6 = some fn := ⟨_, fn_own Tryz.func6 rfl rfl rfl⟩
theorem has7 : ∃ fn, E.fn 7 = some fn := ⟨_, fn_own Tryz.func7 rfl rfl rfl⟩
end Go.Proofs.YtpfgpjopjadmiaaGreatDoor
