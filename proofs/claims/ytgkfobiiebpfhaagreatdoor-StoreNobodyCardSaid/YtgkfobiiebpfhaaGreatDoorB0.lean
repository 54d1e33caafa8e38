/-
  The ground of the walks: the machine over this program, facts on its types and functions. Laid by program.
-/
import Derived.Test.YtgkfobiiebpfhaaGreatDoorProg
import Derived.Test.YtgkfobiiebpfhaaGreatDoorAM29
import Derived.Test.YtgkfobiiebpfhaaGreatDoorAM31
import Derived.Test.YtgkfobiiebpfhaaGreatDoorAM32
import Derived.Test.YtgkfobiiebpfhaaGreatDoorAM35
import Derived.Test.YtgkfobiiebpfhaaGreatDoorAM37
set_option linter.unusedVariables false
set_option linter.unusedSimpArgs false
set_option maxRecDepth 100000
namespace Go.Proofs.YtgkfobiiebpfhaaGreatDoor
open Go Go.AM
theorem in_chunk {α : Type} {l : List α} {f c : Nat} {x : α} (hc : 0 < c) (h : l[f]? = some x) : x ∈ (l.drop (f / c * c)).take c := by
  have hm : f % c < c := Nat.mod_lt _ hc
  have e : f / c * c + f % c = f := Nat.div_add_mod' f c
  have : ((l.drop (f / c * c)).take c)[f % c]? = some x := by
    rw [List.getElem?_take, if_pos hm, List.getElem?_drop, e]; exact h
  exact List.mem_of_getElem? this
def noName (F : Func) : Bool := !(F.name == "runtime.NumGoroutine")
theorem namesOk0 : ((Tryz.prog.funcs.toList.drop 0).take 150).all noName = true := by kernel_rfl
theorem namesOk1 : ((Tryz.prog.funcs.toList.drop 150).take 150).all noName = true := by kernel_rfl
theorem namesOk2 : ((Tryz.prog.funcs.toList.drop 300).take 150).all noName = true := by kernel_rfl
theorem namesOk3 : ((Tryz.prog.funcs.toList.drop 450).take 150).all noName = true := by kernel_rfl
theorem namesOk4 : ((Tryz.prog.funcs.toList.drop 600).take 150).all noName = true := by kernel_rfl
theorem funcsSize : Tryz.prog.funcs.size = 608 := by kernel_rfl
theorem names (f : Nat) (F : Func) (h : Tryz.prog.funcs[f]? = some F) : (F.name == "runtime.NumGoroutine") = false := by
  have hl : Tryz.prog.funcs.toList[f]? = some F := by rw [Array.getElem?_toList]; exact h
  have hf : f < 608 := by rw [← funcsSize]; exact (Array.getElem?_eq_some_iff.1 h).1
  have hm := in_chunk (c := 150) (by decide) hl
  have key : noName F = true := by
    have h8 : f / 150 < 5 := by omega
    generalize f / 150 = q at hm h8
    match q, h8, hm with
    | 0, _, hm => exact List.all_eq_true.1 namesOk0 F hm
    | 1, _, hm => exact List.all_eq_true.1 namesOk1 F hm
    | 2, _, hm => exact List.all_eq_true.1 namesOk2 F hm
    | 3, _, hm => exact List.all_eq_true.1 namesOk3 F hm
    | 4, _, hm => exact List.all_eq_true.1 namesOk4 F hm
    | k + 5, h8, _ => omega
  unfold noName at key
  simpa using key
def eqTs : List Nat := [26, 31, 44, 54, 93, 184, 186, 188, 209, 254, 457]
theorem eqTsOk : (eqTs.all fun t => !(Tryz.prog.stoodInHeld t) && !(Tryz.prog.eqGuardType Tryz.prog.depth t)) = true := by kernel_rfl
def eqT (t : Nat) : Bool := eqTs.contains t
theorem eqT_ok (t : Nat) (h : eqT t = true) : Tryz.prog.stoodInHeld t = false ∧ Tryz.prog.eqGuardType Tryz.prog.depth t = false := by
  have := eqTsOk
  rw [List.all_eq_true] at this
  have := this t (by simpa [eqT] using h)
  simpa using this
noncomputable def E : Env Tryz.prog := Env.own Tryz.prog names eqT eqT_ok
theorem mixed : Tryz.prog.follows .mixedOrders = true := by kernel_rfl
theorem inf202 : E.inf 202 = some ⟨1, 4, some (.int .u32 0)⟩ := by kernel_rfl
theorem inf268 : E.inf 268 = some ⟨256, 1024, some (.agg #[.int .u32 0, .int .u32 0, .int .u32 0, .int .u32 0, .int .u32 0, .int .u32 0, .int .u32 0, .int .u32 0, .int .u32 0, .int .u32 0, .int .u32 0, .int .u32 0, .int .u32 0, .int .u32 0, .int .u32 0, .int .u32 0, .int .u32 0, .int .u32 0, .int .u32 0, .int .u32 0, .int .u32 0, .int .u32 0, .int .u32 0, .int .u32 0, .int .u32 0, .int .u32 0, .int .u32 0, .int .u32 0, .int .u32 0, .int .u32 0, .int .u32 0, .int .u32 0, .int .u32 0, .int .u32 0, .int .u32 0, .int .u32 0, .int .u32 0, .int .u32 0, .int .u32 0, .int .u32 0, .int .u32 0, .int .u32 0, .int .u32 0, .int .u32 0, .int .u32 0, .int .u32 0, .int .u32 0, .int .u32 0, .int .u32 0, .int .u32 0, .int .u32 0, .int .u32 0, .int .u32 0, .int .u32 0, .int .u32 0, .int .u32 0, .int .u32 0, .int .u32 0, .int .u32 0, .int .u32 0, .int .u32 0, .int .u32 0, .int .u32 0, .int .u32 0, .int .u32 0, .int .u32 0, .int .u32 0, .int .u32 0, .int .u32 0, .int .u32 0, .int .u32 0, .int .u32 0, .int .u32 0, .int .u32 0, .int .u32 0, .int .u32 0, .int .u32 0, .int .u32 0, .int .u32 0, .int .u32 0, .int .u32 0, .int .u32 0, .int .u32 0, .int .u32 0, .int .u32 0, .int .u32 0, .int .u32 0, .int .u32 0, .int .u32 0, .int .u32 0, .int .u32 0, .int .u32 0, .int .u32 0, .int .u32 0, .int .u32 0, .int .u32 0, .int .u32 0, .int .u32 0, .int .u32 0, .int .u32 0, .int .u32 0, .int .u32 0, .int .u32 0, .int .u32 0, .int .u32 0, .int .u32 0, .int .u32 0, .int .u32 0, .int .u32 0, .int .u32 0, .int .u32 0, .int .u32 0, .int .u32 0, .int .u32 0, .int .u32 0, .int .u32 0, .int .u32 0, .int .u32 0, .int .u32 0, .int .u32 0, .int .u32 0, .int .u32 0, .int .u32 0, .int .u32 0, .int .u32 0, .int .u32 0, .int .u32 0, .int .u32 0, .int .u32 0, .int .u32 0, .int .u32 0, .int .u32 0, .int .u32 0, .int .u32 0, .int .u32 0, .int .u32 0, .int .u32 0, .int .u32 0, .int .u32 0, .int .u32 0, .int .u32 0, .int .u32 0, .int .u32 0, .int .u32 0, .int .u32 0, .int .u32 0, .int .u32 0, .int .u32 0, .int .u32 0, .int .u32 0, .int .u32 0, .int .u32 0, .int .u32 0, .int .u32 0, .int .u32 0, .int .u32 0, .int .u32 0, .int .u32 0, .int .u32 0, .int .u32 0, .int .u32 0, .int .u32 0, .int .u32 0, .int .u32 0, .int .u32 0, .int .u32 0, .int .u32 0, .int .u32 0, .int .u32 0, .int .u32 0, .int .u32 0, .int .u32 0, .int .u32 0, .int .u32 0, .int .u32 0, .int .u32 0, .int .u32 0, .int .u32 0, .int .u32 0, .int .u32 0, .int .u32 0, .int .u32 0, .int .u32 0, .int .u32 0, .int .u32 0, .int .u32 0, .int .u32 0, .int .u32 0, .int .u32 0, .int .u32 0, .int .u32 0, .int .u32 0, .int .u32 0, .int .u32 0, .int .u32 0, .int .u32 0, .int .u32 0, .int .u32 0, .int .u32 0, .int .u32 0, .int .u32 0, .int .u32 0, .int .u32 0, .int .u32 0, .int .u32 0, .int .u32 0, .int .u32 0, .int .u32 0, .int .u32 0, .int .u32 0, .int .u32 0, .int .u32 0, .int .u32 0, .int .u32 0, .int .u32 0, .int .u32 0, .int .u32 0, .int .u32 0, .int .u32 0, .int .u32 0, .int .u32 0, .int .u32 0, .int .u32 0, .int .u32 0, .int .u32 0, .int .u32 0, .int .u32 0, .int .u32 0, .int .u32 0, .int .u32 0, .int .u32 0, .int .u32 0, .int .u32 0, .int .u32 0, .int .u32 0, .int .u32 0, .int .u32 0, .int .u32 0, .int .u32 0, .int .u32 0, .int .u32 0, .int .u32 0, .int .u32 0, .int .u32 0, .int .u32 0, .int .u32 0, .int .u32 0, .int .u32 0, .int .u32 0, .int .u32 0, .int .u32 0, .int .u32 0, .int .u32 0, .int .u32 0, .int .u32 0, .int .u32 0])⟩ := by kernel_rfl
def k50 : List Kd := .int .i64 :: .int .i64 :: .int .i64 :: .int .i64 :: .int .i64 :: .int .i64 :: .int .i64 :: .int .i64 :: .str :: .str :: .int .i64 :: .int .i64 :: .int .i64 :: .str :: .bool :: .bool :: .bool :: .int .i64 :: .int .i64 :: .int .i64 :: .int .i64 :: .row 8 [.int .i64] :: .int .i64 :: .int .i64 :: .int .i64 :: .int .i64 :: .int .i64 :: .int .i64 :: .int .i64 :: .int .i64 :: .int .i64 :: .row 32 [.int .i64, .int .i64, .int .i64, .int .i64] :: .int .i64 :: .int .i64 :: .int .i64 :: .int .i64 :: .int .i64 :: .row 8 [.int .i64] :: .int .i64 :: .row 40 [.int .i64, .int .i64, .int .i64, .int .i64, .int .i64] :: .row 56 [.int .i64, .int .i64, .int .i64, .int .i64, .int .i64, .int .i64, .int .i64] :: .int .i64 :: .int .i64 :: .int .i64 :: .int .i64 :: .str :: .int .i64 :: .int .i64 :: .int .i64 :: .int .i64 :: .int .i64 :: .int .i64 :: .row 16 [.int .i64, .int .i64] :: .int .i64 :: .int .i64 :: .row 8 [.int .i64] :: .int .i64 :: .int .i64 :: .row 32 [.int .i64, .int .i64, .int .i64, .int .i64] :: .int .i64 :: .int .i64 :: .int .i64 :: .int .i64 :: .int .i64 :: .int .i64 :: .int .i64 :: .int .i64 :: .int .i64 :: .int .i64 :: .int .i64 :: .int .i64 :: .int .i64 :: .int .i64 :: .row 40 [.int .i64, .int .i64, .row 16 [.int .i64, .int .i64]] :: .bool :: .row 40 [.int .i64, .int .i64, .int .i64, .int .i64, .int .i64] :: .int .i64 :: .int .i64 :: .int .i64 :: .int .i64 :: .int .i64 :: .int .i64 :: .int .i64 :: .int .i64 :: .int .i64 :: .int .i64 :: []
theorem has3 : ∃ fn, E.fn 3 = some fn := ⟨_, fn_own Tryz.func3 rfl rfl rfl⟩
theorem has14 : ∃ fn, E.fn 14 = some fn := ⟨_, fn_own Tryz.func14 rfl rfl rfl⟩
theorem has16 : ∃ fn, E.fn 16 = some fn := ⟨_, fn_own Tryz.func16 rfl rfl rfl⟩
theorem has123 : ∃ fn, E.fn 123 = some fn := ⟨_, fn_own Tryz.func123 rfl rfl rfl⟩
theorem has187 : ∃ fn, E.fn 187 = some fn := ⟨_, fn_own Tryz.func187 rfl rfl rfl⟩
end Go.Proofs.YtgkfobiiebpfhaaGreatDoor
