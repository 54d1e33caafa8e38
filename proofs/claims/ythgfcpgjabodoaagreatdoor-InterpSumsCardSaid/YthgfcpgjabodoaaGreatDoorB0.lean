/-
  The ground of the walks: the machine over this program, facts on its types and functions. Laid by program.
-/
import Derived.Test.YthgfcpgjabodoaaGreatDoorProg
import Derived.Test.YthgfcpgjabodoaaGreatDoorAb8
import Derived.Test.YthgfcpgjabodoaaGreatDoorAb4
set_option linter.unusedVariables false
set_option linter.unusedSimpArgs false
set_option maxRecDepth 100000
namespace Go.Proofs.YthgfcpgjabodoaaGreatDoor
open Go Go.AM
theorem aJa {α : Type} {l : List α} {f c : Nat} {x : α} (hc : 0 < c) (h : l[f]? = some x) : x ∈ (l.drop (f / c * c)).take c := by
 have hm : f % c < c := Nat.mod_lt _ hc
 have e : f / c * c + f % c = f := Nat.div_add_mod' f c
 have : ((l.drop (f / c * c)).take c)[f % c]? = some x := by
  rw [List.getElem?_take, if_pos hm, List.getElem?_drop, e]; exact h
 exact List.mem_of_getElem? this
def pO (F : Func) : Bool := !(F.name == "runtime.NumGoroutine")
theorem aMi : ((Tryz.prog.funcs.toList.drop 0).take 150).all pO = true := by kernel_rfl
theorem aIh : ((Tryz.prog.funcs.toList.drop 150).take 150).all pO = true := by kernel_rfl
theorem aIm : ((Tryz.prog.funcs.toList.drop 300).take 150).all pO = true := by kernel_rfl
theorem aKw : ((Tryz.prog.funcs.toList.drop 450).take 150).all pO = true := by kernel_rfl
theorem aLg : ((Tryz.prog.funcs.toList.drop 600).take 150).all pO = true := by kernel_rfl
theorem aGy : Tryz.prog.funcs.size = 646 := by kernel_rfl
theorem names (f : Nat) (F : Func) (h : Tryz.prog.funcs[f]? = some F) : (F.name == "runtime.NumGoroutine") = false := by
 have hl : Tryz.prog.funcs.toList[f]? = some F := by rw [Array.getElem?_toList]; exact h
 have hf : f < 646 := by rw [← aGy]; exact (Array.getElem?_eq_some_iff.1 h).1
 have hm := aJa (c := 150) (by decide) hl
 have key : pO F = true := by
  have h8 : f / 150 < 5 := by omega
  generalize f / 150 = q at hm h8
  match q, h8, hm with
  | 0, _, hm => exact List.all_eq_true.1 aMi F hm
  | 1, _, hm => exact List.all_eq_true.1 aIh F hm
  | 2, _, hm => exact List.all_eq_true.1 aIm F hm
  | 3, _, hm => exact List.all_eq_true.1 aKw F hm
  | 4, _, hm => exact List.all_eq_true.1 aLg F hm
  | k + 5, h8, _ => omega
 unfold pO at key
 simpa using key
def eqTs : List Nat := [43, 48, 62, 82, 137, 139, 141, 405, 425, 548]
theorem aSn : (eqTs.all fun t => !(Tryz.prog.stoodInHeld t) && !(Tryz.prog.eqGuardType Tryz.prog.depth t)) = true := by kernel_rfl
def eqT (t : Nat) : Bool := eqTs.contains t
theorem eqT_ok (t : Nat) (h : eqT t = true) : Tryz.prog.stoodInHeld t = false ∧ Tryz.prog.eqGuardType Tryz.prog.depth t = false := by
 have := aSn
 rw [List.all_eq_true] at this
 have := this t (by simpa [eqT] using h)
 simpa using this
noncomputable def E : Env Tryz.prog := Env.own Tryz.prog names eqT eqT_ok
theorem mixed : Tryz.prog.follows .mixedOrders = true := by kernel_rfl
theorem gS : E.inf 3 = some ⟨1, 8, some (.int .i64 0)⟩ := by kernel_rfl
theorem inf4 : E.inf 4 = some ⟨1, 1, some (.bool false)⟩ := by kernel_rfl
theorem rC : E.inf 5 = some ⟨1, 1, some (.int .u8 0)⟩ := by kernel_rfl
theorem aOm : E.inf 9 = some ⟨1, 16, some (.string ⟨#[]⟩)⟩ := by kernel_rfl
theorem inf31 : E.inf 31 = some ⟨1, 8, some (.int .i64 0)⟩ := by kernel_rfl
theorem inf68 : E.inf 68 = some ⟨1, 24, some (.slice none 0 0)⟩ := by kernel_rfl
theorem bW : E.inf 70 = some ⟨4, 56, some (.agg #[.int .i64 0, .int .i64 0, .string ⟨#[]⟩, .slice none 0 0])⟩ := by kernel_rfl
theorem inf71 : E.inf 71 = some ⟨1, 8, some (.pointer none)⟩ := by kernel_rfl
theorem vF : E.inf 75 = some ⟨1, 24, some (.slice none 0 0)⟩ := by kernel_rfl
theorem inf78 : E.inf 78 = some ⟨21, 288, some (.agg #[.int .i64 0, .int .i64 0, .int .i64 0, .slice none 0 0, .int .i64 0, .int .i64 0, .int .i64 0, .slice none 0 0, .slice none 0 0, .slice none 0 0, .slice none 0 0, .slice none 0 0, .int .i64 0, .int .i64 0, .map none, .int .i64 0, .int .i64 0, .string ⟨#[]⟩, .slice none 0 0, .int .i64 0, .int .i64 0])⟩ := by kernel_rfl
theorem aMb : E.inf 88 = some ⟨1, 24, some (.slice none 0 0)⟩ := by kernel_rfl
theorem xO : E.inf 94 = some ⟨6, 88, some (.agg #[.int .i64 0, .string ⟨#[]⟩, .int .i64 0, .slice none 0 0, .slice none 0 0, .int .i64 0])⟩ := by kernel_rfl
theorem inf95 : E.inf 95 = some ⟨1, 8, some (.pointer none)⟩ := by kernel_rfl
theorem inf97 : E.inf 97 = some ⟨1, 8, some (.pointer none)⟩ := by kernel_rfl
theorem aKy : E.inf 112 = some ⟨2, 16, some (.agg #[.int .i64 0, .int .i64 0])⟩ := by kernel_rfl
theorem cK : E.inf 121 = some ⟨3, 32, some (.agg #[.int .i64 0, .string ⟨#[]⟩, .int .i64 0])⟩ := by kernel_rfl
theorem inf132 : E.inf 132 = some ⟨1, 8, some (.map none)⟩ := by kernel_rfl
theorem inf134 : E.inf 134 = some ⟨2, 16, some (.agg #[.map none, .pointer none])⟩ := by kernel_rfl
theorem aSg : E.inf 143 = some ⟨24, 24, some (.agg #[.int .u8 0, .int .u8 0, .int .u8 0, .int .u8 0, .int .u8 0, .int .u8 0, .int .u8 0, .int .u8 0, .int .u8 0, .int .u8 0, .int .u8 0, .int .u8 0, .int .u8 0, .int .u8 0, .int .u8 0, .int .u8 0, .int .u8 0, .int .u8 0, .int .u8 0, .int .u8 0, .int .u8 0, .int .u8 0, .int .u8 0, .int .u8 0])⟩ := by kernel_rfl
theorem inf144 : E.inf 144 = some ⟨1, 8, some (.int .u64 0)⟩ := by kernel_rfl
theorem inf207 : E.inf 207 = some ⟨2, 16, some (.agg #[.int .i64 0, .int .i64 0])⟩ := by kernel_rfl
theorem aKl : ∃ fn, E.fn 5 = some fn := ⟨_, bH Tryz.func5 rfl rfl rfl⟩
theorem aRj : ∃ fn, E.fn 6 = some fn := ⟨_, bH Tryz.func6 rfl rfl rfl⟩
theorem aHb : ∃ fn, E.fn 7 = some fn := ⟨_, bH Tryz.func7 rfl rfl rfl⟩
theorem aRn : ∃ fn, E.fn 8 = some fn := ⟨_, bH Tryz.func8 rfl rfl rfl⟩
theorem aQv : ∃ fn, E.fn 13 = some fn := ⟨_, bH Tryz.func13 rfl rfl rfl⟩
theorem aQk : ∃ fn, E.fn 14 = some fn := ⟨_, bH Tryz.func14 rfl rfl rfl⟩
theorem aQw : ∃ fn, E.fn 20 = some fn := ⟨_, bH Tryz.func20 rfl rfl rfl⟩
theorem has25 : ∃ fn, E.fn 25 = some fn := ⟨_, bH Tryz.func25 rfl rfl rfl⟩
theorem has35 : ∃ fn, E.fn 35 = some fn := ⟨_, bH Tryz.func35 rfl rfl rfl⟩
theorem has36 : ∃ fn, E.fn 36 = some fn := ⟨_, bH Tryz.func36 rfl rfl rfl⟩
theorem has46 : ∃ fn, E.fn 46 = some fn := ⟨_, bH Tryz.func46 rfl rfl rfl⟩
theorem aQt : ∃ fn, E.fn 52 = some fn := ⟨_, bH Tryz.func52 rfl rfl rfl⟩
theorem has56 : ∃ fn, E.fn 56 = some fn := ⟨_, bH Tryz.func56 rfl rfl rfl⟩
theorem has57 : ∃ fn, E.fn 57 = some fn := ⟨_, bH Tryz.func57 rfl rfl rfl⟩
theorem has58 : ∃ fn, E.fn 58 = some fn := ⟨_, bH Tryz.func58 rfl rfl rfl⟩
theorem has65 : ∃ fn, E.fn 65 = some fn := ⟨_, bH Tryz.func65 rfl rfl rfl⟩
theorem has66 : ∃ fn, E.fn 66 = some fn := ⟨_, bH Tryz.func66 rfl rfl rfl⟩
theorem aQl : ∃ fn, E.fn 80 = some fn := ⟨_, bH Tryz.func80 rfl rfl rfl⟩
theorem has81 : ∃ fn, E.fn 81 = some fn := ⟨_, bH Tryz.func81 rfl rfl rfl⟩
theorem has97 : ∃ fn, E.fn 97 = some fn := ⟨_, bH Tryz.func97 rfl rfl rfl⟩
theorem has101 : ∃ fn, E.fn 101 = some fn := ⟨_, bH Tryz.func101 rfl rfl rfl⟩
theorem has102 : ∃ fn, E.fn 102 = some fn := ⟨_, bH Tryz.func102 rfl rfl rfl⟩
theorem aJg : ∃ fn, E.fn 109 = some fn := ⟨_, bH Tryz.func109 rfl rfl rfl⟩
theorem nR : ∃ fn, E.fn 126 = some fn := ⟨_, bH Tryz.func126 rfl rfl rfl⟩
theorem aRk : ∃ fn, E.fn 127 = some fn := ⟨_, bH Tryz.func127 rfl rfl rfl⟩
theorem sS : ∃ fn, E.fn 128 = some fn := ⟨_, bH Tryz.func128 rfl rfl rfl⟩
theorem aSm : ∃ fn, E.fn 129 = some fn := ⟨_, bH Tryz.func129 rfl rfl rfl⟩
theorem aAu : ∃ fn, E.fn 131 = some fn := ⟨_, bH Tryz.func131 rfl rfl rfl⟩
theorem has147 : ∃ fn, E.fn 147 = some fn := ⟨_, bH Tryz.func147 rfl rfl rfl⟩
theorem aRt : ∃ fn, E.fn 148 = some fn := ⟨_, bH Tryz.func148 rfl rfl rfl⟩
theorem mC : ∃ fn, E.fn 149 = some fn := ⟨_, bH Tryz.func149 rfl rfl rfl⟩
theorem wJ : ∃ fn, E.fn 151 = some fn := ⟨_, bH Tryz.func151 rfl rfl rfl⟩
theorem aMa : ∃ fn, E.fn 175 = some fn := ⟨_, bH Tryz.func175 rfl rfl rfl⟩
theorem has188 : ∃ fn, E.fn 188 = some fn := ⟨_, bH Tryz.func188 rfl rfl rfl⟩
theorem has190 : ∃ fn, E.fn 190 = some fn := ⟨_, bH Tryz.func190 rfl rfl rfl⟩
theorem aKp : ∃ fn, E.fn 193 = some fn := ⟨_, bH Tryz.func193 rfl rfl rfl⟩
theorem has212 : ∃ fn, E.fn 212 = some fn := ⟨_, bH Tryz.func212 rfl rfl rfl⟩
theorem aRl : ∃ fn, E.fn 215 = some fn := ⟨_, bH Tryz.func215 rfl rfl rfl⟩
theorem uY : ∃ fn, E.fn 217 = some fn := ⟨_, bH Tryz.func217 rfl rfl rfl⟩
theorem aSp : ∃ fn, E.fn 239 = some fn := ⟨_, bH Tryz.func239 rfl rfl rfl⟩
theorem aMm : ∃ fn, E.fn 243 = some fn := ⟨_, bH Tryz.func243 rfl rfl rfl⟩
end Go.Proofs.YthgfcpgjabodoaaGreatDoor
