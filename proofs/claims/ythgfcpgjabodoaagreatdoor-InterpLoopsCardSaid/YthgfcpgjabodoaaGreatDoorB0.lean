/-
  The ground of the walks: the machine over this program, facts on its types and functions. Laid by program.
-/
import Derived.Test.YthgfcpgjabodoaaGreatDoorProg
import Derived.Test.YthgfcpgjabodoaaGreatDoorAb8
import Derived.Test.YthgfcpgjabodoaaGreatDoorAb4
set_option linter.unusedVariables false
set_option linter.unusedSimpArgs false
set_option maxRecDepth 100000
namespace Go.Proofs.YthgfcpgjabodoaaGreatDoor
open Go Go.AM
theorem aJf {α : Type} {l : List α} {f c : Nat} {x : α} (hc : 0 < c) (h : l[f]? = some x) : x ∈ (l.drop (f / c * c)).take c := by
 have hm : f % c < c := Nat.mod_lt _ hc
 have e : f / c * c + f % c = f := Nat.div_add_mod' f c
 have : ((l.drop (f / c * c)).take c)[f % c]? = some x := by
  rw [List.getElem?_take, if_pos hm, List.getElem?_drop, e]; exact h
 exact List.mem_of_getElem? this
def pG (F : Func) : Bool := !(F.name == "runtime.NumGoroutine")
theorem aIt : ((Tryz.prog.funcs.toList.drop 0).take 150).all pG = true := by kernel_rfl
theorem aJm : ((Tryz.prog.funcs.toList.drop 150).take 150).all pG = true := by kernel_rfl
theorem aNz : ((Tryz.prog.funcs.toList.drop 300).take 150).all pG = true := by kernel_rfl
theorem aKq : ((Tryz.prog.funcs.toList.drop 450).take 150).all pG = true := by kernel_rfl
theorem aMw : ((Tryz.prog.funcs.toList.drop 600).take 150).all pG = true := by kernel_rfl
theorem aGy : Tryz.prog.funcs.size = 646 := by kernel_rfl
theorem names (f : Nat) (F : Func) (h : Tryz.prog.funcs[f]? = some F) : (F.name == "runtime.NumGoroutine") = false := by
 have hl : Tryz.prog.funcs.toList[f]? = some F := by rw [Array.getElem?_toList]; exact h
 have hf : f < 646 := by rw [← aGy]; exact (Array.getElem?_eq_some_iff.1 h).1
 have hm := aJf (c := 150) (by decide) hl
 have key : pG F = true := by
  have h8 : f / 150 < 5 := by omega
  generalize f / 150 = q at hm h8
  match q, h8, hm with
  | 0, _, hm => exact List.all_eq_true.1 aIt F hm
  | 1, _, hm => exact List.all_eq_true.1 aJm F hm
  | 2, _, hm => exact List.all_eq_true.1 aNz F hm
  | 3, _, hm => exact List.all_eq_true.1 aKq F hm
  | 4, _, hm => exact List.all_eq_true.1 aMw F hm
  | k + 5, h8, _ => omega
 unfold pG at key
 simpa using key
def eqTs : List Nat := [43, 48, 62, 82, 137, 139, 141, 405, 425, 548]
theorem aRy : (eqTs.all fun t => !(Tryz.prog.stoodInHeld t) && !(Tryz.prog.eqGuardType Tryz.prog.depth t)) = true := by kernel_rfl
def eqT (t : Nat) : Bool := eqTs.contains t
theorem eqT_ok (t : Nat) (h : eqT t = true) : Tryz.prog.stoodInHeld t = false ∧ Tryz.prog.eqGuardType Tryz.prog.depth t = false := by
 have := aRy
 rw [List.all_eq_true] at this
 have := this t (by simpa [eqT] using h)
 simpa using this
noncomputable def E : Env Tryz.prog := Env.own Tryz.prog names eqT eqT_ok
theorem mixed : Tryz.prog.follows .mixedOrders = true := by kernel_rfl
theorem kP : E.inf 3 = some ⟨1, 8, some (.int .i64 0)⟩ := by kernel_rfl
theorem inf4 : E.inf 4 = some ⟨1, 1, some (.bool false)⟩ := by kernel_rfl
theorem mJ : E.inf 5 = some ⟨1, 1, some (.int .u8 0)⟩ := by kernel_rfl
theorem aLg : E.inf 9 = some ⟨1, 16, some (.string ⟨#[]⟩)⟩ := by kernel_rfl
theorem inf31 : E.inf 31 = some ⟨1, 8, some (.int .i64 0)⟩ := by kernel_rfl
theorem inf68 : E.inf 68 = some ⟨1, 24, some (.slice none 0 0)⟩ := by kernel_rfl
theorem dD : E.inf 70 = some ⟨4, 56, some (.agg #[.int .i64 0, .int .i64 0, .string ⟨#[]⟩, .slice none 0 0])⟩ := by kernel_rfl
theorem inf71 : E.inf 71 = some ⟨1, 8, some (.pointer none)⟩ := by kernel_rfl
theorem oQ : E.inf 75 = some ⟨1, 24, some (.slice none 0 0)⟩ := by kernel_rfl
theorem inf78 : E.inf 78 = some ⟨21, 288, some (.agg #[.int .i64 0, .int .i64 0, .int .i64 0, .slice none 0 0, .int .i64 0, .int .i64 0, .int .i64 0, .slice none 0 0, .slice none 0 0, .slice none 0 0, .slice none 0 0, .slice none 0 0, .int .i64 0, .int .i64 0, .map none, .int .i64 0, .int .i64 0, .string ⟨#[]⟩, .slice none 0 0, .int .i64 0, .int .i64 0])⟩ := by kernel_rfl
theorem wK : E.inf 88 = some ⟨1, 24, some (.slice none 0 0)⟩ := by kernel_rfl
theorem qZ : E.inf 94 = some ⟨6, 88, some (.agg #[.int .i64 0, .string ⟨#[]⟩, .int .i64 0, .slice none 0 0, .slice none 0 0, .int .i64 0])⟩ := by kernel_rfl
theorem inf95 : E.inf 95 = some ⟨1, 8, some (.pointer none)⟩ := by kernel_rfl
theorem inf97 : E.inf 97 = some ⟨1, 8, some (.pointer none)⟩ := by kernel_rfl
theorem aJe : E.inf 112 = some ⟨2, 16, some (.agg #[.int .i64 0, .int .i64 0])⟩ := by kernel_rfl
theorem cC : E.inf 121 = some ⟨3, 32, some (.agg #[.int .i64 0, .string ⟨#[]⟩, .int .i64 0])⟩ := by kernel_rfl
theorem aIq : E.inf 132 = some ⟨1, 8, some (.map none)⟩ := by kernel_rfl
theorem inf134 : E.inf 134 = some ⟨2, 16, some (.agg #[.map none, .pointer none])⟩ := by kernel_rfl
theorem aSi : E.inf 143 = some ⟨24, 24, some (.agg #[.int .u8 0, .int .u8 0, .int .u8 0, .int .u8 0, .int .u8 0, .int .u8 0, .int .u8 0, .int .u8 0, .int .u8 0, .int .u8 0, .int .u8 0, .int .u8 0, .int .u8 0, .int .u8 0, .int .u8 0, .int .u8 0, .int .u8 0, .int .u8 0, .int .u8 0, .int .u8 0, .int .u8 0, .int .u8 0, .int .u8 0, .int .u8 0])⟩ := by kernel_rfl
theorem inf144 : E.inf 144 = some ⟨1, 8, some (.int .u64 0)⟩ := by kernel_rfl
theorem aRq : E.inf 207 = some ⟨2, 16, some (.agg #[.int .i64 0, .int .i64 0])⟩ := by kernel_rfl
theorem aLi : ∃ fn, E.fn 5 = some fn := ⟨_, aV Tryz.func5 rfl rfl rfl⟩
theorem has6 : ∃ fn, E.fn 6 = some fn := ⟨_, aV Tryz.func6 rfl rfl rfl⟩
theorem aQk : ∃ fn, E.fn 7 = some fn := ⟨_, aV Tryz.func7 rfl rfl rfl⟩
theorem has8 : ∃ fn, E.fn 8 = some fn := ⟨_, aV Tryz.func8 rfl rfl rfl⟩
theorem aRa : ∃ fn, E.fn 13 = some fn := ⟨_, aV Tryz.func13 rfl rfl rfl⟩
theorem aQz : ∃ fn, E.fn 14 = some fn := ⟨_, aV Tryz.func14 rfl rfl rfl⟩
theorem aFq : ∃ fn, E.fn 20 = some fn := ⟨_, aV Tryz.func20 rfl rfl rfl⟩
theorem has25 : ∃ fn, E.fn 25 = some fn := ⟨_, aV Tryz.func25 rfl rfl rfl⟩
theorem has35 : ∃ fn, E.fn 35 = some fn := ⟨_, aV Tryz.func35 rfl rfl rfl⟩
theorem has36 : ∃ fn, E.fn 36 = some fn := ⟨_, aV Tryz.func36 rfl rfl rfl⟩
theorem has46 : ∃ fn, E.fn 46 = some fn := ⟨_, aV Tryz.func46 rfl rfl rfl⟩
theorem aQs : ∃ fn, E.fn 52 = some fn := ⟨_, aV Tryz.func52 rfl rfl rfl⟩
theorem has56 : ∃ fn, E.fn 56 = some fn := ⟨_, aV Tryz.func56 rfl rfl rfl⟩
theorem has57 : ∃ fn, E.fn 57 = some fn := ⟨_, aV Tryz.func57 rfl rfl rfl⟩
theorem has58 : ∃ fn, E.fn 58 = some fn := ⟨_, aV Tryz.func58 rfl rfl rfl⟩
theorem has65 : ∃ fn, E.fn 65 = some fn := ⟨_, aV Tryz.func65 rfl rfl rfl⟩
theorem has66 : ∃ fn, E.fn 66 = some fn := ⟨_, aV Tryz.func66 rfl rfl rfl⟩
theorem aQr : ∃ fn, E.fn 80 = some fn := ⟨_, aV Tryz.func80 rfl rfl rfl⟩
theorem has81 : ∃ fn, E.fn 81 = some fn := ⟨_, aV Tryz.func81 rfl rfl rfl⟩
theorem has97 : ∃ fn, E.fn 97 = some fn := ⟨_, aV Tryz.func97 rfl rfl rfl⟩
theorem has101 : ∃ fn, E.fn 101 = some fn := ⟨_, aV Tryz.func101 rfl rfl rfl⟩
theorem aJv : ∃ fn, E.fn 102 = some fn := ⟨_, aV Tryz.func102 rfl rfl rfl⟩
theorem aKc : ∃ fn, E.fn 109 = some fn := ⟨_, aV Tryz.func109 rfl rfl rfl⟩
theorem nC : ∃ fn, E.fn 126 = some fn := ⟨_, aV Tryz.func126 rfl rfl rfl⟩
theorem aSn : ∃ fn, E.fn 127 = some fn := ⟨_, aV Tryz.func127 rfl rfl rfl⟩
theorem tD : ∃ fn, E.fn 128 = some fn := ⟨_, aV Tryz.func128 rfl rfl rfl⟩
theorem aRv : ∃ fn, E.fn 129 = some fn := ⟨_, aV Tryz.func129 rfl rfl rfl⟩
theorem aAp : ∃ fn, E.fn 131 = some fn := ⟨_, aV Tryz.func131 rfl rfl rfl⟩
theorem aRx : ∃ fn, E.fn 147 = some fn := ⟨_, aV Tryz.func147 rfl rfl rfl⟩
theorem aSk : ∃ fn, E.fn 148 = some fn := ⟨_, aV Tryz.func148 rfl rfl rfl⟩
theorem aRc : ∃ fn, E.fn 149 = some fn := ⟨_, aV Tryz.func149 rfl rfl rfl⟩
theorem has151 : ∃ fn, E.fn 151 = some fn := ⟨_, aV Tryz.func151 rfl rfl rfl⟩
theorem aKa : ∃ fn, E.fn 175 = some fn := ⟨_, aV Tryz.func175 rfl rfl rfl⟩
theorem has188 : ∃ fn, E.fn 188 = some fn := ⟨_, aV Tryz.func188 rfl rfl rfl⟩
theorem has190 : ∃ fn, E.fn 190 = some fn := ⟨_, aV Tryz.func190 rfl rfl rfl⟩
theorem has193 : ∃ fn, E.fn 193 = some fn := ⟨_, aV Tryz.func193 rfl rfl rfl⟩
theorem has212 : ∃ fn, E.fn 212 = some fn := ⟨_, aV Tryz.func212 rfl rfl rfl⟩
theorem has215 : ∃ fn, E.fn 215 = some fn := ⟨_, aV Tryz.func215 rfl rfl rfl⟩
theorem has217 : ∃ fn, E.fn 217 = some fn := ⟨_, aV Tryz.func217 rfl rfl rfl⟩
theorem aLb : ∃ fn, E.fn 239 = some fn := ⟨_, aV Tryz.func239 rfl rfl rfl⟩
theorem has243 : ∃ fn, E.fn 243 = some fn := ⟨_, aV Tryz.func243 rfl rfl rfl⟩
end Go.Proofs.YthgfcpgjabodoaaGreatDoor
