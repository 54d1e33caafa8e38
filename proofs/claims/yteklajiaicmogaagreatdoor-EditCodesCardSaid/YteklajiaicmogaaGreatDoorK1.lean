/-
  The walks through the codec, part 1.
-/
import Derived.Test.YteklajiaicmogaaGreatDoorA4
import Derived.Test.YteklajiaicmogaaGreatDoorProg
set_option linter.unusedVariables false
set_option linter.unusedSimpArgs false
set_option maxRecDepth 100000
namespace Go.Proofs.YteklajiaicmogaaGreatDoor
open Go Go.AM
abbrev V1 := @Tryz.underlying1
abbrev V3 := @Tryz.underlying3
abbrev V4 := @Tryz.underlying4
abbrev V5 := @Tryz.underlying5
abbrev V9 := @Tryz.underlying9
abbrev V22 := @Tryz.underlying22
abbrev V24 := @Tryz.underlying24
abbrev V26 := @Tryz.underlying26
abbrev V27 := @Tryz.underlying27
abbrev V29 := @Tryz.underlying29
abbrev V31 := @Tryz.underlying31
abbrev V32 := @Tryz.underlying32
abbrev V33 := @Tryz.underlying33
abbrev V34 := @Tryz.underlying34
abbrev V36 := @Tryz.underlying36
abbrev V38 := @Tryz.underlying38
abbrev V39 := @Tryz.underlying39
abbrev V41 := @Tryz.underlying41
abbrev V42 := @Tryz.underlying42
abbrev V44 := @Tryz.underlying44
abbrev V46 := @Tryz.underlying46
abbrev V48 := @Tryz.underlying48
abbrev V49 := @Tryz.underlying49
abbrev V65 := @Tryz.underlying65
abbrev V66 := @Tryz.underlying66
abbrev V68 := @Tryz.underlying68
abbrev V69 := @Tryz.underlying69
abbrev V71 := @Tryz.underlying71
abbrev V74 := @Tryz.underlying74
abbrev V96 := @Tryz.underlying96
abbrev V97 := @Tryz.underlying97
abbrev V98 := @Tryz.underlying98
abbrev aBm := @Tryz.underlying100
abbrev rR := @Tryz.underlying111
abbrev tD := @Tryz.underlying112
abbrev oG := @Tryz.underlying114
abbrev aDo := @Tryz.underlying117
abbrev oF := @Tryz.underlying121
abbrev aXm := @Tryz.underlying123
abbrev V143 := @Tryz.underlying143
abbrev lI := @Tryz.underlying144
abbrev V146 := @Tryz.underlying146
abbrev aXa := @Tryz.underlying172
abbrev aUe := @Tryz.underlying180
abbrev V182 := @Tryz.underlying182
abbrev aXo := @Tryz.underlying185
theorem aNs {α : Type} {l : List α} {f c : Nat} {x : α} (hc : 0 < c) (h : l[f]? = some x) : x ∈ (l.drop (f / c * c)).take c := by
 have hm : f % c < c := Nat.mod_lt _ hc
 have e : f / c * c + f % c = f := Nat.div_add_mod' f c
 have : ((l.drop (f / c * c)).take c)[f % c]? = some x := by
  rw [List.getElem?_take, if_pos hm, List.getElem?_drop, e]; exact h
 exact List.mem_of_getElem? this
def tV (F : Func) : Bool := !(F.name == "runtime.NumGoroutine")
theorem aQj : ((Tryz.prog.funcs.toList.drop 0).take 150).all tV = true := by kernel_rfl
theorem aRj : ((Tryz.prog.funcs.toList.drop 150).take 150).all tV = true := by kernel_rfl
theorem aOg : ((Tryz.prog.funcs.toList.drop 300).take 150).all tV = true := by kernel_rfl
theorem aNu : ((Tryz.prog.funcs.toList.drop 450).take 150).all tV = true := by kernel_rfl
theorem aPd : ((Tryz.prog.funcs.toList.drop 600).take 150).all tV = true := by kernel_rfl
theorem aLr : Tryz.prog.funcs.size = 610 := by kernel_rfl
theorem xJ (f : Nat) (F : Func) (h : Tryz.prog.funcs[f]? = some F) : (F.name == "runtime.NumGoroutine") = false := by
 have hl : Tryz.prog.funcs.toList[f]? = some F := by rw [Array.getElem?_toList]; exact h
 have hf : f < 610 := by rw [← aLr]; exact (Array.getElem?_eq_some_iff.1 h).1
 have hm := aNs (c := 150) (by decide) hl
 have key : tV F = true := by
  have h8 : f / 150 < 5 := by omega
  generalize f / 150 = q at hm h8
  match q, h8, hm with
  | 0, _, hm => exact List.all_eq_true.1 aQj F hm
  | 1, _, hm => exact List.all_eq_true.1 aRj F hm
  | 2, _, hm => exact List.all_eq_true.1 aOg F hm
  | 3, _, hm => exact List.all_eq_true.1 aNu F hm
  | 4, _, hm => exact List.all_eq_true.1 aPd F hm
  | k + 5, h8, _ => omega
 unfold tV at key
 simpa using key
def eqTs : List Nat := [26, 31, 44, 46, 69, 111, 112, 114, 219, 437]
theorem aXf : (eqTs.all fun t => !(Tryz.prog.stoodInHeld t) && !(Tryz.prog.eqGuardType Tryz.prog.depth t)) = true := by kernel_rfl
def eqT (t : Nat) : Bool := eqTs.contains t
theorem eqT_ok (t : Nat) (h : eqT t = true) : Tryz.prog.stoodInHeld t = false ∧ Tryz.prog.eqGuardType Tryz.prog.depth t = false := by
 have := aXf
 rw [List.all_eq_true] at this
 have := this t (by simpa [eqT] using h)
 simpa using this
noncomputable def E : Env Tryz.prog := Env.own Tryz.prog xJ eqT eqT_ok
theorem mixed : Tryz.prog.follows .mixedOrders = true := by kernel_rfl
theorem aI : E.inf 3 = some ⟨1, 8, some (.int .i64 0)⟩ := by kernel_rfl
theorem lR : E.inf 4 = some ⟨1, 1, some (.bool false)⟩ := by kernel_rfl
theorem oZ : E.inf 5 = some ⟨1, 1, some (.int .u8 0)⟩ := by kernel_rfl
theorem gJ : E.inf 9 = some ⟨1, 16, some (.string ⟨#[]⟩)⟩ := by kernel_rfl
theorem eI : E.inf 22 = some ⟨1, 24, some (.slice none 0 0)⟩ := by kernel_rfl
theorem fI : E.inf 24 = some ⟨3, 40, some (.agg #[.int .i64 0, .int .i64 0, .slice none 0 0])⟩ := by kernel_rfl
theorem jN : E.inf 26 = some ⟨6, 48, some (.agg #[.int .i64 0, .int .i64 0, .int .i64 0, .int .i64 0, .int .i64 0, .int .i64 0])⟩ := by kernel_rfl
theorem gZ : E.inf 27 = some ⟨1, 24, some (.slice none 0 0)⟩ := by kernel_rfl
theorem fH : E.inf 29 = some ⟨3, 40, some (.agg #[.int .i64 0, .int .i64 0, .slice none 0 0])⟩ := by kernel_rfl
theorem bL : E.inf 31 = some ⟨4, 32, some (.agg #[.int .i64 0, .int .i64 0, .int .i64 0, .int .i64 0])⟩ := by kernel_rfl
theorem nX : E.inf 32 = some ⟨1, 24, some (.slice none 0 0)⟩ := by kernel_rfl
theorem lN : E.inf 33 = some ⟨1, 24, some (.slice none 0 0)⟩ := by kernel_rfl
theorem oC : E.inf 34 = some ⟨1, 24, some (.slice none 0 0)⟩ := by kernel_rfl
theorem gU : E.inf 36 = some ⟨4, 48, some (.agg #[.int .i64 0, .int .i64 0, .int .i64 0, .slice none 0 0])⟩ := by kernel_rfl
theorem fU : E.inf 38 = some ⟨43, 440, some (.agg #[.int .i64 0, .int .i64 0, .int .i64 0, .string ⟨#[]⟩, .bool false, .bool false, .bool false, .int .i64 0, .int .i64 0, .int .i64 0, .int .i64 0, .slice none 0 0, .int .i64 0, .int .i64 0, .int .i64 0, .int .i64 0, .int .i64 0, .int .i64 0, .int .i64 0, .int .i64 0, .int .i64 0, .slice none 0 0, .int .i64 0, .int .i64 0, .int .i64 0, .int .i64 0, .int .i64 0, .slice none 0 0, .int .i64 0, .slice none 0 0, .slice none 0 0, .int .i64 0, .int .i64 0, .int .i64 0, .int .i64 0, .string ⟨#[]⟩, .int .i64 0, .int .i64 0, .int .i64 0, .int .i64 0, .int .i64 0, .int .i64 0, .slice none 0 0])⟩ := by kernel_rfl
theorem rL : E.inf 39 = some ⟨1, 24, some (.slice none 0 0)⟩ := by kernel_rfl
theorem jT : E.inf 41 = some ⟨16, 144, some (.agg #[.int .i64 0, .int .i64 0, .int .i64 0, .int .i64 0, .int .i64 0, .int .i64 0, .int .i64 0, .int .i64 0, .int .i64 0, .int .i64 0, .int .i64 0, .int .i64 0, .int .i64 0, .int .i64 0, .slice none 0 0, .bool false])⟩ := by kernel_rfl
theorem nI : E.inf 42 = some ⟨1, 24, some (.slice none 0 0)⟩ := by kernel_rfl
theorem eB : E.inf 44 = some ⟨2, 16, some (.agg #[.int .i64 0, .int .i64 0])⟩ := by kernel_rfl
theorem kJ : E.inf 46 = some ⟨4, 32, some (.agg #[.int .i64 0, .int .i64 0, .int .i64 0, .int .i64 0])⟩ := by kernel_rfl
theorem gP : E.inf 48 = some ⟨84, 848, some (.agg #[.int .i64 0, .int .i64 0, .int .i64 0, .int .i64 0, .int .i64 0, .int .i64 0, .string ⟨#[]⟩, .string ⟨#[]⟩, .int .i64 0, .int .i64 0, .int .i64 0, .string ⟨#[]⟩, .bool false, .bool false, .bool false, .int .i64 0, .int .i64 0, .int .i64 0, .int .i64 0, .slice none 0 0, .int .i64 0, .int .i64 0, .int .i64 0, .int .i64 0, .int .i64 0, .int .i64 0, .int .i64 0, .int .i64 0, .int .i64 0, .slice none 0 0, .int .i64 0, .int .i64 0, .int .i64 0, .int .i64 0, .int .i64 0, .slice none 0 0, .int .i64 0, .slice none 0 0, .slice none 0 0, .int .i64 0, .int .i64 0, .int .i64 0, .int .i64 0, .string ⟨#[]⟩, .int .i64 0, .int .i64 0, .int .i64 0, .int .i64 0, .int .i64 0, .int .i64 0, .slice none 0 0, .int .i64 0, .int .i64 0, .slice none 0 0, .int .i64 0, .int .i64 0, .slice none 0 0, .int .i64 0, .int .i64 0, .int .i64 0, .int .i64 0, .int .i64 0, .int .i64 0, .int .i64 0, .int .i64 0, .int .i64 0, .int .i64 0, .int .i64 0, .int .i64 0, .int .i64 0, .int .i64 0, .slice none 0 0, .bool false, .slice none 0 0, .int .i64 0, .int .i64 0, .int .i64 0, .int .i64 0, .int .i64 0, .int .i64 0, .int .i64 0, .int .i64 0, .int .i64 0, .int .i64 0])⟩ := by kernel_rfl
theorem aVw : E.inf 49 = some ⟨1, 8, some (.int .i64 0)⟩ := by kernel_rfl
theorem rE : E.inf 66 = some ⟨1, 24, some (.slice none 0 0)⟩ := by kernel_rfl
theorem kS : E.inf 68 = some ⟨3, 40, some (.agg #[.int .i64 0, .int .i64 0, .slice none 0 0])⟩ := by kernel_rfl
theorem qP : E.inf 69 = some ⟨2, 16, some (.agg #[.int .i64 0, .int .i64 0])⟩ := by kernel_rfl
theorem mP : E.inf 71 = some ⟨5, 40, some (.agg #[.int .i64 0, .int .i64 0, .int .i64 0, .int .i64 0, .int .i64 0])⟩ := by kernel_rfl
theorem aFn : E.inf 97 = some ⟨1, 8, some (.pointer none)⟩ := by kernel_rfl
theorem xO : E.inf 98 = some ⟨1, 24, some (.slice none 0 0)⟩ := by kernel_rfl
theorem mI : E.inf 100 = some ⟨2, 32, some (.agg #[.pointer none, .slice none 0 0])⟩ := by kernel_rfl
theorem lP : E.inf 111 = some ⟨5, 40, some (.agg #[.int .i64 0, .int .i64 0, .int .i64 0, .int .i64 0, .int .i64 0])⟩ := by kernel_rfl
theorem lF : E.inf 112 = some ⟨6, 48, some (.agg #[.int .i64 0, .int .i64 0, .int .i64 0, .int .i64 0, .int .i64 0, .int .i64 0])⟩ := by kernel_rfl
theorem iE : E.inf 114 = some ⟨7, 56, some (.agg #[.int .i64 0, .int .i64 0, .int .i64 0, .int .i64 0, .int .i64 0, .int .i64 0, .int .i64 0])⟩ := by kernel_rfl
theorem aIr : E.inf 117 = some ⟨1, 4, some (.int .u32 0)⟩ := by kernel_rfl
theorem inf121 : E.inf 121 = some ⟨4, 40, some (.agg #[.bool false, .string ⟨#[]⟩, .int .i64 0, .int .i64 0])⟩ := by kernel_rfl
theorem fO : E.inf 123 = some ⟨1, 8, some (.pointer none)⟩ := by kernel_rfl
theorem uA : E.inf 180 = some ⟨256, 1024, some (.agg #[.int .u32 0, .int .u32 0, .int .u32 0, .int .u32 0, .int .u32 0, .int .u32 0, .int .u32 0, .int .u32 0, .int .u32 0, .int .u32 0, .int .u32 0, .int .u32 0, .int .u32 0, .int .u32 0, .int .u32 0, .int .u32 0, .int .u32 0, .int .u32 0, .int .u32 0, .int .u32 0, .int .u32 0, .int .u32 0, .int .u32 0, .int .u32 0, .int .u32 0, .int .u32 0, .int .u32 0, .int .u32 0, .int .u32 0, .int .u32 0, .int .u32 0, .int .u32 0, .int .u32 0, .int .u32 0, .int .u32 0, .int .u32 0, .int .u32 0, .int .u32 0, .int .u32 0, .int .u32 0, .int .u32 0, .int .u32 0, .int .u32 0, .int .u32 0, .int .u32 0, .int .u32 0, .int .u32 0, .int .u32 0, .int .u32 0, .int .u32 0, .int .u32 0, .int .u32 0, .int .u32 0, .int .u32 0, .int .u32 0, .int .u32 0, .int .u32 0, .int .u32 0, .int .u32 0, .int .u32 0, .int .u32 0, .int .u32 0, .int .u32 0, .int .u32 0, .int .u32 0, .int .u32 0, .int .u32 0, .int .u32 0, .int .u32 0, .int .u32 0, .int .u32 0, .int .u32 0, .int .u32 0, .int .u32 0, .int .u32 0, .int .u32 0, .int .u32 0, .int .u32 0, .int .u32 0, .int .u32 0, .int .u32 0, .int .u32 0, .int .u32 0, .int .u32 0, .int .u32 0, .int .u32 0, .int .u32 0, .int .u32 0, .int .u32 0, .int .u32 0, .int .u32 0, .int .u32 0, .int .u32 0, .int .u32 0, .int .u32 0, .int .u32 0, .int .u32 0, .int .u32 0, .int .u32 0, .int .u32 0, .int .u32 0, .int .u32 0, .int .u32 0, .int .u32 0, .int .u32 0, .int .u32 0, .int .u32 0, .int .u32 0, .int .u32 0, .int .u32 0, .int .u32 0, .int .u32 0, .int .u32 0, .int .u32 0, .int .u32 0, .int .u32 0, .int .u32 0, .int .u32 0, .int .u32 0, .int .u32 0, .int .u32 0, .int .u32 0, .int .u32 0, .int .u32 0, .int .u32 0, .int .u32 0, .int .u32 0, .int .u32 0, .int .u32 0, .int .u32 0, .int .u32 0, .int .u32 0, .int .u32 0, .int .u32 0, .int .u32 0, .int .u32 0, .int .u32 0, .int .u32 0, .int .u32 0, .int .u32 0, .int .u32 0, .int .u32 0, .int .u32 0, .int .u32 0, .int .u32 0, .int .u32 0, .int .u32 0, .int .u32 0, .int .u32 0, .int .u32 0, .int .u32 0, .int .u32 0, .int .u32 0, .int .u32 0, .int .u32 0, .int .u32 0, .int .u32 0, .int .u32 0, .int .u32 0, .int .u32 0, .int .u32 0, .int .u32 0, .int .u32 0, .int .u32 0, .int .u32 0, .int .u32 0, .int .u32 0, .int .u32 0, .int .u32 0, .int .u32 0, .int .u32 0, .int .u32 0, .int .u32 0, .int .u32 0, .int .u32 0, .int .u32 0, .int .u32 0, .int .u32 0, .int .u32 0, .int .u32 0, .int .u32 0, .int .u32 0, .int .u32 0, .int .u32 0, .int .u32 0, .int .u32 0, .int .u32 0, .int .u32 0, .int .u32 0, .int .u32 0, .int .u32 0, .int .u32 0, .int .u32 0, .int .u32 0, .int .u32 0, .int .u32 0, .int .u32 0, .int .u32 0, .int .u32 0, .int .u32 0, .int .u32 0, .int .u32 0, .int .u32 0, .int .u32 0, .int .u32 0, .int .u32 0, .int .u32 0, .int .u32 0, .int .u32 0, .int .u32 0, .int .u32 0, .int .u32 0, .int .u32 0, .int .u32 0, .int .u32 0, .int .u32 0, .int .u32 0, .int .u32 0, .int .u32 0, .int .u32 0, .int .u32 0, .int .u32 0, .int .u32 0, .int .u32 0, .int .u32 0, .int .u32 0, .int .u32 0, .int .u32 0, .int .u32 0, .int .u32 0, .int .u32 0, .int .u32 0, .int .u32 0, .int .u32 0, .int .u32 0, .int .u32 0, .int .u32 0, .int .u32 0, .int .u32 0, .int .u32 0, .int .u32 0, .int .u32 0, .int .u32 0, .int .u32 0, .int .u32 0, .int .u32 0, .int .u32 0, .int .u32 0, .int .u32 0, .int .u32 0, .int .u32 0, .int .u32 0, .int .u32 0, .int .u32 0, .int .u32 0, .int .u32 0])⟩ := by kernel_rfl
theorem aOl : ∃ fn, E.fn 4 = some fn := ⟨_, aQ Tryz.func4 rfl rfl rfl⟩
theorem has9 : ∃ fn, E.fn 9 = some fn := ⟨_, aQ Tryz.func9 rfl rfl rfl⟩
theorem aVk : ∃ fn, E.fn 10 = some fn := ⟨_, aQ Tryz.func10 rfl rfl rfl⟩
theorem aWb : ∃ fn, E.fn 11 = some fn := ⟨_, aQ Tryz.func11 rfl rfl rfl⟩
theorem aGl : ∃ fn, E.fn 32 = some fn := ⟨_, aQ Tryz.func32 rfl rfl rfl⟩
theorem aFo : ∃ fn, E.fn 33 = some fn := ⟨_, aQ Tryz.func33 rfl rfl rfl⟩
theorem aGs : ∃ fn, E.fn 34 = some fn := ⟨_, aQ Tryz.func34 rfl rfl rfl⟩
theorem aVl : ∃ fn, E.fn 35 = some fn := ⟨_, aQ Tryz.func35 rfl rfl rfl⟩
theorem cW : ∃ fn, E.fn 36 = some fn := ⟨_, aQ Tryz.func36 rfl rfl rfl⟩
theorem rT : ∃ fn, E.fn 37 = some fn := ⟨_, aQ Tryz.func37 rfl rfl rfl⟩
theorem has38 : ∃ fn, E.fn 38 = some fn := ⟨_, aQ Tryz.func38 rfl rfl rfl⟩
theorem aVr : ∃ fn, E.fn 39 = some fn := ⟨_, aQ Tryz.func39 rfl rfl rfl⟩
theorem aVx : ∃ fn, E.fn 40 = some fn := ⟨_, aQ Tryz.func40 rfl rfl rfl⟩
theorem has41 : ∃ fn, E.fn 41 = some fn := ⟨_, aQ Tryz.func41 rfl rfl rfl⟩
theorem aCn : ∃ fn, E.fn 42 = some fn := ⟨_, aQ Tryz.func42 rfl rfl rfl⟩
theorem tF : ∃ fn, E.fn 43 = some fn := ⟨_, aQ Tryz.func43 rfl rfl rfl⟩
theorem aGp : ∃ fn, E.fn 54 = some fn := ⟨_, aQ Tryz.func54 rfl rfl rfl⟩
theorem qX : ∃ fn, E.fn 55 = some fn := ⟨_, aQ Tryz.func55 rfl rfl rfl⟩
theorem aKq : ∃ fn, E.fn 56 = some fn := ⟨_, aQ Tryz.func56 rfl rfl rfl⟩
theorem has57 : ∃ fn, E.fn 57 = some fn := ⟨_, aQ Tryz.func57 rfl rfl rfl⟩
theorem mO : ∃ fn, E.fn 62 = some fn := ⟨_, aQ Tryz.func62 rfl rfl rfl⟩
theorem aSk : ∃ fn, E.fn 69 = some fn := ⟨_, aQ Tryz.func69 rfl rfl rfl⟩
theorem aVv : ∃ fn, E.fn 70 = some fn := ⟨_, aQ Tryz.func70 rfl rfl rfl⟩
theorem aKu : ∃ fn, E.fn 71 = some fn := ⟨_, aQ Tryz.func71 rfl rfl rfl⟩
theorem has72 : ∃ fn, E.fn 72 = some fn := ⟨_, aQ Tryz.func72 rfl rfl rfl⟩
theorem aVh : ∃ fn, E.fn 73 = some fn := ⟨_, aQ Tryz.func73 rfl rfl rfl⟩
theorem aVf : ∃ fn, E.fn 74 = some fn := ⟨_, aQ Tryz.func74 rfl rfl rfl⟩
theorem oI : ∃ fn, E.fn 75 = some fn := ⟨_, aQ Tryz.func75 rfl rfl rfl⟩
theorem has76 : ∃ fn, E.fn 76 = some fn := ⟨_, aQ Tryz.func76 rfl rfl rfl⟩
theorem has77 : ∃ fn, E.fn 77 = some fn := ⟨_, aQ Tryz.func77 rfl rfl rfl⟩
theorem has78 : ∃ fn, E.fn 78 = some fn := ⟨_, aQ Tryz.func78 rfl rfl rfl⟩
theorem iZ : ∃ fn, E.fn 79 = some fn := ⟨_, aQ Tryz.func79 rfl rfl rfl⟩
theorem has80 : ∃ fn, E.fn 80 = some fn := ⟨_, aQ Tryz.func80 rfl rfl rfl⟩
theorem aVj : ∃ fn, E.fn 81 = some fn := ⟨_, aQ Tryz.func81 rfl rfl rfl⟩
theorem has82 : ∃ fn, E.fn 82 = some fn := ⟨_, aQ Tryz.func82 rfl rfl rfl⟩
theorem aVs : ∃ fn, E.fn 83 = some fn := ⟨_, aQ Tryz.func83 rfl rfl rfl⟩
theorem aRc : ∃ fn, E.fn 84 = some fn := ⟨_, aQ Tryz.func84 rfl rfl rfl⟩
theorem aHf : ∃ fn, E.fn 86 = some fn := ⟨_, aQ Tryz.func86 rfl rfl rfl⟩
theorem aKg : ∃ fn, E.fn 87 = some fn := ⟨_, aQ Tryz.func87 rfl rfl rfl⟩
theorem has88 : ∃ fn, E.fn 88 = some fn := ⟨_, aQ Tryz.func88 rfl rfl rfl⟩
theorem aSh : ∃ fn, E.fn 96 = some fn := ⟨_, aQ Tryz.func96 rfl rfl rfl⟩
theorem aWy : ∃ fn, E.fn 133 = some fn := ⟨_, aQ Tryz.func133 rfl rfl rfl⟩
theorem aWk : ∃ fn, E.fn 134 = some fn := ⟨_, aQ Tryz.func134 rfl rfl rfl⟩
theorem aOy : ∃ fn, E.fn 136 = some fn := ⟨_, aQ Tryz.func136 rfl rfl rfl⟩
theorem aDu : ∃ fn, E.fn 201 = some fn := ⟨_, aQ Tryz.func201 rfl rfl rfl⟩
theorem aXv : ∃ fn, E.fn 251 = some fn := ⟨_, aQ Tryz.func251 rfl rfl rfl⟩
section
variable {S H0 Hw : AH} {A0 A Aw : Nat → Prop} {L Lw : OL} {K : AQ} {c : Code} {ops op' : Array Oper} {id i : Nat} {f : Fr} {D : Bool} {ms : List Nat}
theorem rA (h : SO E ⟨false, ops, [], S, A0, H0, A, L⟩ 0 ops.toList (fun f H => K .normal f H) f H0 A L) : SX Tryz.prog (.region id ops false) K f S A0 H0 A L := sS (E := E) h
theorem rB (h : SO E ⟨false, ops, [], S, A0, H0, A, L⟩ 0 ops.toList (fun f H => pH Tryz.prog c K .normal f H) f H0 A L) : SX Tryz.prog (.seq (.region id ops false) c) K f S A0 H0 A L := aH (sS (E := E) h)
theorem rC (h : SO E ⟨false, ops, [], S, A0, H0, A, L⟩ 0 ops.toList (fun f H => pH Tryz.prog c K .normal f H) f H0 A L) : SO E ⟨D, op', ms, S, A0, Hw, Aw, Lw⟩ i [] (fun f H => pH Tryz.prog (.seq (.region id ops false) c) K .normal f H) f H0 A L := aB (aH (sS (E := E) h))
theorem rD (h : SO E ⟨false, ops, [], S, A0, H0, A, L⟩ 0 ops.toList (fun f H => K .normal f H) f H0 A L) : SO E ⟨D, op', ms, S, A0, Hw, Aw, Lw⟩ i [] (fun f H => pH Tryz.prog (.region id ops false) K .normal f H) f H0 A L := aB (sS (E := E) h)
end
end Go.Proofs.YteklajiaicmogaaGreatDoor
namespace Go.Proofs.YteklajiaicmogaaGreatDoor
open Go Go.AM
abbrev TB : Nat := 100
theorem aNy {S : AH} {N : Nat} {bv : Value} (hN : S.tr.get N = some (.cells [.pointer none, bv] (TB + dQ) true)) (hlt : N < S.nx) : XCall Tryz.prog 73 [.pointer (some ⟨2 * N + 1, 0, none⟩)] S fun u H' => ∃ Lo, Turned [(N, .cells [.pointer none, bv] (TB + dQ) true)] S H' Lo ∧ (u = .tuple ⟨[]⟩ ∧ Lo = [(N, .cells [.pointer (some ⟨2 * N + 1, 0, none⟩), bv] (TB + dQ) true)]) := by
 refine cX (E := E) (Li := [(N, .cells [.pointer none, bv] (TB + dQ) true)]) (n := 20) (rs := []) (l := [(0, _)]) (aQ Tryz.func73 rfl rfl rfl) (aKi hN hlt) (List.pairwise_singleton _ _) rfl ?_
 refine rB <| om rfl <| nc rfl <| fo 0 aBm aFn rfl <| lG rfl V97 ?_
 refine ob rfl (by exact aJk V97) ?_
 refine aB <| aO rfl <| rA <| om rfl <| om rfl <| aHh rfl rfl nM rfl V97 V182 mI rfl mA (by simp) ?_
 refine aLu (v := .pointer (some ⟨2 * N + 1, 0, none⟩)) rfl rfl nM rfl oV (by kernel_rfl) ?_
 refine aBr rfl rfl nM rfl V182 V97 mI rfl mA rfl rfl ?_
 refine nc rfl <| fo 0 aBm aFn rfl <| dC rfl nM rfl rfl aFn rfl rfl uP (by rfl) (by exact Nat.le_of_ble_eq_true rfl) nM ?_
 refine aZ <| lZ .nil rfl ?_
 exact fun H hH => ⟨_, hH.turned (Gr.refl _ _) ⟨_, List.Mem.head _⟩, rfl, rfl⟩
theorem aTl {S : AH} {N : Nat} {bv : Value} (hN : S.tr.get N = some (.cells [.pointer (some ⟨2 * N + 1, 0, none⟩), bv] (TB + dQ) true)) (hlt : N < S.nx) : XCall Tryz.prog 73 [.pointer (some ⟨2 * N + 1, 0, none⟩)] S fun u H' => ∃ Lo, Turned [(N, .cells [.pointer (some ⟨2 * N + 1, 0, none⟩), bv] (TB + dQ) true)] S H' Lo ∧ (u = .tuple ⟨[]⟩ ∧ Lo = [(N, .cells [.pointer (some ⟨2 * N + 1, 0, none⟩), bv] (TB + dQ) true)]) := by
 refine cX (E := E) (Li := [(N, .cells [.pointer (some ⟨2 * N + 1, 0, none⟩), bv] (TB + dQ) true)]) (n := 20) (rs := []) (l := [(0, _)]) (aQ Tryz.func73 rfl rfl rfl) (aKi hN hlt) (List.pairwise_singleton _ _) rfl ?_
 refine rB <| om rfl <| nc rfl <| fo 0 aBm aFn rfl <| lG rfl V97 ?_
 refine ob rfl (by exact zF V97) ?_
 refine aB <| aG rfl <| rB <| om rfl <| nc rfl <| fo 0 aBm aFn rfl <| lG rfl V97 ?_
 refine om rfl <| ob rfl (by exact aJc V97 mI rfl rfl) ?_
 refine aB <| aG rfl <| aJ <| lZ .nil rfl ?_
 exact fun H hH => ⟨_, hH.turned (Gr.refl _ _) ⟨_, List.Mem.head _⟩, rfl, rfl⟩
theorem aNp {S : AH} {N : Nat} {s : ByteArray} (hs : s.data.toList ≠ []) (hb : s.data.toList.length ≤ 140737488355328) (hN : S.tr.get N = some (.cells [.pointer none, .slice none 0 0] (TB + dQ) true)) (hlt : N < S.nx) : XCall Tryz.prog 36 [.pointer (some ⟨2 * N + 1, 0, none⟩), .string s] S fun u H' => ∃ Lo, Turned [(N, .cells [.pointer none, .slice none 0 0] (TB + dQ) true)] S H' Lo ∧ (u = .tuple ⟨[.int .i64 ((s.data.toList.length : Nat) : Int), .nilIface]⟩ ∧ ∃ M2, Lo = bld TB N M2 (s.data.toList)) := by
 refine cX (E := E) (Li := [(N, .cells [.pointer none, .slice none 0 0] (TB + dQ) true)]) (n := 19) (rs := [.tmp 4, .tmp 5]) (l := [(1, _), (0, _)]) (aQ Tryz.func36 rfl rfl rfl) (aKi hN hlt) (List.pairwise_singleton _ _) rfl ?_
 refine rB <| oa rfl <| oa rfl <| rC <| om rfl <| ot [(N, .cells [.pointer none, .slice none 0 0] (TB + dQ) true)] (fun u Lo => u = .tuple ⟨[]⟩ ∧ Lo = [(N, .cells [.pointer (some ⟨2 * N + 1, 0, none⟩), .slice none 0 0] (TB + dQ) true)]) aVh oV (fun H hH => aNy (hH.own _ mA).1 (hH.own _ mA).2.2.1) ?_
 rintro _ _ ⟨rfl, rfl⟩
 refine rC <| om rfl <| om rfl <| nc rfl <| fo 1 aBm xO rfl <| lG rfl V98 ?_
 refine om rfl <| aJd rfl rfl nM rfl rfl rfl rfl rfl V98 V9 oZ rfl rfl rfl hs hb rfl ?_
 intro M2
 refine nc rfl <| fo 1 aBm xO rfl <| dC rfl nM rfl rfl xO rfl rfl uP (by rfl) (by exact Nat.le_of_ble_eq_true rfl) nM ?_
 refine rC <| om rfl <| dB rfl rfl rfl rfl rfl rfl V9 <| oa rfl <| oa rfl <| aB <| aT <| dX (.tmp rfl (.tmp rfl .nil)) ?_
 refine fun H hH => ⟨_, (hH.perm (List.Perm.swap _ _ _)).turned (Gr.refl _ _) ⟨_, List.Mem.head _⟩, rfl, M2, ?_⟩
 rw [zP hs]
 rfl
theorem aUv {S : AH} {N M : Nat} {s : ByteArray} {bs : List UInt8} (hs : s.data.toList ≠ []) (hb : bs.length + s.data.toList.length ≤ 140737488355328) (hN : S.tr.get N = some (.cells [.pointer (some ⟨2 * N + 1, 0, none⟩), .slice (some ⟨2 * M + 1, 0, none⟩) bs.length bs.length] (TB + dQ) true)) (hlt : N < S.nx) (hM : S.tr.get M = some (.cells (bs.map eN) (dQ + 5) false)) (hlM : M < S.nx) (hne : N ≠ M) : XCall Tryz.prog 36 [.pointer (some ⟨2 * N + 1, 0, none⟩), .string s] S fun u H' => ∃ Lo, Turned [(N, .cells [.pointer (some ⟨2 * N + 1, 0, none⟩), .slice (some ⟨2 * M + 1, 0, none⟩) bs.length bs.length] (TB + dQ) true), (M, .cells (bs.map eN) (dQ + 5) false)] S H' Lo ∧ (u = .tuple ⟨[.int .i64 ((s.data.toList.length : Nat) : Int), .nilIface]⟩ ∧ ∃ M2, Lo = bld TB N M2 (bs ++ s.data.toList)) := by
 refine cX (E := E) (Li := [(N, .cells [.pointer (some ⟨2 * N + 1, 0, none⟩), .slice (some ⟨2 * M + 1, 0, none⟩) bs.length bs.length] (TB + dQ) true), (M, .cells (bs.map eN) (dQ + 5) false)]) (n := 19) (rs := [.tmp 4, .tmp 5]) (l := [(1, _), (0, _)]) (aQ Tryz.func36 rfl rfl rfl) (aVd hN hlt hM hlM) (pw2 hne) rfl ?_
 refine rB <| oa rfl <| oa rfl <| rC <| om rfl <| ot [(N, .cells [.pointer (some ⟨2 * N + 1, 0, none⟩), .slice (some ⟨2 * M + 1, 0, none⟩) bs.length bs.length] (TB + dQ) true)] (fun u Lo => u = .tuple ⟨[]⟩ ∧ Lo = [(N, .cells [.pointer (some ⟨2 * N + 1, 0, none⟩), .slice (some ⟨2 * M + 1, 0, none⟩) bs.length bs.length] (TB + dQ) true)]) aVh oV (fun H hH => aTl (hH.own _ mA).1 (hH.own _ mA).2.2.1) ?_
 rintro _ _ ⟨rfl, rfl⟩
 refine rC <| om rfl <| om rfl <| nc rfl <| fo 1 aBm xO rfl <| lG rfl V98 ?_
 refine om rfl <| aIf rfl rfl nM rfl rfl rfl rfl rfl V98 V9 oZ rfl rfl rfl hs (by repeat (first | exact .zero | apply Rem.succ)) (List.length_map _) hb nM rfl ?_
 intro M2
 refine nc rfl <| fo 1 aBm xO rfl <| dC rfl nM rfl rfl xO rfl rfl uP (by rfl) (by exact Nat.le_of_ble_eq_true rfl) nM ?_
 refine rC <| om rfl <| dB rfl rfl rfl rfl rfl rfl V9 <| oa rfl <| oa rfl <| aB <| aT <| dX (.tmp rfl (.tmp rfl .nil)) ?_
 refine fun H hH => ⟨_, (hH.perm (List.Perm.swap _ _ _)).turned (Gr.refl _ _) ⟨_, List.Mem.head _⟩, rfl, M2, ?_⟩
 rw [zP (by simp [hs]), List.length_append, List.map_append]
 rfl
theorem cV {S : AH} {N M : Nat} {bs : List UInt8} {s : ByteArray} (hs : s.data.toList ≠ []) (hb : bs.length + s.data.toList.length ≤ 140737488355328) (hin : ∀ p ∈ bld TB N M bs, S.tr.get p.1 = some p.2 ∧ p.1 < S.nx) (hd : (bld TB N M bs).Pairwise (fun p q => p.1 ≠ q.1)) :
 XCall Tryz.prog 36 [.pointer (some ⟨2 * N + 1, 0, none⟩), .string s] S fun u H' => ∃ Lo, Turned (bld TB N M bs) S H' Lo ∧ (u = .tuple ⟨[.int .i64 ((s.data.toList.length : Nat) : Int), .nilIface]⟩ ∧ ∃ M2, Lo = bld TB N M2 (bs ++ s.data.toList)) := by
 cases bs with
 | nil =>
  obtain ⟨h1, h2⟩ := hin _ (List.Mem.head _)
  exact aNp hs (by simpa using hb) h1 h2
 | cons b bs =>
  obtain ⟨h1, h2⟩ := hin _ (List.Mem.head _)
  obtain ⟨h3, h4⟩ := hin _ (List.Mem.tail _ (List.Mem.head _))
  rw [bld, List.pairwise_cons] at hd
  exact aUv hs hb h1 h2 h3 h4 (hd.1 _ (List.Mem.head _))
theorem aTi {S : AH} {N M : Nat} {bs : List UInt8} (h0 : bs ≠ []) (hb : bs.length ≤ 1099511627776) (hN : S.tr.get N = some (.cells [.pointer (some ⟨2 * N + 1, 0, none⟩), .slice (some ⟨2 * M + 1, 0, none⟩) bs.length bs.length] (TB + dQ) true)) (hlt : N < S.nx) (hM : S.tr.get M = some (.cells (bs.map eN) (dQ + 5) false)) (hlM : M < S.nx) (hne : N ≠ M) : XCall Tryz.prog 43 [.pointer (some ⟨2 * N + 1, 0, none⟩)] S fun u H' => ∃ Lo, Turned [(N, .cells [.pointer (some ⟨2 * N + 1, 0, none⟩), .slice (some ⟨2 * M + 1, 0, none⟩) bs.length bs.length] (TB + dQ) true), (M, .cells (bs.map eN) (dQ + 5) false)] S H' Lo ∧ (u = .string ⟨⟨bs⟩⟩ ∧ Lo = [(N, .cells [.pointer (some ⟨2 * N + 1, 0, none⟩), .slice (some ⟨2 * M + 1, 0, none⟩) bs.length bs.length] (TB + dQ) true)]) := by
 have hl0 : bs.length ≠ 0 := fun e => h0 (List.eq_nil_of_length_eq_zero e)
 refine cX (E := E) (Li := [(N, .cells [.pointer (some ⟨2 * N + 1, 0, none⟩), .slice (some ⟨2 * M + 1, 0, none⟩) bs.length bs.length] (TB + dQ) true), (M, .cells (bs.map eN) (dQ + 5) false)]) (n := 14) (rs := [.tmp 2]) (l := [(0, _)]) (aQ Tryz.func43 rfl rfl rfl) (aVd hN hlt hM hlM) (pw2 hne) rfl ?_
 refine rB <| oa rfl <| tq <| cC (E := E) mixed [4, 10] _ (show [(N, .cells [.pointer (some ⟨2 * N + 1, 0, none⟩), .slice (some ⟨2 * M + 1, 0, none⟩) bs.length bs.length] (TB + dQ) true)].Sublist _ from sV) (by kernel_rfl) (by kernel_rfl) (by decide) ?_
 refine om rfl <| nc rfl <| fo 1 aBm xO rfl <| lG rfl V98 ?_
 refine aDi rfl rfl (fun _ => mA) rfl rfl rfl hl0 ?_
 refine om rfl <| nc rfl <| fo 1 aBm xO rfl <| lG rfl V98 ?_
 refine ll rfl V98 <| aIe rfl rfl (fun _ => mA) rfl rfl rfl rfl rfl V143 oZ rfl hl0 hb (by repeat (first | exact .zero | apply Rem.succ)) rfl (fun _ => sV) ?_
 refine oa rfl <| aB <| aT <| aE (.tmp rfl .nil) ?_
 exact fun H hH => ⟨_, hH.turned (Gr.refl _ _) ⟨_, List.Mem.head _⟩, rfl, rfl⟩
theorem tL {S : AH} {N M : Nat} {bs : List UInt8} (h0 : bs ≠ []) (hb : bs.length ≤ 1099511627776) (hin : ∀ p ∈ bld TB N M bs, S.tr.get p.1 = some p.2 ∧ p.1 < S.nx) (hd : (bld TB N M bs).Pairwise (fun p q => p.1 ≠ q.1)) :
 XCall Tryz.prog 43 [.pointer (some ⟨2 * N + 1, 0, none⟩)] S fun u H' => ∃ Lo, Turned (bld TB N M bs) S H' Lo ∧ (u = .string ⟨⟨bs⟩⟩) := by
 rw [zP h0] at hin hd ⊢
 obtain ⟨h1, h2⟩ := hin _ (List.Mem.head _)
 obtain ⟨h3, h4⟩ := hin _ (List.Mem.tail _ (List.Mem.head _))
 rw [List.pairwise_cons] at hd
 exact (aTi h0 hb h1 h2 h3 h4 (hd.1 _ (List.Mem.head _))).mono fun v H' _ ⟨Lo, q1, q2, _⟩ => ⟨Lo, q1, q2⟩
end Go.Proofs.YteklajiaicmogaaGreatDoor
namespace Go.Proofs.YteklajiaicmogaaGreatDoor
open Go Go.AM
/-- the varint of a number -/
def aF (n : Nat) : List UInt8 := if n < 128 then [UInt8.ofNat n] else UInt8.ofNat (n % 128 + 128) :: aF (n / 128)
theorem jY {n : Nat} (h : n < 128) : aF n = [UInt8.ofNat n] := by rw [aF, if_pos h]
theorem nZ {n : Nat} (h : 128 ≤ n) : aF n = UInt8.ofNat (n % 128 + 128) :: aF (n / 128) := by rw [aF, if_neg (by omega)]
theorem cQ (n : Nat) : aF n ≠ [] := by
 rw [aF]
 split <;> simp
theorem aEr : ∀ (k n : Nat), n < 128 ^ (k + 1) → (aF n).length ≤ k + 1
 | 0, n, h => by rw [jY (by simpa using h)]; simp
 | k + 1, n, h => by
  rcases Nat.lt_or_ge n 128 with h1 | h1
  ·rw [jY h1]; simp
  ·rw [nZ h1, List.length_cons]
   have := aEr k (n / 128) (by rw [Nat.div_lt_iff_lt_mul (by decide)]; rw [Nat.pow_succ] at h; exact h)
   omega
theorem bU {n : Nat} (h : n < 18446744073709551616) : (aF n).length ≤ 10 := aEr 9 n (Nat.lt_of_lt_of_le h (by decide))
/-- a signed number, folded -/
def zz (n : Int) : Nat := if n < 0 then (-(n + 1)).toNat * 2 + 1 else n.toNat * 2
def bO (n : Int) : List UInt8 := aF (zz n)
def fJ (s : List UInt8) : List UInt8 := aF s.length ++ s
def I64 (n : Int) : Prop := -9223372036854775808 ≤ n ∧ n ≤ 9223372036854775807
theorem aFa {n : Int} (h : I64 n) : zz n < 18446744073709551616 := by
 unfold I64 at h
 unfold zz
 split <;> omega
theorem mF (n : Int) : bO n ≠ [] := cQ _
theorem jJ {n : Int} (h : I64 n) : (bO n).length ≤ 10 := bU (aFa h)
theorem aBg (n : Int) : IntKind.u64.wrap n = n % 18446744073709551616 := rfl
theorem aJw {k : IntKind} {a b c : Int} {j : Nat} (hj : min b.toNat k.bits = j) (h : k.wrap (a * 2 ^ j) = c) : k.wrap (a * 2 ^ (min b.toNat k.bits)) = c := by rw [hj]; exact h
theorem aDp : ∀ (n c : Nat), c < 2 ^ n → (2 ^ n - 1) ^^^ c = 2 ^ n - 1 - c := by
 intro n c h
 apply Nat.eq_of_testBit_eq
 intro i
 rw [Nat.testBit_xor, Nat.testBit_two_pow_sub_one, show 2 ^ n - 1 - c = 2 ^ n - (c + 1) by omega, Nat.testBit_two_pow_sub_succ h]
 by_cases hi : i < n
 ·simp [hi]
 ·have : c.testBit i = false := Nat.testBit_lt_two_pow (Nat.lt_of_lt_of_le h (Nat.pow_le_pow_right (by decide) (by omega)))
  simp [hi, this]
theorem aUq {a : Int} (h0 : 0 ≤ a) (h1 : a < 18446744073709551616) : bits .xor .u64 IntKind.u64.max a = 18446744073709551615 - a := by
 obtain ⟨c, rfl⟩ := Int.eq_ofNat_of_zero_le h0
 have hc : c < 2 ^ 64 := by omega
 rw [show IntKind.u64.max = ((18446744073709551615 : Nat) : Int) from rfl, gD .u64 64 (by decide) dH _ _ (by decide) hc, show (18446744073709551615 : Nat) = 2 ^ 64 - 1 from rfl, aDp 64 c hc]
 omega
theorem not_u32 {a : Int} (h0 : 0 ≤ a) (h1 : a < 4294967296) : bits .xor .u32 IntKind.u32.max a = 4294967295 - a := by
 obtain ⟨c, rfl⟩ := Int.eq_ofNat_of_zero_le h0
 have hc : c < 2 ^ 32 := by omega
 rw [show IntKind.u32.max = ((4294967295 : Nat) : Int) from rfl, gD .u32 32 (by decide) fW _ _ (by decide) hc, show (4294967295 : Nat) = 2 ^ 32 - 1 from rfl, aDp 32 c hc]
 omega
/-- a byte with its high bit set -/
theorem aVi (n : Nat) : bits .or .u8 ((n % 256 : Nat) : Int) 128 = (((UInt8.ofNat (n % 128 + 128)).toNat : Nat) : Int) := by
 have h : ∀ m : Nat, m < 256 → m ||| 128 = m % 128 + 128 := by decide
 rw [show (128 : Int) = ((128 : Nat) : Int) from rfl, (bits_nat .u8 8 (by decide) wQ (n % 256) 128 (by omega) (by decide)).2, h _ (by omega)]
 congr 1
 rw [UInt8.toNat_ofNat']
 omega
/-- a row of bytes that grows -/
def tE (M : Nat) : List UInt8 → OL
 | [] => []
 | b :: bs => [(M, .cells ((b :: bs).map eN) 1 false)]
def bsl (M : Nat) : List UInt8 → Value
 | [] => .slice none 0 0
 | b :: bs => .slice (some ⟨2 * M + 1, 0, none⟩) (b :: bs).length (b :: bs).length
theorem pI {M : Nat} {bs : List UInt8} (h : bs ≠ []) : tE M bs = [(M, .cells (bs.map eN) 1 false)] := by
 cases bs with
 | nil => exact absurd rfl h
 | cons b bs => rfl
theorem rV {M : Nat} {bs : List UInt8} (h : bs ≠ []) : bsl M bs = .slice (some ⟨2 * M + 1, 0, none⟩) bs.length bs.length := by
 cases bs with
 | nil => exact absurd rfl h
 | cons b bs => rfl
theorem aAc {M : Nat} {bs : List UInt8} {b : UInt8} : bsl M (bs ++ [b]) = .slice (some ⟨2 * M + 1, 0, none⟩) (bs.length + 1) (bs.length + 1) := by rw [rV (by simp)]; simp
theorem sN {M : Nat} {bs : List UInt8} {b : UInt8} : tE M (bs ++ [b]) = [(M, .cells (bs.map eN ++ [eN b]) 1 false)] := by rw [pI (by simp)]; simp
theorem aJt {S : AH} {n : Int} (hn : I64 n) : XCall Tryz.prog 136 [.int .i64 n] S fun v H' => v = .int .u64 (zz n : Int) ∧ Kept S.nx S H' := by
 obtain ⟨hn0, hn1⟩ := hn
 refine bN (E := E) (n := 12) (rs := [.tmp 2]) (l := [(0, _)]) (aQ Tryz.func136 rfl rfl rfl) (A0 := fun _ => False) (fun j h => h.elim) rfl ?_
 refine rB <| oa rfl <| tq <| aH ?_
 rcases Int.lt_or_le n 0 with h | h
 ·refine rA <| om rfl <| ob rfl (by exact aX (by omega)) ?_
  refine aB <| aO rfl <| rB <| om rfl <| cE rfl rfl rfl V3 V65 (b := n + 18446744073709551616) (by rw [aBg]; omega) ?_
  refine ob rfl (by exact wF (c := 2 * n + 18446744073709551616) (by decide) (aJw (j := 1) rfl (by rw [aBg]; omega))) ?_
  refine aGa rfl rfl rfl (show aun .xor (.int .u64 (2 * n + 18446744073709551616)) = some (.int .u64 (zz n : Int)) by simp only [aun]; rw [show (if IntKind.u64.signed = true then (-1 : Int) else IntKind.u64.max) = IntKind.u64.max from rfl, aUq (by omega) (by omega)]; congr 2; unfold zz; rw [if_pos h]; omega) ?_
  refine oa rfl <| aB <| aT <| aP <| aE (.tmp rfl .nil) ?_
  exact fun H hH => ⟨rfl, hH.kept⟩
 ·refine rA <| om rfl <| ob rfl (by exact aW (by omega)) ?_
  refine aB <| aG rfl <| aJ <| aD <| rB <| om rfl <| cE rfl rfl rfl V3 V65 (b := n) (by rw [aBg]; omega) ?_
  refine ob rfl (by exact wF (c := (zz n : Int)) (by decide) (aJw (j := 1) rfl (by rw [aBg]; unfold zz; rw [if_neg (by omega)]; omega))) ?_
  refine oa rfl <| aB <| aT <| aE (.tmp rfl .nil) ?_
  exact fun H hH => ⟨rfl, hH.kept⟩
set_option maxHeartbeats 1000000 in
theorem aDz {S : AH} {M n : Nat} {bs : List UInt8} (hn : n < 18446744073709551616) (hb : bs.length ≤ 1099511627776) (hin : ∀ p ∈ tE M bs, S.tr.get p.1 = some p.2 ∧ p.1 < S.nx) : XCall Tryz.prog 84 [bsl M bs, .int .u64 (n : Int)] S fun u H' => ∃ Lo, Turned (tE M bs) S H' Lo ∧ ∃ M2, u = bsl M2 (bs ++ aF n) ∧ Lo = tE M2 (bs ++ aF n) := by
 refine cX (E := E) (Li := tE M bs) (n := 20) (rs := [.tmp 4]) (l := [(1, _), (0, _)]) (aQ Tryz.func84 rfl rfl rfl) hin (by cases bs with | nil => exact List.Pairwise.nil | cons b bs => exact List.pairwise_singleton _ _) rfl ?_
 refine rB <| oa rfl <| tq <| aK ?_
 refine bK (σ := Nat × List UInt8 × Nat) (fun x => x.2.2) (fun x => [(0, bsl x.1 x.2.1), (1, .int .u64 (x.2.2 : Int))]) (fun _ => S) (fun _ => fY S (tE M bs)) (fun x => tE x.1 x.2.1) (fun x => x.2.1 ++ aF x.2.2 = bs ++ aF n ∧ x.2.2 < 18446744073709551616 ∧ x.2.1.length ≤ 1099511627776 + 10) ((M, bs, n)) (⟨rfl, hn, (show bs.length ≤ _ by omega)⟩) pK rfl rfl (List.Sublist.refl _) ?_
 intro st hJ2 t1
 obtain ⟨M1, done, k⟩ := st
 obtain ⟨hJ1, hJ2, hJ3⟩ := hJ2
 dsimp only at hJ1 hJ2 hJ3 ⊢
 refine aH <| aH ?_
 rcases Nat.lt_or_ge k 128 with hk | hk
 ·refine rA <| om rfl <| ob rfl (by exact kF (by omega)) ?_
  refine aB <| aG rfl <| bJ <| aR <| aS <| aN <| aD <| aH ?_
  rcases done with _ | ⟨b, ds⟩
  ·refine rA <| om rfl <| om rfl <| cE rfl rfl rfl V65 V5 (oS _) ?_
   refine aM (out := [eN (UInt8.ofNat k)]) rfl rfl nM oP V98 oZ rfl rfl (by kernel_rfl) rfl rfl ?_
   intro N18
   refine wV (m := 1) (base := none) (sl := 0) (old := []) rfl rfl nM rfl rfl rfl rfl rfl V98 V98 (by rfl) oZ rfl rfl (by decide) rfl (by decide) (eL (List.Mem.head _) rfl) (.inl ⟨rfl, rfl, rfl⟩) (by rfl) (by decide) rfl rfl ?_
   intro M2
   refine oa rfl <| aB <| aT <| aE (.tmp rfl .nil) ?_
   refine fun H hH => ⟨_, (hH.subl (List.Sublist.cons_cons _ (List.nil_sublist _))).turned (Gr.refl _ _) ⟨_, List.Mem.head _⟩, M2, ?_, ?_⟩
   ·rw [← hJ1, jY hk, aAc]; try rfl
   ·rw [← hJ1, jY hk, sN]; try rfl
  ·refine rA <| om rfl <| om rfl <| cE rfl rfl rfl V65 V5 (oS _) ?_
   refine aM (out := [eN (UInt8.ofNat k)]) rfl rfl nM oP V98 oZ rfl rfl (by kernel_rfl) rfl rfl ?_
   intro N18
   refine wT (m := 1) rfl rfl nM rfl rfl rfl rfl rfl V98 V98 (by rfl) oZ rfl rfl (by decide) rfl (by decide) (eL (List.Mem.head _) rfl) (.succ .zero) (by simp) rfl (pL (by simp only [List.length_cons] at hJ3 ⊢; omega)) (by simp only [List.length_cons] at hJ3 ⊢; omega) rfl nM rfl ?_
   intro M2
   refine oa rfl <| aB <| aT <| aE (.tmp rfl .nil) ?_
   refine fun H hH => ⟨_, (hH.subl (List.Sublist.cons_cons _ (List.nil_sublist _))).turned (Gr.refl _ _) ⟨_, List.Mem.head _⟩, M2, ?_, ?_⟩
   ·rw [← hJ1, jY hk, aAc]; try rfl
   ·rw [← hJ1, jY hk, sN]; try rfl
 ·have hL : done.length < 1099511627776 + 10 := by
   have h1 := congrArg List.length hJ1
   have h2 := bU hn
   have h3 : 1 ≤ (aF k).length := List.length_pos_iff.2 (cQ k)
   simp only [List.length_append] at h1
   omega
  refine rA <| om rfl <| ob rfl (by exact eM (by omega)) ?_
  refine aB <| aO rfl <| aJ <| aD <| aK <| aH ?_
  rcases done with _ | ⟨b, ds⟩
  ·refine rA <| om rfl <| om rfl <| cE rfl rfl rfl V65 V5 (mU _) ?_
   refine ob rfl (by exact wM (aVi k)) ?_
   refine aM (out := [eN (UInt8.ofNat (k % 128 + 128))]) rfl rfl nM oP V98 oZ rfl rfl (by kernel_rfl) rfl rfl ?_
   intro N11
   refine wV (m := 1) (base := none) (sl := 0) (old := []) rfl rfl nM rfl rfl rfl rfl rfl V98 V98 (by rfl) oZ rfl rfl (by decide) rfl (by decide) (eL (List.Mem.head _) rfl) (.inl ⟨rfl, rfl, rfl⟩) (by rfl) (by decide) rfl rfl ?_
   intro M2
   refine oa rfl <| rD <| om rfl <| ob rfl (by exact kA (by decide) (jV (j := 7) rfl)) ?_
   refine oa rfl <| aZ <| bA ?_
   refine cN (M2, [] ++ [UInt8.ofNat (k % 128 + 128)], k / 128) (show k / 128 < k by omega) ⟨by rw [← hJ1, nZ hk]; simp, (show k / 128 < 18446744073709551616 by omega), by simp only [List.length_append, List.length_cons, List.length_nil] at hL ⊢; omega⟩ pK rfl rfl ?_
   rw [sN]
   exact sV
  ·refine rA <| om rfl <| om rfl <| cE rfl rfl rfl V65 V5 (mU _) ?_
   refine ob rfl (by exact wM (aVi k)) ?_
   refine aM (out := [eN (UInt8.ofNat (k % 128 + 128))]) rfl rfl nM oP V98 oZ rfl rfl (by kernel_rfl) rfl rfl ?_
   intro N11
   refine wT (m := 1) rfl rfl nM rfl rfl rfl rfl rfl V98 V98 (by rfl) oZ rfl rfl (by decide) rfl (by decide) (eL (List.Mem.head _) rfl) (.succ .zero) (by simp) rfl (pL (by simp only [List.length_cons] at hJ3 ⊢; omega)) (by simp only [List.length_cons] at hJ3 ⊢; omega) rfl nM rfl ?_
   intro M2
   refine oa rfl <| rD <| om rfl <| ob rfl (by exact kA (by decide) (jV (j := 7) rfl)) ?_
   refine oa rfl <| aZ <| bA ?_
   refine cN (M2, (b :: ds) ++ [UInt8.ofNat (k % 128 + 128)], k / 128) (show k / 128 < k by omega) ⟨by rw [← hJ1, nZ hk]; simp, (show k / 128 < 18446744073709551616 by omega), by simp only [List.length_append, List.length_cons, List.length_nil] at hL ⊢; omega⟩ (by repeat (first | exact .nil | refine .cons (by first | rfl | (rw [aAc]; rfl)) ?_)) rfl rfl ?_
   rw [sN]
   exact sV
theorem sK {S : AH} {n : Nat} (hn : n < 18446744073709551616) : XCall Tryz.prog 42 [.int .u64 (n : Int)] S fun v H' => v = .string ⟨⟨aF n⟩⟩ ∧ Kept S.nx S H' := by
 refine bN (E := E) (n := 6) (rs := [.tmp 2]) (l := [(0, _)]) (aQ Tryz.func42 rfl rfl rfl) (A0 := fun _ => False) (fun j h => h.elim) rfl ?_
 refine rB <| oa rfl <| rC <| om rfl <| ot (tE 0 []) (fun u Lo => ∃ M2, u = bsl M2 ([] ++ aF n) ∧ Lo = tE M2 ([] ++ aF n)) aRc oV (fun H hH => aDz (M := 0) (bs := []) hn (by decide) (fun p hp => by cases hp)) ?_
 rintro _ _ ⟨M2, rfl, rfl⟩
 rw [List.nil_append, rV (cQ _), pI (cQ _)]
 refine lW rfl rfl nM rfl V98 V5 V9 mA (List.length_map _) (kG _) ?_
 refine oa rfl <| aB <| aT <| aE (.tmp rfl .nil) ?_
 exact fun H hH => ⟨rfl, hH.kept⟩
theorem aRe {S : AH} {n : Int} (hn : I64 n) : XCall Tryz.prog 74 [.int .i64 n] S fun v H' => v = .string ⟨⟨bO n⟩⟩ ∧ Kept S.nx S H' := by
 refine bN (E := E) (n := 6) (rs := [.tmp 2]) (l := [(0, _)]) (aQ Tryz.func74 rfl rfl rfl) (A0 := fun _ => False) (fun j h => h.elim) rfl ?_
 refine rB <| oa rfl <| rC <| om rfl <| oc aOy oV (fun H hH => aJt hn) ?_
 refine oc aCn oV (fun H hH => sK (aFa hn)) ?_
 refine oa rfl <| aB <| aT <| aE (.tmp rfl .nil) ?_
 exact fun H hH => ⟨rfl, hH.kept⟩
theorem vQ {S : AH} {s : ByteArray} (hs : s.data.toList.length ≤ 1099511627776) : XCall Tryz.prog 34 [.string s] S fun v H' => v = .string ⟨⟨fJ s.data.toList⟩⟩ ∧ Kept S.nx S H' := by
 refine bN (E := E) (n := 9) (rs := [.tmp 2]) (l := [(0, _)]) (aQ Tryz.func34 rfl rfl rfl) (A0 := fun _ => False) (fun j h => h.elim) rfl ?_
 refine rB <| oa rfl <| rC <| om rfl <| dB rfl rfl rfl rfl rfl rfl V9 <| cE rfl rfl rfl V3 V65 (dH _ (by omega) (by omega)) ?_
 refine oc aCn oV (fun H hH => sK (by omega)) ?_
 refine om rfl <| ob rfl (by exact bE (show (aF s.data.toList.length).length + s.data.toList.length ≤ _ by have := bU (n := s.data.toList.length) (by omega); omega) rfl) ?_
 refine oa rfl <| aB <| aT <| aE (.tmp rfl .nil) ?_
 exact fun H hH => ⟨rfl, hH.kept⟩
theorem aMy {n : Int} (h : (Lit.int .i64 n).wf = true) : I64 n := by
 simp only [Lit.wf, Bool.and_eq_true, decide_eq_true_eq] at h
 exact h
theorem yY {n : Int} (h : I64 n) : (Lit.int .i64 n).wf = true := by
 simp only [Lit.wf, Bool.and_eq_true, decide_eq_true_eq]
 exact h
def gY : List CT → Int
 | .v (.int _ n) :: _ => n
 | _ => 0
/-- numbers, one behind the other -/
def eJ (l : List (List CT)) : List UInt8 := l.flatMap fun c => bO (gY c)
theorem tB {A : Nat → Prop} {H : AH} {xs : List Value} {c : List CT} (h : CellsA A H [.int .i64] xs c) : ∃ n, xs = [.int .i64 n] ∧ c = [.v (.int .i64 n)] ∧ I64 n := by
 obtain ⟨h1, h2⟩ := h.len
 match xs, c, h1, h2, h with
 | [x], [d], _, _, h =>
  simp only [CellsA] at h
  obtain ⟨n, rfl, rfl, hw⟩ := h.1.int
  exact ⟨n, rfl, rfl, aMy hw⟩
theorem hG {α : Type} {l : List α} {k : Nat} {c : α} (h : l[k]? = some c) : l.take (k + 1) = l.take k ++ [c] := by
 obtain ⟨hk, rfl⟩ := List.getElem?_eq_some_iff.1 h
 exact List.take_succ_eq_append_getElem hk
theorem mX {l : List (List CT)} {k : Nat} {c : List CT} (h : l[k]? = some c) : eJ (l.take k) ++ bO (gY c) = eJ (l.take (k + 1)) := by
 rw [hG h, eJ, eJ, List.flatMap_append]; simp
theorem rU {l : List (List CT)} (h : ∀ c ∈ l, I64 (gY c)) : (eJ l).length ≤ 10 * l.length := by
 induction l with
 | nil => simp [eJ]
 | cons c l ih =>
  have h1 := ih fun d hd => h d (List.mem_cons_of_mem _ hd)
  have h2 := jJ (h c (List.mem_cons_self ..))
  simp only [eJ, List.flatMap_cons, List.length_append, List.length_cons] at h1 ⊢
  omega
theorem oM {l : List (List CT)} (h : ∀ c ∈ l, I64 (gY c)) (k : Nat) : (eJ (l.take k)).length ≤ 10 * l.length := by
 have h1 := rU (l := l.take k) fun c hc => h c (List.mem_of_mem_take hc)
 have h2 : (l.take k).length ≤ l.length := by rw [List.length_take]; omega
 omega
theorem encL_ne {l : List (List CT)} {k : Nat} (h : k < l.length) : eJ (l.take (k + 1)) ≠ [] := by
 rw [← mX (List.getElem?_eq_getElem h)]
 simp [mF]
theorem sR {A : Nat → Prop} {H : AH} {b : Nat} {l : List (List CT)} {a : Option Addr} {cap : Nat} (h : RowD A H b [.int .i64] l a cap) : ∀ c ∈ l, I64 (gY c) := fun c hc => by
 obtain ⟨i, hi, rfl⟩ := List.getElem_of_mem hc
 obtain ⟨p, xs, d, _, _, h1, _, h2⟩ := h.at' i hi
 obtain ⟨n, rfl, rfl, hn⟩ := tB h2
 have e : l[i] = [.v (.int .i64 n)] := by rw [List.getElem?_eq_getElem hi] at h1; exact Option.some.inj h1
 rw [e]
 exact hn
def hU (ns : List Int) : List (List CT) := ns.map fun n => [.v (.int .i64 n)]
theorem lV (ns : List Int) : eJ (hU ns) = ns.flatMap bO := by
 simp only [eJ, hU, List.flatMap_map]; rfl
theorem rS {A : Nat → Prop} {H : AH} {N : Nat} {ex : Bool} {ns : List Int} {cs : List Value} (hc : cs = ns.map (.int .i64)) (hg : H.tr.get N = some (.cells cs 1 ex)) (hA : A N) (hw : ∀ n ∈ ns, I64 n) (hl : ns.length ≤ 1000) {m : Nat} (hm : m = ns.length) :
 CellA A H (.row 8 [.int .i64]) (.slice (some ⟨2 * N + 1, 0, none⟩) m m) (.row (hU ns)) := by
 subst hc
 have e : (hU ns).length = ns.length := by simp [hU]
 refine wC hg hA rfl (hm.trans e.symm) (by rw [e]; simp) (fun i c hi => ?_) (by rw [e, hm]; exact Nat.le_refl _) (by rw [e]; omega) (by rw [e]; omega)
 rw [hU, List.getElem?_map] at hi
 cases hj : ns[i]? with
 | none => rw [hj] at hi; simp at hi
 | some u =>
  rw [hj] at hi
  simp at hi
  subst hi
  have e2 : ((ns.map (Value.int .i64)).drop (i * 1)).take 1 = [.int .i64 u] := by
   rw [Nat.mul_one]
   apply List.ext_getElem?
   intro k
   cases k with
   | zero => simp [List.getElem?_take, List.getElem?_drop, hj]
   | succ k => simp [List.getElem?_take]
  rw [e2]
  simp only [CellsA, CellA]
  exact ⟨⟨trivial, u, rfl, yY (hw u (List.mem_of_getElem? hj))⟩, trivial⟩
set_option maxHeartbeats 1000000 in
theorem aUp {S : AH} {A : Nat → Prop} (hA : ∀ j, A j → j < S.nx) {x : Value} {l : List (List CT)} (hx : CellA A S (.row 8 [.int .i64]) x (.row l)) (hl : l.length ≤ 1073741824) : XCall Tryz.prog 77 [x] S fun v H' => v = .string ⟨⟨aF l.length ++ eJ l⟩⟩ ∧ Kept S.nx S H' := by
 obtain ⟨l2, ax, cx, e2, rfl, rx⟩ := hx.rowD
 cases e2
 have hb := rx.len
 have h64 := sR rx
 refine bN (E := E) (n := 23) (rs := [.tmp 2]) (l := [(0, _)]) (aQ Tryz.func77 rfl rfl rfl) hA rfl ?_
 refine rB <| oa rfl <| rC <| om rfl <| ll rfl V22 <| cE rfl rfl rfl V3 V65 (dH _ (by omega) (by omega)) ?_
 refine ot (tE 0 []) (fun u Lo => ∃ M2, u = bsl M2 ([] ++ aF l.length) ∧ Lo = tE M2 ([] ++ aF l.length)) aRc oV (fun H hH => aDz (M := 0) (bs := []) (by omega) (by decide) (fun p hp => by cases hp)) ?_
 rintro _ _ ⟨M2, rfl, rfl⟩
 rw [List.nil_append, rV (cQ _), pI (cQ _)]
 refine oa rfl <| tq <| rB <| om rfl <| ll rfl V22 <| om rfl <| aB <| aK ?_
 have e0 : aF l.length ++ eJ (l.take 0) = aF l.length := by simp [eJ]
 refine bK (σ := Nat × Nat) (fun x => l.length - x.2) (fun x => [(3, bsl x.1 (aF l.length ++ eJ (l.take x.2))), (10, .slice ax l.length cx), (11, .int .i64 ((l.length : Nat) : Int)), (12, .int .i64 ((x.2 : Nat) : Int))]) (fun _ => S) (fun _ => A) (fun x => tE x.1 (aF l.length ++ eJ (l.take x.2))) (fun x => x.2 ≤ l.length) ((M2, 0)) ((Nat.zero_le _)) (by repeat (first | exact .nil | refine .cons (by first | rfl | (show _ = some (bsl M2 (aF l.length ++ eJ (l.take 0))); rw [e0, rV (cQ _)]; rfl)) ?_)) rfl rfl (by show List.Sublist (tE M2 (aF l.length ++ eJ (l.take 0))) _; rw [e0, pI (cQ _)]; exact List.sublist_append_left _ _) ?_
 intro st hJ2 t1
 obtain ⟨M1, k⟩ := st
 dsimp only at hJ2 ⊢
 have hlen : (aF l.length ++ eJ (l.take k)).length ≤ 1099511627776 := by
  have h1 := oM h64 k
  have h2 := bU (n := l.length) (by omega)
  rw [List.length_append]; omega
 refine aH ?_
 rcases Nat.lt_or_ge k l.length with hk | hk
 ·obtain ⟨qx, us, d, eqx, ix, hc, lx, kx⟩ := rx.at' k hk
  cases eqx
  obtain ⟨n, rfl, rfl, hn⟩ := tB kx
  obtain ⟨x0, ex0, lx1⟩ := dW lx
  cases ex0
  refine rA <| ob rfl (by exact aX (by omega)) ?_
  refine tq <| aO rfl <| aJ <| aD <| aH <| aK <| rB <| bH rfl rfl rfl rfl V22 aI rfl (by omega) ?_
  refine aV rfl rfl rfl (by exact cU V3 rfl (InA.add ix) lx1) ?_
  refine oa rfl <| rD <| om rfl <| om rfl <| oc aOy oV (fun H hH => aJt hn) ?_
  refine ot (tE M1 (aF l.length ++ eJ (l.take k))) (fun u Lo => ∃ M2, u = bsl M2 ((aF l.length ++ eJ (l.take k)) ++ aF (zz n)) ∧ Lo = tE M2 ((aF l.length ++ eJ (l.take k)) ++ aF (zz n))) aRc oV (fun H hH => aDz (aFa hn) hlen (hH.have fun p hp => hp)) ?_
  rintro _ _ ⟨M2, rfl, rfl⟩
  rw [show (aF l.length ++ eJ (l.take k)) ++ aF (zz n) = aF l.length ++ eJ (l.take (k + 1)) by rw [List.append_assoc]; exact congrArg _ (mX hc)]
  refine oa rfl <| aZ <| bA <| aD <| rA <| ob rfl (by exact aY (by omega)) ?_
  refine om rfl <| aZ ?_
  refine rd' (M2, k + 1) (show l.length - (k + 1) < l.length - k by omega) (show k + 1 ≤ l.length by omega)
 ·obtain rfl : k = l.length := by omega
  rw [List.take_length]
  have hne : aF l.length ++ eJ l ≠ [] := by simp [cQ]
  rw [rV hne, pI hne]
  refine rA <| ob rfl (by exact aW (by omega)) ?_
  refine tq <| aG rfl <| bJ <| aR <| aS <| aN <| aD <| rB <| om rfl <| lW rfl rfl nM rfl V98 V5 V9 mA (List.length_map _) (kG _) ?_
  refine oa rfl <| aB <| aT <| aE (.tmp rfl .nil) ?_
  exact fun H hH => ⟨rfl, hH.kept⟩
end Go.Proofs.YteklajiaicmogaaGreatDoor
namespace Go.Proofs.YteklajiaicmogaaGreatDoor
open Go Go.AM
theorem uX : cI E 100 = TB + dQ := by kernel_rfl
def aIt : List CT → Bool
 | .v (.bool b) :: _ => b
 | _ => false
def iJ (b : Bool) : List UInt8 := aF (if b = true then 1 else 0)
def iD (l : List (List CT)) : List UInt8 := l.flatMap fun c => iJ (aIt c)
theorem bool1 {A : Nat → Prop} {H : AH} {xs : List Value} {c : List CT} (h : CellsA A H [.bool] xs c) : ∃ n, xs = [.bool n] ∧ c = [.v (.bool n)] := by
 obtain ⟨h1, h2⟩ := h.len
 match xs, c, h1, h2, h with
 | [x], [d], _, _, h =>
  simp only [CellsA] at h
  obtain ⟨n, rfl, rfl⟩ := h.1.bool
  exact ⟨n, rfl, rfl⟩
theorem aAe {l : List (List CT)} {k : Nat} {c : List CT} (h : l[k]? = some c) : iD (l.take k) ++ iJ (aIt c) = iD (l.take (k + 1)) := by
 rw [hG h, iD, iD, List.flatMap_append]; simp
theorem vA (b : Bool) : (iJ b).length ≤ 10 := bU (by split <;> decide)
theorem vM (b : Bool) : iJ b ≠ [] := cQ _
theorem xE (l : List (List CT)) : (iD l).length ≤ 10 * l.length := by
 induction l with
 | nil => simp [iD]
 | cons c l ih =>
  have h2 := vA (aIt c)
  simp only [iD, List.flatMap_cons, List.length_append, List.length_cons] at ih ⊢
  omega
theorem zG (l : List (List CT)) (k : Nat) : (iD (l.take k)).length ≤ 10 * l.length := by
 have h1 := xE (l.take k)
 have h2 : (l.take k).length ≤ l.length := by rw [List.length_take]; omega
 omega
theorem aOc {l : List (List CT)} (h : l ≠ []) : iD l ≠ [] := by
 cases l with
 | nil => exact absurd rfl h
 | cons c l => simp [iD, vM]
theorem aHk {l : List (List CT)} (h : l ≠ []) : eJ l ≠ [] := by
 cases l with
 | nil => exact absurd rfl h
 | cons c l => simp [eJ, mF]
def tM (bs : List Bool) : List (List CT) := bs.map fun b => [.v (.bool b)]
theorem xM (bs : List Bool) : iD (tM bs) = bs.flatMap iJ := by
 simp only [iD, tM, List.flatMap_map]; rfl
theorem aLx {A : Nat → Prop} {H : AH} {N : Nat} {ex : Bool} {ns : List Bool} {cs : List Value} (hc : cs = ns.map .bool) (hg : H.tr.get N = some (.cells cs 1 ex)) (hA : A N) (hl : ns.length ≤ 1000) {m : Nat} (hm : m = ns.length) :
 CellA A H (.row 1 [.bool]) (.slice (some ⟨2 * N + 1, 0, none⟩) m m) (.row (tM ns)) := by
 subst hc
 have e : (tM ns).length = ns.length := by simp [tM]
 refine wC hg hA rfl (hm.trans e.symm) (by rw [e]; simp) (fun i c hi => ?_) (by rw [e, hm]; exact Nat.le_refl _) (by rw [e]; omega) (by rw [e]; omega)
 rw [tM, List.getElem?_map] at hi
 cases hj : ns[i]? with
 | none => rw [hj] at hi; simp at hi
 | some u =>
  rw [hj] at hi
  simp at hi
  subst hi
  have e2 : ((ns.map Value.bool).drop (i * 1)).take 1 = [.bool u] := by
   rw [Nat.mul_one]
   apply List.ext_getElem?
   intro k
   cases k with
   | zero => simp [List.getElem?_take, List.getElem?_drop, hj]
   | succ k => simp [List.getElem?_take]
  rw [e2]
  simp only [CellsA, CellA]
  exact ⟨⟨trivial, u, rfl⟩, trivial⟩
set_option maxHeartbeats 1000000 in
theorem aIi {S : AH} {A : Nat → Prop} (hA : ∀ j, A j → j < S.nx) {x : Value} {l : List (List CT)} (hx : CellA A S (.row 8 [.int .i64]) x (.row l)) (h0 : l ≠ []) (hl : l.length ≤ 1073741824) : XCall Tryz.prog 75 [x] S fun v H' => v = .string ⟨⟨eJ l⟩⟩ ∧ Kept S.nx S H' := by
 obtain ⟨l2, ax, cx, e2, rfl, rx⟩ := hx.rowD
 cases e2
 have hb := rx.len
 have h64 := sR rx
 refine bN (E := E) (n := 17) (rs := [.tmp 2]) (l := [(0, _)]) (aQ Tryz.func75 rfl rfl rfl) hA rfl ?_
 refine rB <| oa rfl <| rC <| bR (cs := [.pointer none, .slice none 0 0]) rfl rfl nM mI rfl rfl ?_
 intro N3
 rw [uX]
 refine tq <| rB <| om rfl <| ll rfl V22 <| om rfl <| aB <| aK ?_
 refine bK (σ := Nat × Nat) (fun x => l.length - x.2) (fun x => [(3, .pointer (some ⟨2 * N3 + 1, 0, none⟩)), (6, .slice ax l.length cx), (7, .int .i64 ((l.length : Nat) : Int)), (8, .int .i64 ((x.2 : Nat) : Int))]) (fun _ => S) (fun _ => A) (fun x => bld TB N3 x.1 (eJ (l.take x.2))) (fun x => x.2 ≤ l.length) ((0, 0)) ((Nat.zero_le _)) pK rfl rfl (List.Sublist.refl _) ?_
 intro st hJ2 t1
 obtain ⟨M1, k⟩ := st
 dsimp only at hJ2 ⊢
 refine aH ?_
 rcases Nat.lt_or_ge k l.length with hk | hk
 ·obtain ⟨qx, us, d, eqx, ix, hc, lx, kx⟩ := rx.at' k hk
  cases eqx
  obtain ⟨n, rfl, rfl, hn⟩ := tB kx
  obtain ⟨x0, ex0, lx1⟩ := dW lx
  cases ex0
  refine rA <| ob rfl (by exact aX (by omega)) ?_
  refine tq <| aO rfl <| aJ <| aD <| aH <| aK <| rB <| bH rfl rfl rfl rfl V22 aI rfl (by omega) ?_
  refine aV rfl rfl rfl (by exact cU V3 rfl (InA.add ix) lx1) ?_
  refine oa rfl <| rD <| om rfl <| oc aVf oV (fun H hH => aRe hn) ?_
  refine ot (bld TB N3 M1 (eJ (l.take k))) (fun u Lo => u = .tuple ⟨[.int .i64 (((bO n).length : Nat) : Int), .nilIface]⟩ ∧ ∃ M2, Lo = bld TB N3 M2 (eJ (l.take k) ++ bO n)) cW oV (fun H hH => cV (s := ⟨⟨bO n⟩⟩) (mF n) (by have h1 := oM h64 k; have h2 := jJ hn; show (eJ (l.take k)).length + (bO n).length ≤ _; omega) (hH.have fun p hp => by repeat (first | exact hp | exact List.mem_append_left _ hp | apply List.mem_cons_of_mem)) (hH.dist.sublist sW)) ?_
  rintro _ _ ⟨rfl, M2, rfl⟩
  rw [show eJ (l.take k) ++ bO n = eJ (l.take (k + 1)) from mX hc]
  refine aZ <| bA <| aD <| rA <| ob rfl (by exact aY (by omega)) ?_
  refine om rfl <| aZ ?_
  refine rd' (M2, k + 1) (show l.length - (k + 1) < l.length - k by omega) (show k + 1 ≤ l.length by omega)
 ·obtain rfl : k = l.length := by omega
  rw [List.take_length]
  refine rA <| ob rfl (by exact aW (by omega)) ?_
  refine tq <| aG rfl <| bJ <| aR <| aS <| aN <| aD <| rB <| ot (bld TB N3 M1 (eJ l)) (fun u Lo => u = .string ⟨⟨eJ l⟩⟩) tF oV (fun H hH => tL (aHk h0) (by have := rU h64; omega) (hH.have fun p hp => by repeat (first | exact hp | exact List.mem_append_left _ hp | apply List.mem_cons_of_mem)) (hH.dist.sublist sW)) ?_
  rintro _ _ rfl
  refine oa rfl <| aB <| aT <| aE (.tmp rfl .nil) ?_
  exact fun H hH => ⟨rfl, hH.kept⟩
set_option maxHeartbeats 1000000 in
theorem xU {S : AH} {A : Nat → Prop} (hA : ∀ j, A j → j < S.nx) {x : Value} {l : List (List CT)} (hx : CellA A S (.row 8 [.int .i64]) x (.row l)) (h0 : l ≠ []) (hl : l.length ≤ 1073741824) : XCall Tryz.prog 37 [x] S fun v H' => v = .string ⟨⟨eJ l⟩⟩ ∧ Kept S.nx S H' := by
 obtain ⟨l2, ax, cx, e2, rfl, rx⟩ := hx.rowD
 cases e2
 have hb := rx.len
 have h64 := sR rx
 refine bN (E := E) (n := 17) (rs := [.tmp 2]) (l := [(0, _)]) (aQ Tryz.func37 rfl rfl rfl) hA rfl ?_
 refine rB <| oa rfl <| rC <| bR (cs := [.pointer none, .slice none 0 0]) rfl rfl nM mI rfl rfl ?_
 intro N3
 rw [uX]
 refine tq <| rB <| om rfl <| ll rfl V22 <| om rfl <| aB <| aK ?_
 refine bK (σ := Nat × Nat) (fun x => l.length - x.2) (fun x => [(3, .pointer (some ⟨2 * N3 + 1, 0, none⟩)), (6, .slice ax l.length cx), (7, .int .i64 ((l.length : Nat) : Int)), (8, .int .i64 ((x.2 : Nat) : Int))]) (fun _ => S) (fun _ => A) (fun x => bld TB N3 x.1 (eJ (l.take x.2))) (fun x => x.2 ≤ l.length) ((0, 0)) ((Nat.zero_le _)) pK rfl rfl (List.Sublist.refl _) ?_
 intro st hJ2 t1
 obtain ⟨M1, k⟩ := st
 dsimp only at hJ2 ⊢
 refine aH ?_
 rcases Nat.lt_or_ge k l.length with hk | hk
 ·obtain ⟨qx, us, d, eqx, ix, hc, lx, kx⟩ := rx.at' k hk
  cases eqx
  obtain ⟨n, rfl, rfl, hn⟩ := tB kx
  obtain ⟨x0, ex0, lx1⟩ := dW lx
  cases ex0
  refine rA <| ob rfl (by exact aX (by omega)) ?_
  refine tq <| aO rfl <| aJ <| aD <| aH <| aK <| rB <| bH rfl rfl rfl rfl V22 aI rfl (by omega) ?_
  refine aV rfl rfl rfl (by exact cU V3 rfl (InA.add ix) lx1) ?_
  refine oa rfl <| rD <| om rfl <| oc aVf oV (fun H hH => aRe hn) ?_
  refine ot (bld TB N3 M1 (eJ (l.take k))) (fun u Lo => u = .tuple ⟨[.int .i64 (((bO n).length : Nat) : Int), .nilIface]⟩ ∧ ∃ M2, Lo = bld TB N3 M2 (eJ (l.take k) ++ bO n)) cW oV (fun H hH => cV (s := ⟨⟨bO n⟩⟩) (mF n) (by have h1 := oM h64 k; have h2 := jJ hn; show (eJ (l.take k)).length + (bO n).length ≤ _; omega) (hH.have fun p hp => by repeat (first | exact hp | exact List.mem_append_left _ hp | apply List.mem_cons_of_mem)) (hH.dist.sublist sW)) ?_
  rintro _ _ ⟨rfl, M2, rfl⟩
  rw [show eJ (l.take k) ++ bO n = eJ (l.take (k + 1)) from mX hc]
  refine aZ <| bA <| aD <| rA <| ob rfl (by exact aY (by omega)) ?_
  refine om rfl <| aZ ?_
  refine rd' (M2, k + 1) (show l.length - (k + 1) < l.length - k by omega) (show k + 1 ≤ l.length by omega)
 ·obtain rfl : k = l.length := by omega
  rw [List.take_length]
  refine rA <| ob rfl (by exact aW (by omega)) ?_
  refine tq <| aG rfl <| bJ <| aR <| aS <| aN <| aD <| rB <| ot (bld TB N3 M1 (eJ l)) (fun u Lo => u = .string ⟨⟨eJ l⟩⟩) tF oV (fun H hH => tL (aHk h0) (by have := rU h64; omega) (hH.have fun p hp => by repeat (first | exact hp | exact List.mem_append_left _ hp | apply List.mem_cons_of_mem)) (hH.dist.sublist sW)) ?_
  rintro _ _ rfl
  refine oa rfl <| aB <| aT <| aE (.tmp rfl .nil) ?_
  exact fun H hH => ⟨rfl, hH.kept⟩
theorem eA {S : AH} {n : Nat} (hn : n < 9223372036854775808) : XCall Tryz.prog 79 [.int .i64 (n : Int)] S fun v H' => v = .string ⟨⟨aF n⟩⟩ ∧ Kept S.nx S H' := by
 refine bN (E := E) (n := 6) (rs := [.tmp 2]) (l := [(0, _)]) (aQ Tryz.func79 rfl rfl rfl) (A0 := fun _ => False) (fun j h => h.elim) rfl ?_
 refine rB <| oa rfl <| rC <| om rfl <| cE rfl rfl rfl V3 V65 (dH _ (by omega) (by omega)) ?_
 refine oc aCn oV (fun H hH => sK (by omega)) ?_
 refine oa rfl <| aB <| aT <| aE (.tmp rfl .nil) ?_
 exact fun H hH => ⟨rfl, hH.kept⟩
set_option maxHeartbeats 1000000 in
theorem aNw {S : AH} {A : Nat → Prop} (hA : ∀ j, A j → j < S.nx) {x : Value} {l : List (List CT)} (hx : CellA A S (.row 1 [.bool]) x (.row l)) (h0 : l ≠ []) (hl : l.length ≤ 1073741824) : XCall Tryz.prog 76 [x] S fun v H' => v = .string ⟨⟨iD l⟩⟩ ∧ Kept S.nx S H' := by
 obtain ⟨l2, ax, cx, e2, rfl, rx⟩ := hx.rowD
 cases e2
 have hb := rx.len
 refine bN (E := E) (n := 19) (rs := [.tmp 2]) (l := [(0, _)]) (aQ Tryz.func76 rfl rfl rfl) hA rfl ?_
 refine rB <| oa rfl <| rC <| bR (cs := [.pointer none, .slice none 0 0]) rfl rfl nM mI rfl rfl ?_
 intro N3
 rw [uX]
 refine tq <| rB <| om rfl <| ll rfl aXa <| om rfl <| aB <| aK ?_
 refine bK (σ := Nat × Nat) (fun x => l.length - x.2) (fun x => [(3, .pointer (some ⟨2 * N3 + 1, 0, none⟩)), (7, .slice ax l.length cx), (8, .int .i64 ((l.length : Nat) : Int)), (9, .int .i64 ((x.2 : Nat) : Int))]) (fun _ => S) (fun _ => A) (fun x => bld TB N3 x.1 (iD (l.take x.2))) (fun x => x.2 ≤ l.length) ((0, 0)) ((Nat.zero_le _)) pK rfl rfl (List.Sublist.refl _) ?_
 intro st hJ2 t1
 obtain ⟨M1, k⟩ := st
 dsimp only at hJ2 ⊢
 refine aH ?_
 rcases Nat.lt_or_ge k l.length with hk | hk
 ·obtain ⟨qx, us, d, eqx, ix, hc, lx, kx⟩ := rx.at' k hk
  cases eqx
  obtain ⟨n, rfl, rfl⟩ := bool1 kx
  obtain ⟨x0, ex0, lx1⟩ := dW lx
  cases ex0
  refine rA <| ob rfl (by exact aX (by omega)) ?_
  refine tq <| aO rfl <| aJ <| aD <| aH <| aK <| rB <| bH rfl rfl rfl rfl aXa lR rfl (by omega) ?_
  refine aV rfl rfl rfl (by exact cU V4 rfl (InA.add ix) lx1) ?_
  refine oa rfl <| rC <| oa rfl <| tq <| aH ?_
  cases n
  ·refine rA <| om rfl <| aB <| aG rfl <| aJ <| aD <| rA <| om rfl <| oc iZ oV (fun H hH => eA (n := 0) (by decide)) ?_
   refine ot (bld TB N3 M1 (iD (l.take k))) (fun u Lo => u = .tuple ⟨[.int .i64 (((iJ false).length : Nat) : Int), .nilIface]⟩ ∧ ∃ M2, Lo = bld TB N3 M2 (iD (l.take k) ++ iJ false)) cW oV (fun H hH => cV (s := ⟨⟨iJ false⟩⟩) (vM false) (by have h1 := zG l k; have h2 := vA false; show (iD (l.take k)).length + (iJ false).length ≤ _; omega) (hH.have fun p hp => by repeat (first | exact hp | exact List.mem_append_left _ hp | apply List.mem_cons_of_mem)) (hH.dist.sublist sW)) ?_
   rintro _ _ ⟨rfl, M2, rfl⟩
   rw [show iD (l.take k) ++ iJ false = iD (l.take (k + 1)) from aAe hc]
   refine aZ <| bA <| aD <| rA <| ob rfl (by exact aY (by omega)) ?_
   refine om rfl <| aZ ?_
   refine rd' (M2, k + 1) (show l.length - (k + 1) < l.length - k by omega) (show k + 1 ≤ l.length by omega)
  ·refine rA <| om rfl <| aB <| aO rfl <| rA <| oa rfl <| rD <| om rfl <| oc iZ oV (fun H hH => eA (n := 1) (by decide)) ?_
   refine ot (bld TB N3 M1 (iD (l.take k))) (fun u Lo => u = .tuple ⟨[.int .i64 (((iJ true).length : Nat) : Int), .nilIface]⟩ ∧ ∃ M2, Lo = bld TB N3 M2 (iD (l.take k) ++ iJ true)) cW oV (fun H hH => cV (s := ⟨⟨iJ true⟩⟩) (vM true) (by have h1 := zG l k; have h2 := vA true; show (iD (l.take k)).length + (iJ true).length ≤ _; omega) (hH.have fun p hp => by repeat (first | exact hp | exact List.mem_append_left _ hp | apply List.mem_cons_of_mem)) (hH.dist.sublist sW)) ?_
   rintro _ _ ⟨rfl, M2, rfl⟩
   rw [show iD (l.take k) ++ iJ true = iD (l.take (k + 1)) from aAe hc]
   refine aZ <| bA <| aD <| rA <| ob rfl (by exact aY (by omega)) ?_
   refine om rfl <| aZ ?_
   refine rd' (M2, k + 1) (show l.length - (k + 1) < l.length - k by omega) (show k + 1 ≤ l.length by omega)
 ·obtain rfl : k = l.length := by omega
  rw [List.take_length]
  refine rA <| ob rfl (by exact aW (by omega)) ?_
  refine tq <| aG rfl <| bJ <| aR <| aS <| aN <| aD <| rB <| ot (bld TB N3 M1 (iD l)) (fun u Lo => u = .string ⟨⟨iD l⟩⟩) tF oV (fun H hH => tL (aOc h0) (by have := xE l; omega) (hH.have fun p hp => by repeat (first | exact hp | exact List.mem_append_left _ hp | apply List.mem_cons_of_mem)) (hH.dist.sublist sW)) ?_
  rintro _ _ rfl
  refine oa rfl <| aB <| aT <| aE (.tmp rfl .nil) ?_
  exact fun H hH => ⟨rfl, hH.kept⟩
end Go.Proofs.YteklajiaicmogaaGreatDoor
namespace Go.Proofs.YteklajiaicmogaaGreatDoor
open Go Go.AM
theorem aCb {α : Type} {p : α → Bool} : ∀ {m : Nat} {r : List α}, (∀ k b, k < m → r[k]? = some b → p b = true) → m ≤ r.length → (∀ b, r[m]? = some b → p b = false) → r.takeWhile p = r.take m ∧ r.dropWhile p = r.drop m
 | 0, [], _, _, _ => ⟨rfl, rfl⟩
 | 0, b :: r, _, _, h => by
  have := h b rfl
  simp [List.takeWhile, List.dropWhile, this]
 | m + 1, [], _, hl, _ => by simp at hl
 | m + 1, b :: r, ha, hl, h => by
  have h0 := ha 0 b (by omega) rfl
  have ih := aCb (m := m) (r := r) (fun k c hk hc => ha (k + 1) c (by omega) (by simpa using hc)) (by simpa using hl) (fun c hc => h c (by simpa using hc))
  simp only [List.takeWhile, List.dropWhile, h0, List.take_succ_cons, List.drop_succ_cons, ih.1, ih.2]
  exact ⟨trivial, trivial⟩
/-- runs of equal elements -/
def eE {α : Type} [DecidableEq α] (val : α → List UInt8) : List α → List UInt8
 | [] => []
 | a :: r => aF (r.takeWhile fun b => decide (b = a)).length ++ val a ++ eE val (r.dropWhile fun b => decide (b = a))
termination_by l => l.length
decreasing_by
 have := (List.dropWhile_sublist (l := r) fun b => decide (b = a)).length_le
 simp only [List.length_cons]; omega
theorem iS {α : Type} [DecidableEq α] {val : α → List UInt8} {l : List α} {i j : Nat} {a : α} (hi : l[i]? = some a) (hij : i < j) (hj : j ≤ l.length) (hall : ∀ k b, i ≤ k → k < j → l[k]? = some b → b = a) (hend : ∀ b, l[j]? = some b → b ≠ a) :
 eE val (l.drop i) = aF (j - i - 1) ++ val a ++ eE val (l.drop j) := by
 have e : l.drop i = a :: l.drop (i + 1) := by
  obtain ⟨h1, rfl⟩ := List.getElem?_eq_some_iff.1 hi
  exact List.drop_eq_getElem_cons h1
 have hw := aCb (p := fun b => decide (b = a)) (m := j - i - 1) (r := l.drop (i + 1))
  (fun k b hk hb => by
   rw [List.getElem?_drop] at hb
   exact decide_eq_true (hall (i + 1 + k) b (by omega) (by omega) hb))
  (by rw [List.length_drop]; omega)
  (fun b hb => by
   rw [List.getElem?_drop, show i + 1 + (j - i - 1) = j by omega] at hb
   exact decide_eq_false (hend b hb))
 rw [e, eE, hw.1, hw.2, List.length_take, List.length_drop, List.drop_drop, show min (j - i - 1) (l.length - (i + 1)) = j - i - 1 by omega, show i + 1 + (j - i - 1) = j by omega]
theorem oH {α : Type} [DecidableEq α] {val : α → List UInt8} (l : List α) : eE val (l.drop l.length) = [] := by rw [List.drop_length, eE]
def cT (ns : List Nat) : List UInt8 := ns.flatMap aF
theorem iP {l : List Nat} {k c : Nat} (h : l[k]? = some c) : cT (l.take k) ++ aF c = cT (l.take (k + 1)) := by
 rw [hG h, cT, cT, List.flatMap_append]; simp
theorem fX {l : List Nat} (h : ∀ c ∈ l, c < 18446744073709551616) : (cT l).length ≤ 10 * l.length := by
 induction l with
 | nil => simp [cT]
 | cons c l ih =>
  have h1 := ih fun d hd => h d (List.mem_cons_of_mem _ hd)
  have h2 := bU (h c (List.mem_cons_self ..))
  simp only [cT, List.flatMap_cons, List.length_append, List.length_cons] at h1 ⊢
  omega
/-- the values of a mask's element, of a pixel -/
def fP (c : List CT) : Nat := (gY c).toNat
def eX (n : Nat) : List UInt8 := cT [n]
def fF : List CT → Nat × Nat × Nat × Nat
 | [.v (.int _ r), .v (.int _ g), .v (.int _ b), .v (.int _ a)] => (r.toNat, g.toNat, b.toNat, a.toNat)
 | _ => (0, 0, 0, 0)
def eY (p : Nat × Nat × Nat × Nat) : List UInt8 := cT [p.1, p.2.1, p.2.2.1, p.2.2.2]
def U16 (n : Int) : Prop := 0 ≤ n ∧ n ≤ 65535
def okM (c : List CT) : Prop := U16 (gY c)
def okP : List CT → Prop
 | [.v (.int _ r), .v (.int _ g), .v (.int _ b), .v (.int _ a)] => U16 r ∧ U16 g ∧ U16 b ∧ U16 a
 | _ => False
theorem aFj {α : Type} : ∀ {l : List α}, l.length = 4 → ∃ x y z w, l = [x, y, z, w]
 | [x, y, z, w], _ => ⟨x, y, z, w, rfl⟩
 | [], h => by simp at h
 | [_], h => by simp at h
 | [_, _], h => by simp at h
 | [_, _, _], h => by simp at h
 | _ :: _ :: _ :: _ :: _ :: _, h => by simp at h
def kP : List Kd := [.int .i64, .int .i64, .int .i64, .int .i64]
/-- a pixel, opened -/
theorem aHc {A : Nat → Prop} {H : AH} {xs : List Value} {c : List CT} (h : CellsA A H kP xs c) : ∃ r g b a, xs = [.int .i64 r, .int .i64 g, .int .i64 b, .int .i64 a] ∧ c = [.v (.int .i64 r), .v (.int .i64 g), .v (.int .i64 b), .v (.int .i64 a)] ∧ I64 r ∧ I64 g ∧ I64 b ∧ I64 a := by
 obtain ⟨h1, h2⟩ := h.len
 obtain ⟨x, y, z, w, rfl⟩ := aFj h1
 obtain ⟨x', y', z', w', rfl⟩ := aFj h2
 simp only [kP, CellsA] at h
 obtain ⟨r, rfl, rfl, hr⟩ := h.1.int
 obtain ⟨g, rfl, rfl, hg⟩ := h.2.1.int
 obtain ⟨b, rfl, rfl, hb⟩ := h.2.2.1.int
 obtain ⟨a, rfl, rfl, ha⟩ := h.2.2.2.1.int
 exact ⟨r, g, b, a, rfl, rfl, aMy hr, aMy hg, aMy hb, aMy ha⟩
theorem aNe {S : AH} {n : Int} : XCall Tryz.prog 81 [.int .i64 n] S fun u H' => ∃ Lo, Turned [] S H' Lo ∧ ∃ M, u = .slice (some ⟨2 * M + 1, 0, none⟩) 1 1 ∧ Lo = [(M, .cells ([n].map (.int .i64)) 1 true)] := by
 refine cX (E := E) (Li := []) (n := 5) (rs := [.tmp 2]) (l := [(0, _)]) (aQ Tryz.func81 rfl rfl rfl) (fun p hp => by cases hp) List.Pairwise.nil rfl ?_
 refine rB <| oa rfl <| rC <| om rfl <| aM (out := [n].map (.int .i64)) rfl rfl nM oP V22 aI rfl rfl (by kernel_rfl) rfl rfl ?_
 intro N4
 refine oa rfl <| aB <| aT <| aE (.tmp rfl .nil) ?_
 exact fun H hH => ⟨_, (hH.subl (List.Sublist.cons_cons _ (List.nil_sublist _))).turned (Gr.refl _ _) ⟨_, List.Mem.head _⟩, _, rfl, rfl⟩
theorem aQl {S : AH} {r g b a : Int} : XCall Tryz.prog 83 [.agg ⟨[.int .i64 r, .int .i64 g, .int .i64 b, .int .i64 a]⟩] S fun u H' => ∃ Lo, Turned [] S H' Lo ∧ ∃ M, u = .slice (some ⟨2 * M + 1, 0, none⟩) 4 4 ∧ Lo = [(M, .cells ([r, g, b, a].map (.int .i64)) 1 true)] := by
 refine cX (E := E) (Li := []) (n := 12) (rs := [.tmp 2]) (l := [(0, _)]) (aQ Tryz.func83 rfl rfl rfl) (fun p hp => by cases hp) List.Pairwise.nil rfl ?_
 refine rB <| cZ rfl rfl nM rfl ?_
 intro N1
 refine oa rfl <| rC <| fo 0 V31 aI rfl <| lG rfl V3 ?_
 refine fo 1 V31 aI rfl <| lG rfl V3 ?_
 refine fo 2 V31 aI rfl <| lG rfl V3 ?_
 refine fo 3 V31 aI rfl <| lG rfl V3 ?_
 refine aM (out := [r, g, b, a].map (.int .i64)) rfl rfl nM oP V22 aI rfl rfl (by kernel_rfl) rfl rfl ?_
 intro N11
 refine oa rfl <| aB <| aT <| aE (.tmp rfl .nil) ?_
 exact fun H hH => ⟨_, (hH.subl (List.Sublist.cons_cons _ (List.nil_sublist _))).turned (Gr.refl _ _) ⟨_, List.Mem.head _⟩, _, rfl, rfl⟩
theorem aeq3 (d : Nat) (a b : Int) : aeq E (d + 1) 3 (.int .i64 a) (.int .i64 b) = some (a == b) := by
 have h3 : E.und 3 = _ := V3
 rw [aeq.eq_def]
 simp only [h3, if_true]
theorem bin_pix {a b c d a' b' c' d' : Int} : dM E .eql 31 (.agg ⟨[.int .i64 a, .int .i64 b, .int .i64 c, .int .i64 d]⟩) (.agg ⟨[.int .i64 a', .int .i64 b', .int .i64 c', .int .i64 d']⟩) = some (.bool ((a == a') && ((b == b') && ((c == c') && (d == d'))))) := by
 have hu : E.und 31 = _ := V31
 have ht : E.eqT 31 = true := by kernel_rfl
 have p0 : ∀ x y z w : Value, apart E 3 [x, y, z, w] 0 = some x := fun x y z w => by rfl
 have p1 : ∀ x y z w : Value, apart E 3 [x, y, z, w] 1 = some y := fun x y z w => by rfl
 have p2 : ∀ x y z w : Value, apart E 3 [x, y, z, w] 2 = some z := fun x y z w => by rfl
 have p3 : ∀ x y z w : Value, apart E 3 [x, y, z, w] 3 = some w := fun x y z w => by rfl
 have key : aeq E 9 31 (.agg ⟨[.int .i64 a, .int .i64 b, .int .i64 c, .int .i64 d]⟩) (.agg ⟨[.int .i64 a', .int .i64 b', .int .i64 c', .int .i64 d']⟩) = some ((a == a') && ((b == b') && ((c == c') && (d == d')))) := by
  rw [aeq.eq_def]
  simp only [hu, ht, cond_true, iQ, show ("R" == "_") = false by decide, show ("G" == "_") = false by decide, show ("B" == "_") = false by decide, show ("A" == "_") = false by decide, cond_false, p0, p1, p2, p3, aeq3]
  cases (a == a') <;> cases (b == b') <;> cases (c == c') <;> cases (d == d') <;> rfl
 simp only [dM, nQ, qM, ht, Bool.and_self, cond_true, key, jE]
set_option maxHeartbeats 4000000 in
theorem aTd {S : AH} {A : Nat → Prop} (hA : ∀ j, A j → j < S.nx) {w h : Nat} {x : Value} {l : List (List CT)} (hx : CellA A S (.row 8 [.int .i64]) x (.row l)) (hv : ∀ c ∈ l, okM c) (hw : w ≤ 256) (hh : h ≤ 256) (hl : l.length ≤ 65536) : XCall Tryz.prog 80 [.int .i64 (w : Int), .int .i64 (h : Int), x, .func (.func 81) ⟨[]⟩ ⟨[]⟩] S fun v H' => v = .string ⟨⟨aF w ++ aF h ++ eE eX (l.map fP)⟩⟩ ∧ Kept S.nx S H' := by
 obtain ⟨l2, ax, cx, e2, rfl, rx⟩ := hx.rowD
 cases e2
 have hb := rx.len
 have hLl : (l.map fP).length = l.length := List.length_map _
 have hw10 := bU (n := w) (by omega)
 have hh10 := bU (n := h) (by omega)
 refine bN (E := E) (n := 66) (rs := [.tmp 8]) (l := [(3, _), (2, _), (1, _), (0, _)]) (aQ Tryz.func80 rfl rfl rfl) hA rfl ?_
 refine rB <| oa rfl <| rC <| bR (cs := [.pointer none, .slice none 0 0]) rfl rfl nM mI rfl rfl ?_
 intro N9
 rw [uX]
 refine rC <| om rfl <| oc iZ oV (fun H hH => eA (by omega)) ?_
 refine ot (bld TB N9 0 ([])) (fun u Lo => u = .tuple ⟨[.int .i64 (((aF w).length : Nat) : Int), .nilIface]⟩ ∧ ∃ M2, Lo = bld TB N9 M2 ([] ++ aF w)) cW oV (fun H hH => cV (s := ⟨⟨aF w⟩⟩) (cQ w) (by show 0 + (aF w).length ≤ _; omega) (hH.have fun p hp => by repeat (first | exact hp | exact List.mem_append_left _ hp | apply List.mem_cons_of_mem)) (hH.dist.sublist sW)) ?_
 rintro _ _ ⟨rfl, M2, rfl⟩
 rw [List.nil_append]
 refine rC <| om rfl <| oc iZ oV (fun H hH => eA (by omega)) ?_
 refine ot (bld TB N9 M2 (aF w)) (fun u Lo => u = .tuple ⟨[.int .i64 (((aF h).length : Nat) : Int), .nilIface]⟩ ∧ ∃ M2, Lo = bld TB N9 M2 (aF w ++ aF h)) cW oV (fun H hH => cV (s := ⟨⟨aF h⟩⟩) (cQ h) (by show (aF w).length + (aF h).length ≤ _; omega) (hH.have fun p hp => by repeat (first | exact hp | exact List.mem_append_left _ hp | apply List.mem_cons_of_mem)) (hH.dist.sublist sW)) ?_
 rintro _ _ ⟨rfl, M2, rfl⟩
 refine tq <| rB <| oa rfl <| aB <| aK ?_
 refine bK (σ := Nat × Nat × List UInt8) (fun x => l.length - x.2.1) (fun x => [(2, .slice ax l.length cx), (3, .func (.func 81) ⟨[]⟩ ⟨[]⟩), (9, .pointer (some ⟨2 * N9 + 1, 0, none⟩)), (10, .int .i64 ((x.2.1 : Nat) : Int))]) (fun _ => S) (fun _ => A) (fun x => bld TB N9 x.1 x.2.2) (fun x => x.2.1 ≤ l.length ∧ x.2.2 ≠ [] ∧ x.2.2 ++ eE eX ((l.map fP).drop x.2.1) = aF w ++ aF h ++ eE eX (l.map fP) ∧ x.2.2.length ≤ 20 + 50 * x.2.1) ((M2, 0, aF w ++ aF h)) (⟨Nat.zero_le _, (by simp [cQ]), (by simp), (by simp only [List.length_append]; omega)⟩) pK rfl rfl sU ?_
 intro st hJ2 t1
 obtain ⟨M1, i, done⟩ := st
 obtain ⟨hi, hdn, hJ1, hJ3⟩ := hJ2
 dsimp only at hi hdn hJ1 hJ3 ⊢
 refine aH <| aH ?_
 rcases Nat.lt_or_ge i l.length with hk | hk
 ·obtain ⟨qx, us, d, eqx, ix, hc, lx, kx⟩ := rx.at' i hk
  cases eqx
  obtain ⟨n, rfl, rfl, hn⟩ := tB kx
  obtain ⟨x0, ex0, lx1⟩ := dW lx
  cases ex0
  have hu : 0 ≤ n ∧ n ≤ 65535 := hv _ (List.mem_of_getElem? hc)
  obtain ⟨m, rfl⟩ := Int.eq_ofNat_of_zero_le hu.1
  have h65 : m ≤ 65535 := by have := hu.2; omega
  refine rA <| om rfl <| om rfl <| ll rfl V22 <| ob rfl (by exact aX (by omega)) ?_
  refine aB <| aO rfl <| aJ <| aD <| aK <| rB <| om rfl <| ob rfl (by exact aY (by omega)) ?_
  refine oa rfl <| tq <| aK ?_
  refine bK (σ := Nat) (fun j => l.length - j) (fun j => [(2, .slice (some qx) l.length cx), (3, .func (.func 81) ⟨[]⟩ ⟨[]⟩), (9, .pointer (some ⟨2 * N9 + 1, 0, none⟩)), (10, .int .i64 ((i : Nat) : Int)), (11, .int .i64 ((j : Nat) : Int))]) (fun _ => S) (fun _ => A) (fun _ => bld TB N9 M1 done) (fun j => i < j ∧ j ≤ l.length ∧ ∀ k b, i ≤ k → k < j → (l.map fP)[k]? = some b → b = m) ((i + 1)) (⟨by omega, by omega, fun k b h1 h2 h3 => (by obtain rfl : k = i := (by omega); rw [List.getElem?_map, hc] at h3; cases h3; rfl)⟩) pK rfl rfl sU ?_
  intro j hJ2 t2
  obtain ⟨hij, hjl, hall⟩ := hJ2
  refine aH <| aH ?_
  rcases Nat.lt_or_ge j l.length with hk2 | hk2
  ·obtain ⟨qx2, us2, d2, eqx2, ix2, hc2, lx2, kx2⟩ := rx.at' j hk2
   cases eqx2
   obtain ⟨n2, rfl, rfl, hn2⟩ := tB kx2
   obtain ⟨x02, ex02, lx12⟩ := dW lx2
   cases ex02
   have hu2 : 0 ≤ n2 ∧ n2 ≤ 65535 := hv _ (List.mem_of_getElem? hc2)
   obtain ⟨q, rfl⟩ := Int.eq_ofNat_of_zero_le hu2.1
   refine cC (E := E) mixed [] _ (List.Sublist.refl _) (by kernel_rfl) (by kernel_rfl) (by decide) ?_
   refine om rfl <| om rfl <| ll rfl V22 <| ob rfl (by exact aX (by omega)) ?_
   refine om rfl <| om rfl <| om rfl <| bH rfl rfl rfl rfl V22 aI rfl (by omega) ?_
   refine aV rfl rfl rfl (by exact cU V3 rfl (InA.add ix2) lx12) ?_
   refine om rfl <| om rfl <| bH rfl rfl rfl rfl V22 aI rfl (by omega) ?_
   refine aV rfl rfl rfl (by exact cU V3 rfl (InA.add ix) lx1) ?_
   by_cases heq : q = m
   ·refine ob rfl (by exact cM (by omega)) ?_
    refine pt rfl <| aB <| aO rfl <| aJ <| aD <| aK <| rA <| om rfl <| ob rfl (by exact aY (by omega)) ?_
    refine oa rfl <| aZ <| bA ?_
    refine rd' (j + 1) (show l.length - (j + 1) < l.length - j by omega) ⟨by omega, by omega, fun k b h1 h2 h3 => ?_⟩
    by_cases e : k = j
    ·subst e; rw [List.getElem?_map, hc2] at h3; cases h3; exact heq
    ·exact hall k b h1 (by omega) h3
   ·have hend : ∀ b, (l.map fP)[j]? = some b → b ≠ m := fun b hb => by rw [List.getElem?_map, hc2] at hb; cases hb; exact heq
    refine ob rfl (by exact cL (by omega)) ?_
    refine pt rfl <| aB <| aG rfl <| bJ <| aR <| aS <| aN <| aD <| aH ?_
    have hstep := iS (val := eX) (l := l.map fP) (i := i) (j := j) (a := m) (by rw [List.getElem?_map, hc]; rfl) hij (by rw [hLl]; omega) hall hend
    refine rA <| om rfl <| om rfl <| ob rfl (by exact fR (c := ((j - i : Nat) : Int)) (by rw [cO (by omega) (by omega)]; omega)) ?_
    refine ob rfl (by exact fR (c := ((j - i - 1 : Nat) : Int)) (by rw [cO (by omega) (by omega)]; omega)) ?_
    refine oc iZ oV (fun H hH => eA (n := j - i - 1) (by omega)) ?_
    refine ot (bld TB N9 M1 (done)) (fun u Lo => u = .tuple ⟨[.int .i64 (((aF (j - i - 1)).length : Nat) : Int), .nilIface]⟩ ∧ ∃ M2, Lo = bld TB N9 M2 (done ++ aF (j - i - 1))) cW oV (fun H hH => cV (s := ⟨⟨aF (j - i - 1)⟩⟩) (cQ _) (by have h9 := bU (n := j - i - 1) (by omega); show done.length + (aF (j - i - 1)).length ≤ _; omega) (hH.have fun p hp => by repeat (first | exact hp | exact List.mem_append_left _ hp | apply List.mem_cons_of_mem)) (hH.dist.sublist sW)) ?_
    rintro _ _ ⟨rfl, M2, rfl⟩
    refine tq <| rB <| om rfl <| om rfl <| om rfl <| bH rfl rfl rfl rfl V22 aI rfl (by omega) ?_
    refine aV rfl rfl rfl (by exact cU V3 rfl (InA.add ix) lx1) ?_
    refine nC (Li := []) (fun u Lo => ∃ M, u = .slice (some ⟨2 * M + 1, 0, none⟩) 1 1 ∧ Lo = [(M, .cells ([((m : Nat) : Int)].map (.int .i64)) 1 true)]) rfl rfl nM rfl rfl aVj oV rfl .nil nM (fun H hH => aNe) ?_
    rintro _ _ ⟨K, rfl, rfl⟩
    refine ll rfl V22 <| om rfl <| aB <| aK <| fZ (L' := bld TB N9 M2 (done ++ aF (j - i - 1) ++ cT ([m].take 0)) ++ [(K, .cells ([((m : Nat) : Int)].map (.int .i64)) 1 true)]) (by rw [show done ++ aF (j - i - 1) ++ cT ([m].take 0) = done ++ aF (j - i - 1) by simp [cT], List.append_nil]; exact List.perm_append_comm) ?_
    refine bK (σ := Nat × Nat) (fun x => 1 - x.2) (fun x => [(2, .slice (some qx) l.length cx), (3, .func (.func 81) ⟨[]⟩ ⟨[]⟩), (9, .pointer (some ⟨2 * N9 + 1, 0, none⟩)), (10, .int .i64 ((i : Nat) : Int)), (11, .int .i64 ((j : Nat) : Int)), (54, .slice (some ⟨2 * K + 1, 0, none⟩) 1 1), (55, .int .i64 ((1 : Nat) : Int)), (56, .int .i64 ((x.2 : Nat) : Int))]) (fun _ => S) (fun _ => A) (fun x => bld TB N9 x.1 (done ++ aF (j - i - 1) ++ cT ([m].take x.2)) ++ [(K, .cells ([((m : Nat) : Int)].map (.int .i64)) 1 true)]) (fun x => x.2 ≤ 1) ((M2, 0)) ((Nat.zero_le _)) pK rfl rfl (List.Sublist.refl _) ?_
    intro st hJ2 t3
    obtain ⟨M3, k⟩ := st
    dsimp only at hJ2 ⊢
    refine aH ?_
    rcases Nat.lt_or_ge k 1 with hkk | hkk
    ·refine rA <| ob rfl (by exact aX (by omega)) ?_
     refine tq <| aO rfl <| aJ <| aD <| aH <| aK <| aH ?_
     obtain rfl : k = 0 := by omega
     ·refine rA <| dP rfl rfl rfl rfl V22 aI rfl (by omega) rfl ?_
      refine aV rfl rfl rfl (by exact gC V3 rfl (List.mem_append_right _ (List.Mem.head _)) rfl) ?_
      refine oa rfl <| rD <| om rfl <| oc iZ oV (fun H hH => eA (n := m) (by omega)) ?_
      refine ot (bld TB N9 M3 (done ++ aF (j - i - 1) ++ cT ([m].take 0))) (fun u Lo => u = .tuple ⟨[.int .i64 (((aF m).length : Nat) : Int), .nilIface]⟩ ∧ ∃ M2, Lo = bld TB N9 M2 (done ++ aF (j - i - 1) ++ cT ([m].take 0) ++ aF m)) cW oV (fun H hH => cV (s := ⟨⟨aF m⟩⟩) (cQ _) (by have h8 := bU (n := j - i - 1) (by omega); have h9 := bU (n := m) (by omega); have h7 := fX (l := [m].take 0) (fun c hc => by simp at hc <;> omega); show (done ++ aF (j - i - 1) ++ cT ([m].take 0)).length + (aF m).length ≤ _; simp only [List.length_append, List.length_take, List.length_cons, List.length_nil] at h7 ⊢; omega) (hH.have fun p hp => by repeat (first | exact hp | exact List.mem_append_left _ hp | apply List.mem_cons_of_mem)) (hH.dist.sublist sW)) ?_
      rintro _ _ ⟨rfl, M2, rfl⟩
      rw [show done ++ aF (j - i - 1) ++ cT ([m].take 0) ++ aF m = done ++ aF (j - i - 1) ++ cT ([m].take 1) from (by rw [List.append_assoc]; exact congrArg _ (iP rfl))]
      refine aZ <| bA <| aD <| rA <| ob rfl (by exact aY (by omega)) ?_
      refine om rfl <| aZ ?_
      refine rd' (M2, 1) (show 1 - 1 < 1 - 0 by omega) (show 1 ≤ 1 by omega)
    ·obtain rfl : k = 1 := by omega
     rw [show done ++ aF (j - i - 1) ++ cT ([m].take 1) = done ++ aF (j - i - 1) ++ eX m from rfl]
     refine rA <| ob rfl (by exact aW (by omega)) ?_
     refine tq <| aG rfl <| bJ <| aR <| aS <| aN <| aD <| rA <| om rfl <| oa rfl <| aZ <| bA ?_
     have h8 := bU (n := j - i - 1) (by omega)
     have h7 := fX (l := [m]) (fun c hc => by simp at hc <;> omega)
     refine rd' (M3, j, done ++ aF (j - i - 1) ++ eX m) (show l.length - j < l.length - i by omega) ⟨(show j ≤ l.length by omega), (by simp [hdn]), (by show _ ++ eE eX ((l.map fP).drop j) = _; rw [← hJ1, hstep]; simp only [List.append_assoc]), (by show (done ++ aF (j - i - 1) ++ cT [m]).length ≤ 20 + 50 * j; simp only [List.length_append, List.length_cons, List.length_nil] at h7 ⊢; omega)⟩
  ·have hend : ∀ b, (l.map fP)[j]? = some b → b ≠ m := fun b hb => by rw [List.getElem?_eq_none (by rw [hLl]; omega)] at hb; cases hb
   refine cC (E := E) mixed [] _ (List.Sublist.refl _) (by kernel_rfl) (by kernel_rfl) (by decide) ?_
   refine om rfl <| om rfl <| ll rfl V22 <| ob rfl (by exact aW (by omega)) ?_
   refine om rfl <| aC rfl rfl rfl <| aC rfl rfl rfl <| aC rfl rfl rfl <| aC rfl rfl rfl <| aC rfl rfl rfl <| aC rfl rfl rfl <| aC rfl rfl rfl <| aC rfl rfl rfl <| aC rfl rfl rfl <| pQ rfl <| aB <| aG rfl <| bJ <| aR <| aS <| aN <| aD <| aH ?_
   have hstep := iS (val := eX) (l := l.map fP) (i := i) (j := j) (a := m) (by rw [List.getElem?_map, hc]; rfl) hij (by rw [hLl]; omega) hall hend
   refine rA <| om rfl <| om rfl <| ob rfl (by exact fR (c := ((j - i : Nat) : Int)) (by rw [cO (by omega) (by omega)]; omega)) ?_
   refine ob rfl (by exact fR (c := ((j - i - 1 : Nat) : Int)) (by rw [cO (by omega) (by omega)]; omega)) ?_
   refine oc iZ oV (fun H hH => eA (n := j - i - 1) (by omega)) ?_
   refine ot (bld TB N9 M1 (done)) (fun u Lo => u = .tuple ⟨[.int .i64 (((aF (j - i - 1)).length : Nat) : Int), .nilIface]⟩ ∧ ∃ M2, Lo = bld TB N9 M2 (done ++ aF (j - i - 1))) cW oV (fun H hH => cV (s := ⟨⟨aF (j - i - 1)⟩⟩) (cQ _) (by have h9 := bU (n := j - i - 1) (by omega); show done.length + (aF (j - i - 1)).length ≤ _; omega) (hH.have fun p hp => by repeat (first | exact hp | exact List.mem_append_left _ hp | apply List.mem_cons_of_mem)) (hH.dist.sublist sW)) ?_
   rintro _ _ ⟨rfl, M2, rfl⟩
   refine tq <| rB <| om rfl <| om rfl <| om rfl <| bH rfl rfl rfl rfl V22 aI rfl (by omega) ?_
   refine aV rfl rfl rfl (by exact cU V3 rfl (InA.add ix) lx1) ?_
   refine nC (Li := []) (fun u Lo => ∃ M, u = .slice (some ⟨2 * M + 1, 0, none⟩) 1 1 ∧ Lo = [(M, .cells ([((m : Nat) : Int)].map (.int .i64)) 1 true)]) rfl rfl nM rfl rfl aVj oV rfl .nil nM (fun H hH => aNe) ?_
   rintro _ _ ⟨K, rfl, rfl⟩
   refine ll rfl V22 <| om rfl <| aB <| aK <| fZ (L' := bld TB N9 M2 (done ++ aF (j - i - 1) ++ cT ([m].take 0)) ++ [(K, .cells ([((m : Nat) : Int)].map (.int .i64)) 1 true)]) (by rw [show done ++ aF (j - i - 1) ++ cT ([m].take 0) = done ++ aF (j - i - 1) by simp [cT], List.append_nil]; exact List.perm_append_comm) ?_
   refine bK (σ := Nat × Nat) (fun x => 1 - x.2) (fun x => [(2, .slice (some qx) l.length cx), (3, .func (.func 81) ⟨[]⟩ ⟨[]⟩), (9, .pointer (some ⟨2 * N9 + 1, 0, none⟩)), (10, .int .i64 ((i : Nat) : Int)), (11, .int .i64 ((j : Nat) : Int)), (54, .slice (some ⟨2 * K + 1, 0, none⟩) 1 1), (55, .int .i64 ((1 : Nat) : Int)), (56, .int .i64 ((x.2 : Nat) : Int))]) (fun _ => S) (fun _ => A) (fun x => bld TB N9 x.1 (done ++ aF (j - i - 1) ++ cT ([m].take x.2)) ++ [(K, .cells ([((m : Nat) : Int)].map (.int .i64)) 1 true)]) (fun x => x.2 ≤ 1) ((M2, 0)) ((Nat.zero_le _)) pK rfl rfl (List.Sublist.refl _) ?_
   intro st hJ2 t3
   obtain ⟨M3, k⟩ := st
   dsimp only at hJ2 ⊢
   refine aH ?_
   rcases Nat.lt_or_ge k 1 with hkk | hkk
   ·refine rA <| ob rfl (by exact aX (by omega)) ?_
    refine tq <| aO rfl <| aJ <| aD <| aH <| aK <| aH ?_
    obtain rfl : k = 0 := by omega
    ·refine rA <| dP rfl rfl rfl rfl V22 aI rfl (by omega) rfl ?_
     refine aV rfl rfl rfl (by exact gC V3 rfl (List.mem_append_right _ (List.Mem.head _)) rfl) ?_
     refine oa rfl <| rD <| om rfl <| oc iZ oV (fun H hH => eA (n := m) (by omega)) ?_
     refine ot (bld TB N9 M3 (done ++ aF (j - i - 1) ++ cT ([m].take 0))) (fun u Lo => u = .tuple ⟨[.int .i64 (((aF m).length : Nat) : Int), .nilIface]⟩ ∧ ∃ M2, Lo = bld TB N9 M2 (done ++ aF (j - i - 1) ++ cT ([m].take 0) ++ aF m)) cW oV (fun H hH => cV (s := ⟨⟨aF m⟩⟩) (cQ _) (by have h8 := bU (n := j - i - 1) (by omega); have h9 := bU (n := m) (by omega); have h7 := fX (l := [m].take 0) (fun c hc => by simp at hc <;> omega); show (done ++ aF (j - i - 1) ++ cT ([m].take 0)).length + (aF m).length ≤ _; simp only [List.length_append, List.length_take, List.length_cons, List.length_nil] at h7 ⊢; omega) (hH.have fun p hp => by repeat (first | exact hp | exact List.mem_append_left _ hp | apply List.mem_cons_of_mem)) (hH.dist.sublist sW)) ?_
     rintro _ _ ⟨rfl, M2, rfl⟩
     rw [show done ++ aF (j - i - 1) ++ cT ([m].take 0) ++ aF m = done ++ aF (j - i - 1) ++ cT ([m].take 1) from (by rw [List.append_assoc]; exact congrArg _ (iP rfl))]
     refine aZ <| bA <| aD <| rA <| ob rfl (by exact aY (by omega)) ?_
     refine om rfl <| aZ ?_
     refine rd' (M2, 1) (show 1 - 1 < 1 - 0 by omega) (show 1 ≤ 1 by omega)
   ·obtain rfl : k = 1 := by omega
    rw [show done ++ aF (j - i - 1) ++ cT ([m].take 1) = done ++ aF (j - i - 1) ++ eX m from rfl]
    refine rA <| ob rfl (by exact aW (by omega)) ?_
    refine tq <| aG rfl <| bJ <| aR <| aS <| aN <| aD <| rA <| om rfl <| oa rfl <| aZ <| bA ?_
    have h8 := bU (n := j - i - 1) (by omega)
    have h7 := fX (l := [m]) (fun c hc => by simp at hc <;> omega)
    refine rd' (M3, j, done ++ aF (j - i - 1) ++ eX m) (show l.length - j < l.length - i by omega) ⟨(show j ≤ l.length by omega), (by simp [hdn]), (by show _ ++ eE eX ((l.map fP).drop j) = _; rw [← hJ1, hstep]; simp only [List.append_assoc]), (by show (done ++ aF (j - i - 1) ++ cT [m]).length ≤ 20 + 50 * j; simp only [List.length_append, List.length_cons, List.length_nil] at h7 ⊢; omega)⟩
 ·obtain rfl : i = l.length := by omega
  have hfin : done = aF w ++ aF h ++ eE eX (l.map fP) := by rw [← hJ1, ← hLl, oH, List.append_nil]
  refine rA <| om rfl <| om rfl <| ll rfl V22 <| ob rfl (by exact aW (by omega)) ?_
  refine aB <| aG rfl <| bJ <| aR <| aS <| aN <| aD <| rB <| ot (bld TB N9 M1 (done)) (fun u Lo => u = .string ⟨⟨done⟩⟩) tF oV (fun H hH => tL hdn (by omega) (hH.have fun p hp => by repeat (first | exact hp | exact List.mem_append_left _ hp | apply List.mem_cons_of_mem)) (hH.dist.sublist sW)) ?_
  rintro _ _ rfl
  refine oa rfl <| aB <| aT <| aE (.tmp rfl .nil) ?_
  exact fun H hH => ⟨by rw [hfin], hH.kept⟩
set_option maxHeartbeats 4000000 in
theorem aUb {S : AH} {A : Nat → Prop} (hA : ∀ j, A j → j < S.nx) {w h : Nat} {x : Value} {l : List (List CT)} (hx : CellA A S (.row 32 kP) x (.row l)) (hv : ∀ c ∈ l, okP c) (hw : w ≤ 256) (hh : h ≤ 256) (hl : l.length ≤ 65536) : XCall Tryz.prog 82 [.int .i64 (w : Int), .int .i64 (h : Int), x, .func (.func 83) ⟨[]⟩ ⟨[]⟩] S fun v H' => v = .string ⟨⟨aF w ++ aF h ++ eE eY (l.map fF)⟩⟩ ∧ Kept S.nx S H' := by
 obtain ⟨l2, ax, cx, e2, rfl, rx⟩ := hx.rowD
 cases e2
 have hb := rx.len
 have hLl : (l.map fF).length = l.length := List.length_map _
 have hw10 := bU (n := w) (by omega)
 have hh10 := bU (n := h) (by omega)
 refine bN (E := E) (n := 66) (rs := [.tmp 8]) (l := [(3, _), (2, _), (1, _), (0, _)]) (aQ Tryz.func82 rfl rfl rfl) hA rfl ?_
 refine rB <| oa rfl <| rC <| bR (cs := [.pointer none, .slice none 0 0]) rfl rfl nM mI rfl rfl ?_
 intro N9
 rw [uX]
 refine rC <| om rfl <| oc iZ oV (fun H hH => eA (by omega)) ?_
 refine ot (bld TB N9 0 ([])) (fun u Lo => u = .tuple ⟨[.int .i64 (((aF w).length : Nat) : Int), .nilIface]⟩ ∧ ∃ M2, Lo = bld TB N9 M2 ([] ++ aF w)) cW oV (fun H hH => cV (s := ⟨⟨aF w⟩⟩) (cQ w) (by show 0 + (aF w).length ≤ _; omega) (hH.have fun p hp => by repeat (first | exact hp | exact List.mem_append_left _ hp | apply List.mem_cons_of_mem)) (hH.dist.sublist sW)) ?_
 rintro _ _ ⟨rfl, M2, rfl⟩
 rw [List.nil_append]
 refine rC <| om rfl <| oc iZ oV (fun H hH => eA (by omega)) ?_
 refine ot (bld TB N9 M2 (aF w)) (fun u Lo => u = .tuple ⟨[.int .i64 (((aF h).length : Nat) : Int), .nilIface]⟩ ∧ ∃ M2, Lo = bld TB N9 M2 (aF w ++ aF h)) cW oV (fun H hH => cV (s := ⟨⟨aF h⟩⟩) (cQ h) (by show (aF w).length + (aF h).length ≤ _; omega) (hH.have fun p hp => by repeat (first | exact hp | exact List.mem_append_left _ hp | apply List.mem_cons_of_mem)) (hH.dist.sublist sW)) ?_
 rintro _ _ ⟨rfl, M2, rfl⟩
 refine tq <| rB <| oa rfl <| aB <| aK ?_
 refine bK (σ := Nat × Nat × List UInt8) (fun x => l.length - x.2.1) (fun x => [(2, .slice ax l.length cx), (3, .func (.func 83) ⟨[]⟩ ⟨[]⟩), (9, .pointer (some ⟨2 * N9 + 1, 0, none⟩)), (10, .int .i64 ((x.2.1 : Nat) : Int))]) (fun _ => S) (fun _ => A) (fun x => bld TB N9 x.1 x.2.2) (fun x => x.2.1 ≤ l.length ∧ x.2.2 ≠ [] ∧ x.2.2 ++ eE eY ((l.map fF).drop x.2.1) = aF w ++ aF h ++ eE eY (l.map fF) ∧ x.2.2.length ≤ 20 + 50 * x.2.1) ((M2, 0, aF w ++ aF h)) (⟨Nat.zero_le _, (by simp [cQ]), (by simp), (by simp only [List.length_append]; omega)⟩) pK rfl rfl sU ?_
 intro st hJ2 t1
 obtain ⟨M1, i, done⟩ := st
 obtain ⟨hi, hdn, hJ1, hJ3⟩ := hJ2
 dsimp only at hi hdn hJ1 hJ3 ⊢
 refine aH <| aH ?_
 rcases Nat.lt_or_ge i l.length with hk | hk
 ·obtain ⟨qx, us, d, eqx, ix, hc, lx, kx⟩ := rx.at' i hk
  cases eqx
  obtain ⟨r, g, b, a, rfl, rfl, _, _, _, _⟩ := aHc kx
  have hu : (0 ≤ r ∧ r ≤ 65535) ∧ (0 ≤ g ∧ g ≤ 65535) ∧ (0 ≤ b ∧ b ≤ 65535) ∧ (0 ≤ a ∧ a ≤ 65535) := hv _ (List.mem_of_getElem? hc)
  obtain ⟨m1, rfl⟩ := Int.eq_ofNat_of_zero_le hu.1.1
  obtain ⟨m2, rfl⟩ := Int.eq_ofNat_of_zero_le hu.2.1.1
  obtain ⟨m3, rfl⟩ := Int.eq_ofNat_of_zero_le hu.2.2.1.1
  obtain ⟨m4, rfl⟩ := Int.eq_ofNat_of_zero_le hu.2.2.2.1
  have h65 : m1 ≤ 65535 ∧ m2 ≤ 65535 ∧ m3 ≤ 65535 ∧ m4 ≤ 65535 := by obtain ⟨⟨_, z1⟩, ⟨_, z2⟩, ⟨_, z3⟩, _, z4⟩ := hu; omega
  refine rA <| om rfl <| om rfl <| ll rfl V27 <| ob rfl (by exact aX (by omega)) ?_
  refine aB <| aO rfl <| aJ <| aD <| aK <| rB <| om rfl <| ob rfl (by exact aY (by omega)) ?_
  refine oa rfl <| tq <| aK ?_
  refine bK (σ := Nat) (fun j => l.length - j) (fun j => [(2, .slice (some qx) l.length cx), (3, .func (.func 83) ⟨[]⟩ ⟨[]⟩), (9, .pointer (some ⟨2 * N9 + 1, 0, none⟩)), (10, .int .i64 ((i : Nat) : Int)), (11, .int .i64 ((j : Nat) : Int))]) (fun _ => S) (fun _ => A) (fun _ => bld TB N9 M1 done) (fun j => i < j ∧ j ≤ l.length ∧ ∀ k b, i ≤ k → k < j → (l.map fF)[k]? = some b → b = (m1, m2, m3, m4)) ((i + 1)) (⟨by omega, by omega, fun k b h1 h2 h3 => (by obtain rfl : k = i := (by omega); rw [List.getElem?_map, hc] at h3; cases h3; rfl)⟩) pK rfl rfl sU ?_
  intro j hJ2 t2
  obtain ⟨hij, hjl, hall⟩ := hJ2
  refine aH <| aH ?_
  rcases Nat.lt_or_ge j l.length with hk2 | hk2
  ·obtain ⟨qx2, us2, d2, eqx2, ix2, hc2, lx2, kx2⟩ := rx.at' j hk2
   cases eqx2
   obtain ⟨r2, g2, b2, a2, rfl, rfl, _, _, _, _⟩ := aHc kx2
   have hu2 : (0 ≤ r2 ∧ r2 ≤ 65535) ∧ (0 ≤ g2 ∧ g2 ≤ 65535) ∧ (0 ≤ b2 ∧ b2 ≤ 65535) ∧ (0 ≤ a2 ∧ a2 ≤ 65535) := hv _ (List.mem_of_getElem? hc2)
   obtain ⟨q1, rfl⟩ := Int.eq_ofNat_of_zero_le hu2.1.1
   obtain ⟨q2, rfl⟩ := Int.eq_ofNat_of_zero_le hu2.2.1.1
   obtain ⟨q3, rfl⟩ := Int.eq_ofNat_of_zero_le hu2.2.2.1.1
   obtain ⟨q4, rfl⟩ := Int.eq_ofNat_of_zero_le hu2.2.2.2.1
   refine cC (E := E) mixed [] _ (List.Sublist.refl _) (by kernel_rfl) (by kernel_rfl) (by decide) ?_
   refine om rfl <| om rfl <| ll rfl V27 <| ob rfl (by exact aX (by omega)) ?_
   refine om rfl <| om rfl <| om rfl <| bH rfl rfl rfl rfl V27 bL rfl (by omega) ?_
   refine aV rfl rfl rfl (by exact cS V31 rfl bL rfl (InA.add ix2) lx2) ?_
   refine om rfl <| om rfl <| bH rfl rfl rfl rfl V27 bL rfl (by omega) ?_
   refine aV rfl rfl rfl (by exact cS V31 rfl bL rfl (InA.add ix) lx) ?_
   by_cases heq : (q1, q2, q3, q4) = (m1, m2, m3, m4)
   ·have hb : ((((q1 : Nat) : Int) == ((m1 : Nat) : Int)) && ((((q2 : Nat) : Int) == ((m2 : Nat) : Int)) && ((((q3 : Nat) : Int) == ((m3 : Nat) : Int)) && (((q4 : Nat) : Int) == ((m4 : Nat) : Int))))) = true := by cases heq; simp
    refine ob rfl (by exact bin_pix.trans (congrArg (fun z => some (Value.bool z)) hb)) ?_
    refine pt rfl <| aB <| aO rfl <| aJ <| aD <| aK <| rA <| om rfl <| ob rfl (by exact aY (by omega)) ?_
    refine oa rfl <| aZ <| bA ?_
    refine rd' (j + 1) (show l.length - (j + 1) < l.length - j by omega) ⟨by omega, by omega, fun k b h1 h2 h3 => ?_⟩
    by_cases e : k = j
    ·subst e; rw [List.getElem?_map, hc2] at h3; cases h3; exact heq
    ·exact hall k b h1 (by omega) h3
   ·have hb : ((((q1 : Nat) : Int) == ((m1 : Nat) : Int)) && ((((q2 : Nat) : Int) == ((m2 : Nat) : Int)) && ((((q3 : Nat) : Int) == ((m3 : Nat) : Int)) && (((q4 : Nat) : Int) == ((m4 : Nat) : Int))))) = false := by rw [Bool.eq_false_iff]; intro hq; simp only [Bool.and_eq_true, beq_iff_eq] at hq; apply heq; simp only [Prod.mk.injEq]; omega
    have hend : ∀ b, (l.map fF)[j]? = some b → b ≠ (m1, m2, m3, m4) := fun b hb => by rw [List.getElem?_map, hc2] at hb; cases hb; exact heq
    refine ob rfl (by exact bin_pix.trans (congrArg (fun z => some (Value.bool z)) hb)) ?_
    refine pt rfl <| aB <| aG rfl <| bJ <| aR <| aS <| aN <| aD <| aH ?_
    have hstep := iS (val := eY) (l := l.map fF) (i := i) (j := j) (a := (m1, m2, m3, m4)) (by rw [List.getElem?_map, hc]; rfl) hij (by rw [hLl]; omega) hall hend
    refine rA <| om rfl <| om rfl <| ob rfl (by exact fR (c := ((j - i : Nat) : Int)) (by rw [cO (by omega) (by omega)]; omega)) ?_
    refine ob rfl (by exact fR (c := ((j - i - 1 : Nat) : Int)) (by rw [cO (by omega) (by omega)]; omega)) ?_
    refine oc iZ oV (fun H hH => eA (n := j - i - 1) (by omega)) ?_
    refine ot (bld TB N9 M1 (done)) (fun u Lo => u = .tuple ⟨[.int .i64 (((aF (j - i - 1)).length : Nat) : Int), .nilIface]⟩ ∧ ∃ M2, Lo = bld TB N9 M2 (done ++ aF (j - i - 1))) cW oV (fun H hH => cV (s := ⟨⟨aF (j - i - 1)⟩⟩) (cQ _) (by have h9 := bU (n := j - i - 1) (by omega); show done.length + (aF (j - i - 1)).length ≤ _; omega) (hH.have fun p hp => by repeat (first | exact hp | exact List.mem_append_left _ hp | apply List.mem_cons_of_mem)) (hH.dist.sublist sW)) ?_
    rintro _ _ ⟨rfl, M2, rfl⟩
    refine tq <| rB <| om rfl <| om rfl <| om rfl <| bH rfl rfl rfl rfl V27 bL rfl (by omega) ?_
    refine aV rfl rfl rfl (by exact cS V31 rfl bL rfl (InA.add ix) lx) ?_
    refine nC (Li := []) (fun u Lo => ∃ M, u = .slice (some ⟨2 * M + 1, 0, none⟩) 4 4 ∧ Lo = [(M, .cells ([((m1 : Nat) : Int), ((m2 : Nat) : Int), ((m3 : Nat) : Int), ((m4 : Nat) : Int)].map (.int .i64)) 1 true)]) rfl rfl nM rfl rfl aVs oV rfl .nil nM (fun H hH => aQl) ?_
    rintro _ _ ⟨K, rfl, rfl⟩
    refine ll rfl V22 <| om rfl <| aB <| aK <| fZ (L' := bld TB N9 M2 (done ++ aF (j - i - 1) ++ cT ([m1, m2, m3, m4].take 0)) ++ [(K, .cells ([((m1 : Nat) : Int), ((m2 : Nat) : Int), ((m3 : Nat) : Int), ((m4 : Nat) : Int)].map (.int .i64)) 1 true)]) (by rw [show done ++ aF (j - i - 1) ++ cT ([m1, m2, m3, m4].take 0) = done ++ aF (j - i - 1) by simp [cT], List.append_nil]; exact List.perm_append_comm) ?_
    refine bK (σ := Nat × Nat) (fun x => 4 - x.2) (fun x => [(2, .slice (some qx) l.length cx), (3, .func (.func 83) ⟨[]⟩ ⟨[]⟩), (9, .pointer (some ⟨2 * N9 + 1, 0, none⟩)), (10, .int .i64 ((i : Nat) : Int)), (11, .int .i64 ((j : Nat) : Int)), (54, .slice (some ⟨2 * K + 1, 0, none⟩) 4 4), (55, .int .i64 ((4 : Nat) : Int)), (56, .int .i64 ((x.2 : Nat) : Int))]) (fun _ => S) (fun _ => A) (fun x => bld TB N9 x.1 (done ++ aF (j - i - 1) ++ cT ([m1, m2, m3, m4].take x.2)) ++ [(K, .cells ([((m1 : Nat) : Int), ((m2 : Nat) : Int), ((m3 : Nat) : Int), ((m4 : Nat) : Int)].map (.int .i64)) 1 true)]) (fun x => x.2 ≤ 4) ((M2, 0)) ((Nat.zero_le _)) pK rfl rfl (List.Sublist.refl _) ?_
    intro st hJ2 t3
    obtain ⟨M3, k⟩ := st
    dsimp only at hJ2 ⊢
    refine aH ?_
    rcases Nat.lt_or_ge k 4 with hkk | hkk
    ·refine rA <| ob rfl (by exact aX (by omega)) ?_
     refine tq <| aO rfl <| aJ <| aD <| aH <| aK <| aH ?_
     rcases (show k = 0 ∨ k = 1 ∨ k = 2 ∨ k = 3 by omega) with rfl | rfl | rfl | rfl
     ·refine rA <| dP rfl rfl rfl rfl V22 aI rfl (by omega) rfl ?_
      refine aV rfl rfl rfl (by exact gC V3 rfl (List.mem_append_right _ (List.Mem.head _)) rfl) ?_
      refine oa rfl <| rD <| om rfl <| oc iZ oV (fun H hH => eA (n := m1) (by omega)) ?_
      refine ot (bld TB N9 M3 (done ++ aF (j - i - 1) ++ cT ([m1, m2, m3, m4].take 0))) (fun u Lo => u = .tuple ⟨[.int .i64 (((aF m1).length : Nat) : Int), .nilIface]⟩ ∧ ∃ M2, Lo = bld TB N9 M2 (done ++ aF (j - i - 1) ++ cT ([m1, m2, m3, m4].take 0) ++ aF m1)) cW oV (fun H hH => cV (s := ⟨⟨aF m1⟩⟩) (cQ _) (by have h8 := bU (n := j - i - 1) (by omega); have h9 := bU (n := m1) (by omega); have h7 := fX (l := [m1, m2, m3, m4].take 0) (fun c hc => by simp at hc <;> omega); show (done ++ aF (j - i - 1) ++ cT ([m1, m2, m3, m4].take 0)).length + (aF m1).length ≤ _; simp only [List.length_append, List.length_take, List.length_cons, List.length_nil] at h7 ⊢; omega) (hH.have fun p hp => by repeat (first | exact hp | exact List.mem_append_left _ hp | apply List.mem_cons_of_mem)) (hH.dist.sublist sW)) ?_
      rintro _ _ ⟨rfl, M2, rfl⟩
      rw [show done ++ aF (j - i - 1) ++ cT ([m1, m2, m3, m4].take 0) ++ aF m1 = done ++ aF (j - i - 1) ++ cT ([m1, m2, m3, m4].take 1) from (by rw [List.append_assoc]; exact congrArg _ (iP rfl))]
      refine aZ <| bA <| aD <| rA <| ob rfl (by exact aY (by omega)) ?_
      refine om rfl <| aZ ?_
      refine rd' (M2, 1) (show 4 - 1 < 4 - 0 by omega) (show 1 ≤ 4 by omega)
     ·refine rA <| dP rfl rfl rfl rfl V22 aI rfl (by omega) rfl ?_
      refine aV rfl rfl rfl (by exact gC V3 rfl (List.mem_append_right _ (List.Mem.head _)) rfl) ?_
      refine oa rfl <| rD <| om rfl <| oc iZ oV (fun H hH => eA (n := m2) (by omega)) ?_
      refine ot (bld TB N9 M3 (done ++ aF (j - i - 1) ++ cT ([m1, m2, m3, m4].take 1))) (fun u Lo => u = .tuple ⟨[.int .i64 (((aF m2).length : Nat) : Int), .nilIface]⟩ ∧ ∃ M2, Lo = bld TB N9 M2 (done ++ aF (j - i - 1) ++ cT ([m1, m2, m3, m4].take 1) ++ aF m2)) cW oV (fun H hH => cV (s := ⟨⟨aF m2⟩⟩) (cQ _) (by have h8 := bU (n := j - i - 1) (by omega); have h9 := bU (n := m2) (by omega); have h7 := fX (l := [m1, m2, m3, m4].take 1) (fun c hc => by simp at hc <;> omega); show (done ++ aF (j - i - 1) ++ cT ([m1, m2, m3, m4].take 1)).length + (aF m2).length ≤ _; simp only [List.length_append, List.length_take, List.length_cons, List.length_nil] at h7 ⊢; omega) (hH.have fun p hp => by repeat (first | exact hp | exact List.mem_append_left _ hp | apply List.mem_cons_of_mem)) (hH.dist.sublist sW)) ?_
      rintro _ _ ⟨rfl, M2, rfl⟩
      rw [show done ++ aF (j - i - 1) ++ cT ([m1, m2, m3, m4].take 1) ++ aF m2 = done ++ aF (j - i - 1) ++ cT ([m1, m2, m3, m4].take 2) from (by rw [List.append_assoc]; exact congrArg _ (iP rfl))]
      refine aZ <| bA <| aD <| rA <| ob rfl (by exact aY (by omega)) ?_
      refine om rfl <| aZ ?_
      refine rd' (M2, 2) (show 4 - 2 < 4 - 1 by omega) (show 2 ≤ 4 by omega)
     ·refine rA <| dP rfl rfl rfl rfl V22 aI rfl (by omega) rfl ?_
      refine aV rfl rfl rfl (by exact gC V3 rfl (List.mem_append_right _ (List.Mem.head _)) rfl) ?_
      refine oa rfl <| rD <| om rfl <| oc iZ oV (fun H hH => eA (n := m3) (by omega)) ?_
      refine ot (bld TB N9 M3 (done ++ aF (j - i - 1) ++ cT ([m1, m2, m3, m4].take 2))) (fun u Lo => u = .tuple ⟨[.int .i64 (((aF m3).length : Nat) : Int), .nilIface]⟩ ∧ ∃ M2, Lo = bld TB N9 M2 (done ++ aF (j - i - 1) ++ cT ([m1, m2, m3, m4].take 2) ++ aF m3)) cW oV (fun H hH => cV (s := ⟨⟨aF m3⟩⟩) (cQ _) (by have h8 := bU (n := j - i - 1) (by omega); have h9 := bU (n := m3) (by omega); have h7 := fX (l := [m1, m2, m3, m4].take 2) (fun c hc => by simp at hc <;> omega); show (done ++ aF (j - i - 1) ++ cT ([m1, m2, m3, m4].take 2)).length + (aF m3).length ≤ _; simp only [List.length_append, List.length_take, List.length_cons, List.length_nil] at h7 ⊢; omega) (hH.have fun p hp => by repeat (first | exact hp | exact List.mem_append_left _ hp | apply List.mem_cons_of_mem)) (hH.dist.sublist sW)) ?_
      rintro _ _ ⟨rfl, M2, rfl⟩
      rw [show done ++ aF (j - i - 1) ++ cT ([m1, m2, m3, m4].take 2) ++ aF m3 = done ++ aF (j - i - 1) ++ cT ([m1, m2, m3, m4].take 3) from (by rw [List.append_assoc]; exact congrArg _ (iP rfl))]
      refine aZ <| bA <| aD <| rA <| ob rfl (by exact aY (by omega)) ?_
      refine om rfl <| aZ ?_
      refine rd' (M2, 3) (show 4 - 3 < 4 - 2 by omega) (show 3 ≤ 4 by omega)
     ·refine rA <| dP rfl rfl rfl rfl V22 aI rfl (by omega) rfl ?_
      refine aV rfl rfl rfl (by exact gC V3 rfl (List.mem_append_right _ (List.Mem.head _)) rfl) ?_
      refine oa rfl <| rD <| om rfl <| oc iZ oV (fun H hH => eA (n := m4) (by omega)) ?_
      refine ot (bld TB N9 M3 (done ++ aF (j - i - 1) ++ cT ([m1, m2, m3, m4].take 3))) (fun u Lo => u = .tuple ⟨[.int .i64 (((aF m4).length : Nat) : Int), .nilIface]⟩ ∧ ∃ M2, Lo = bld TB N9 M2 (done ++ aF (j - i - 1) ++ cT ([m1, m2, m3, m4].take 3) ++ aF m4)) cW oV (fun H hH => cV (s := ⟨⟨aF m4⟩⟩) (cQ _) (by have h8 := bU (n := j - i - 1) (by omega); have h9 := bU (n := m4) (by omega); have h7 := fX (l := [m1, m2, m3, m4].take 3) (fun c hc => by simp at hc <;> omega); show (done ++ aF (j - i - 1) ++ cT ([m1, m2, m3, m4].take 3)).length + (aF m4).length ≤ _; simp only [List.length_append, List.length_take, List.length_cons, List.length_nil] at h7 ⊢; omega) (hH.have fun p hp => by repeat (first | exact hp | exact List.mem_append_left _ hp | apply List.mem_cons_of_mem)) (hH.dist.sublist sW)) ?_
      rintro _ _ ⟨rfl, M2, rfl⟩
      rw [show done ++ aF (j - i - 1) ++ cT ([m1, m2, m3, m4].take 3) ++ aF m4 = done ++ aF (j - i - 1) ++ cT ([m1, m2, m3, m4].take 4) from (by rw [List.append_assoc]; exact congrArg _ (iP rfl))]
      refine aZ <| bA <| aD <| rA <| ob rfl (by exact aY (by omega)) ?_
      refine om rfl <| aZ ?_
      refine rd' (M2, 4) (show 4 - 4 < 4 - 3 by omega) (show 4 ≤ 4 by omega)
    ·obtain rfl : k = 4 := by omega
     rw [show done ++ aF (j - i - 1) ++ cT ([m1, m2, m3, m4].take 4) = done ++ aF (j - i - 1) ++ eY (m1, m2, m3, m4) from rfl]
     refine rA <| ob rfl (by exact aW (by omega)) ?_
     refine tq <| aG rfl <| bJ <| aR <| aS <| aN <| aD <| rA <| om rfl <| oa rfl <| aZ <| bA ?_
     have h8 := bU (n := j - i - 1) (by omega)
     have h7 := fX (l := [m1, m2, m3, m4]) (fun c hc => by simp at hc <;> omega)
     refine rd' (M3, j, done ++ aF (j - i - 1) ++ eY (m1, m2, m3, m4)) (show l.length - j < l.length - i by omega) ⟨(show j ≤ l.length by omega), (by simp [hdn]), (by show _ ++ eE eY ((l.map fF).drop j) = _; rw [← hJ1, hstep]; simp only [List.append_assoc]), (by show (done ++ aF (j - i - 1) ++ cT [m1, m2, m3, m4]).length ≤ 20 + 50 * j; simp only [List.length_append, List.length_cons, List.length_nil] at h7 ⊢; omega)⟩
  ·have hend : ∀ b, (l.map fF)[j]? = some b → b ≠ (m1, m2, m3, m4) := fun b hb => by rw [List.getElem?_eq_none (by rw [hLl]; omega)] at hb; cases hb
   refine cC (E := E) mixed [] _ (List.Sublist.refl _) (by kernel_rfl) (by kernel_rfl) (by decide) ?_
   refine om rfl <| om rfl <| ll rfl V27 <| ob rfl (by exact aW (by omega)) ?_
   refine om rfl <| aC rfl rfl rfl <| aC rfl rfl rfl <| aC rfl rfl rfl <| aC rfl rfl rfl <| aC rfl rfl rfl <| aC rfl rfl rfl <| aC rfl rfl rfl <| aC rfl rfl rfl <| aC rfl rfl rfl <| pQ rfl <| aB <| aG rfl <| bJ <| aR <| aS <| aN <| aD <| aH ?_
   have hstep := iS (val := eY) (l := l.map fF) (i := i) (j := j) (a := (m1, m2, m3, m4)) (by rw [List.getElem?_map, hc]; rfl) hij (by rw [hLl]; omega) hall hend
   refine rA <| om rfl <| om rfl <| ob rfl (by exact fR (c := ((j - i : Nat) : Int)) (by rw [cO (by omega) (by omega)]; omega)) ?_
   refine ob rfl (by exact fR (c := ((j - i - 1 : Nat) : Int)) (by rw [cO (by omega) (by omega)]; omega)) ?_
   refine oc iZ oV (fun H hH => eA (n := j - i - 1) (by omega)) ?_
   refine ot (bld TB N9 M1 (done)) (fun u Lo => u = .tuple ⟨[.int .i64 (((aF (j - i - 1)).length : Nat) : Int), .nilIface]⟩ ∧ ∃ M2, Lo = bld TB N9 M2 (done ++ aF (j - i - 1))) cW oV (fun H hH => cV (s := ⟨⟨aF (j - i - 1)⟩⟩) (cQ _) (by have h9 := bU (n := j - i - 1) (by omega); show done.length + (aF (j - i - 1)).length ≤ _; omega) (hH.have fun p hp => by repeat (first | exact hp | exact List.mem_append_left _ hp | apply List.mem_cons_of_mem)) (hH.dist.sublist sW)) ?_
   rintro _ _ ⟨rfl, M2, rfl⟩
   refine tq <| rB <| om rfl <| om rfl <| om rfl <| bH rfl rfl rfl rfl V27 bL rfl (by omega) ?_
   refine aV rfl rfl rfl (by exact cS V31 rfl bL rfl (InA.add ix) lx) ?_
   refine nC (Li := []) (fun u Lo => ∃ M, u = .slice (some ⟨2 * M + 1, 0, none⟩) 4 4 ∧ Lo = [(M, .cells ([((m1 : Nat) : Int), ((m2 : Nat) : Int), ((m3 : Nat) : Int), ((m4 : Nat) : Int)].map (.int .i64)) 1 true)]) rfl rfl nM rfl rfl aVs oV rfl .nil nM (fun H hH => aQl) ?_
   rintro _ _ ⟨K, rfl, rfl⟩
   refine ll rfl V22 <| om rfl <| aB <| aK <| fZ (L' := bld TB N9 M2 (done ++ aF (j - i - 1) ++ cT ([m1, m2, m3, m4].take 0)) ++ [(K, .cells ([((m1 : Nat) : Int), ((m2 : Nat) : Int), ((m3 : Nat) : Int), ((m4 : Nat) : Int)].map (.int .i64)) 1 true)]) (by rw [show done ++ aF (j - i - 1) ++ cT ([m1, m2, m3, m4].take 0) = done ++ aF (j - i - 1) by simp [cT], List.append_nil]; exact List.perm_append_comm) ?_
   refine bK (σ := Nat × Nat) (fun x => 4 - x.2) (fun x => [(2, .slice (some qx) l.length cx), (3, .func (.func 83) ⟨[]⟩ ⟨[]⟩), (9, .pointer (some ⟨2 * N9 + 1, 0, none⟩)), (10, .int .i64 ((i : Nat) : Int)), (11, .int .i64 ((j : Nat) : Int)), (54, .slice (some ⟨2 * K + 1, 0, none⟩) 4 4), (55, .int .i64 ((4 : Nat) : Int)), (56, .int .i64 ((x.2 : Nat) : Int))]) (fun _ => S) (fun _ => A) (fun x => bld TB N9 x.1 (done ++ aF (j - i - 1) ++ cT ([m1, m2, m3, m4].take x.2)) ++ [(K, .cells ([((m1 : Nat) : Int), ((m2 : Nat) : Int), ((m3 : Nat) : Int), ((m4 : Nat) : Int)].map (.int .i64)) 1 true)]) (fun x => x.2 ≤ 4) ((M2, 0)) ((Nat.zero_le _)) pK rfl rfl (List.Sublist.refl _) ?_
   intro st hJ2 t3
   obtain ⟨M3, k⟩ := st
   dsimp only at hJ2 ⊢
   refine aH ?_
   rcases Nat.lt_or_ge k 4 with hkk | hkk
   ·refine rA <| ob rfl (by exact aX (by omega)) ?_
    refine tq <| aO rfl <| aJ <| aD <| aH <| aK <| aH ?_
    rcases (show k = 0 ∨ k = 1 ∨ k = 2 ∨ k = 3 by omega) with rfl | rfl | rfl | rfl
    ·refine rA <| dP rfl rfl rfl rfl V22 aI rfl (by omega) rfl ?_
     refine aV rfl rfl rfl (by exact gC V3 rfl (List.mem_append_right _ (List.Mem.head _)) rfl) ?_
     refine oa rfl <| rD <| om rfl <| oc iZ oV (fun H hH => eA (n := m1) (by omega)) ?_
     refine ot (bld TB N9 M3 (done ++ aF (j - i - 1) ++ cT ([m1, m2, m3, m4].take 0))) (fun u Lo => u = .tuple ⟨[.int .i64 (((aF m1).length : Nat) : Int), .nilIface]⟩ ∧ ∃ M2, Lo = bld TB N9 M2 (done ++ aF (j - i - 1) ++ cT ([m1, m2, m3, m4].take 0) ++ aF m1)) cW oV (fun H hH => cV (s := ⟨⟨aF m1⟩⟩) (cQ _) (by have h8 := bU (n := j - i - 1) (by omega); have h9 := bU (n := m1) (by omega); have h7 := fX (l := [m1, m2, m3, m4].take 0) (fun c hc => by simp at hc <;> omega); show (done ++ aF (j - i - 1) ++ cT ([m1, m2, m3, m4].take 0)).length + (aF m1).length ≤ _; simp only [List.length_append, List.length_take, List.length_cons, List.length_nil] at h7 ⊢; omega) (hH.have fun p hp => by repeat (first | exact hp | exact List.mem_append_left _ hp | apply List.mem_cons_of_mem)) (hH.dist.sublist sW)) ?_
     rintro _ _ ⟨rfl, M2, rfl⟩
     rw [show done ++ aF (j - i - 1) ++ cT ([m1, m2, m3, m4].take 0) ++ aF m1 = done ++ aF (j - i - 1) ++ cT ([m1, m2, m3, m4].take 1) from (by rw [List.append_assoc]; exact congrArg _ (iP rfl))]
     refine aZ <| bA <| aD <| rA <| ob rfl (by exact aY (by omega)) ?_
     refine om rfl <| aZ ?_
     refine rd' (M2, 1) (show 4 - 1 < 4 - 0 by omega) (show 1 ≤ 4 by omega)
    ·refine rA <| dP rfl rfl rfl rfl V22 aI rfl (by omega) rfl ?_
     refine aV rfl rfl rfl (by exact gC V3 rfl (List.mem_append_right _ (List.Mem.head _)) rfl) ?_
     refine oa rfl <| rD <| om rfl <| oc iZ oV (fun H hH => eA (n := m2) (by omega)) ?_
     refine ot (bld TB N9 M3 (done ++ aF (j - i - 1) ++ cT ([m1, m2, m3, m4].take 1))) (fun u Lo => u = .tuple ⟨[.int .i64 (((aF m2).length : Nat) : Int), .nilIface]⟩ ∧ ∃ M2, Lo = bld TB N9 M2 (done ++ aF (j - i - 1) ++ cT ([m1, m2, m3, m4].take 1) ++ aF m2)) cW oV (fun H hH => cV (s := ⟨⟨aF m2⟩⟩) (cQ _) (by have h8 := bU (n := j - i - 1) (by omega); have h9 := bU (n := m2) (by omega); have h7 := fX (l := [m1, m2, m3, m4].take 1) (fun c hc => by simp at hc <;> omega); show (done ++ aF (j - i - 1) ++ cT ([m1, m2, m3, m4].take 1)).length + (aF m2).length ≤ _; simp only [List.length_append, List.length_take, List.length_cons, List.length_nil] at h7 ⊢; omega) (hH.have fun p hp => by repeat (first | exact hp | exact List.mem_append_left _ hp | apply List.mem_cons_of_mem)) (hH.dist.sublist sW)) ?_
     rintro _ _ ⟨rfl, M2, rfl⟩
     rw [show done ++ aF (j - i - 1) ++ cT ([m1, m2, m3, m4].take 1) ++ aF m2 = done ++ aF (j - i - 1) ++ cT ([m1, m2, m3, m4].take 2) from (by rw [List.append_assoc]; exact congrArg _ (iP rfl))]
     refine aZ <| bA <| aD <| rA <| ob rfl (by exact aY (by omega)) ?_
     refine om rfl <| aZ ?_
     refine rd' (M2, 2) (show 4 - 2 < 4 - 1 by omega) (show 2 ≤ 4 by omega)
    ·refine rA <| dP rfl rfl rfl rfl V22 aI rfl (by omega) rfl ?_
     refine aV rfl rfl rfl (by exact gC V3 rfl (List.mem_append_right _ (List.Mem.head _)) rfl) ?_
     refine oa rfl <| rD <| om rfl <| oc iZ oV (fun H hH => eA (n := m3) (by omega)) ?_
     refine ot (bld TB N9 M3 (done ++ aF (j - i - 1) ++ cT ([m1, m2, m3, m4].take 2))) (fun u Lo => u = .tuple ⟨[.int .i64 (((aF m3).length : Nat) : Int), .nilIface]⟩ ∧ ∃ M2, Lo = bld TB N9 M2 (done ++ aF (j - i - 1) ++ cT ([m1, m2, m3, m4].take 2) ++ aF m3)) cW oV (fun H hH => cV (s := ⟨⟨aF m3⟩⟩) (cQ _) (by have h8 := bU (n := j - i - 1) (by omega); have h9 := bU (n := m3) (by omega); have h7 := fX (l := [m1, m2, m3, m4].take 2) (fun c hc => by simp at hc <;> omega); show (done ++ aF (j - i - 1) ++ cT ([m1, m2, m3, m4].take 2)).length + (aF m3).length ≤ _; simp only [List.length_append, List.length_take, List.length_cons, List.length_nil] at h7 ⊢; omega) (hH.have fun p hp => by repeat (first | exact hp | exact List.mem_append_left _ hp | apply List.mem_cons_of_mem)) (hH.dist.sublist sW)) ?_
     rintro _ _ ⟨rfl, M2, rfl⟩
     rw [show done ++ aF (j - i - 1) ++ cT ([m1, m2, m3, m4].take 2) ++ aF m3 = done ++ aF (j - i - 1) ++ cT ([m1, m2, m3, m4].take 3) from (by rw [List.append_assoc]; exact congrArg _ (iP rfl))]
     refine aZ <| bA <| aD <| rA <| ob rfl (by exact aY (by omega)) ?_
     refine om rfl <| aZ ?_
     refine rd' (M2, 3) (show 4 - 3 < 4 - 2 by omega) (show 3 ≤ 4 by omega)
    ·refine rA <| dP rfl rfl rfl rfl V22 aI rfl (by omega) rfl ?_
     refine aV rfl rfl rfl (by exact gC V3 rfl (List.mem_append_right _ (List.Mem.head _)) rfl) ?_
     refine oa rfl <| rD <| om rfl <| oc iZ oV (fun H hH => eA (n := m4) (by omega)) ?_
     refine ot (bld TB N9 M3 (done ++ aF (j - i - 1) ++ cT ([m1, m2, m3, m4].take 3))) (fun u Lo => u = .tuple ⟨[.int .i64 (((aF m4).length : Nat) : Int), .nilIface]⟩ ∧ ∃ M2, Lo = bld TB N9 M2 (done ++ aF (j - i - 1) ++ cT ([m1, m2, m3, m4].take 3) ++ aF m4)) cW oV (fun H hH => cV (s := ⟨⟨aF m4⟩⟩) (cQ _) (by have h8 := bU (n := j - i - 1) (by omega); have h9 := bU (n := m4) (by omega); have h7 := fX (l := [m1, m2, m3, m4].take 3) (fun c hc => by simp at hc <;> omega); show (done ++ aF (j - i - 1) ++ cT ([m1, m2, m3, m4].take 3)).length + (aF m4).length ≤ _; simp only [List.length_append, List.length_take, List.length_cons, List.length_nil] at h7 ⊢; omega) (hH.have fun p hp => by repeat (first | exact hp | exact List.mem_append_left _ hp | apply List.mem_cons_of_mem)) (hH.dist.sublist sW)) ?_
     rintro _ _ ⟨rfl, M2, rfl⟩
     rw [show done ++ aF (j - i - 1) ++ cT ([m1, m2, m3, m4].take 3) ++ aF m4 = done ++ aF (j - i - 1) ++ cT ([m1, m2, m3, m4].take 4) from (by rw [List.append_assoc]; exact congrArg _ (iP rfl))]
     refine aZ <| bA <| aD <| rA <| ob rfl (by exact aY (by omega)) ?_
     refine om rfl <| aZ ?_
     refine rd' (M2, 4) (show 4 - 4 < 4 - 3 by omega) (show 4 ≤ 4 by omega)
   ·obtain rfl : k = 4 := by omega
    rw [show done ++ aF (j - i - 1) ++ cT ([m1, m2, m3, m4].take 4) = done ++ aF (j - i - 1) ++ eY (m1, m2, m3, m4) from rfl]
    refine rA <| ob rfl (by exact aW (by omega)) ?_
    refine tq <| aG rfl <| bJ <| aR <| aS <| aN <| aD <| rA <| om rfl <| oa rfl <| aZ <| bA ?_
    have h8 := bU (n := j - i - 1) (by omega)
    have h7 := fX (l := [m1, m2, m3, m4]) (fun c hc => by simp at hc <;> omega)
    refine rd' (M3, j, done ++ aF (j - i - 1) ++ eY (m1, m2, m3, m4)) (show l.length - j < l.length - i by omega) ⟨(show j ≤ l.length by omega), (by simp [hdn]), (by show _ ++ eE eY ((l.map fF).drop j) = _; rw [← hJ1, hstep]; simp only [List.append_assoc]), (by show (done ++ aF (j - i - 1) ++ cT [m1, m2, m3, m4]).length ≤ 20 + 50 * j; simp only [List.length_append, List.length_cons, List.length_nil] at h7 ⊢; omega)⟩
 ·obtain rfl : i = l.length := by omega
  have hfin : done = aF w ++ aF h ++ eE eY (l.map fF) := by rw [← hJ1, ← hLl, oH, List.append_nil]
  refine rA <| om rfl <| om rfl <| ll rfl V27 <| ob rfl (by exact aW (by omega)) ?_
  refine aB <| aG rfl <| bJ <| aR <| aS <| aN <| aD <| rB <| ot (bld TB N9 M1 (done)) (fun u Lo => u = .string ⟨⟨done⟩⟩) tF oV (fun H hH => tL hdn (by omega) (hH.have fun p hp => by repeat (first | exact hp | exact List.mem_append_left _ hp | apply List.mem_cons_of_mem)) (hH.dist.sublist sW)) ?_
  rintro _ _ rfl
  refine oa rfl <| aB <| aT <| aE (.tmp rfl .nil) ?_
  exact fun H hH => ⟨by rw [hfin], hH.kept⟩
end Go.Proofs.YteklajiaicmogaaGreatDoor
namespace Go.Proofs.YteklajiaicmogaaGreatDoor
open Go Go.AM
/-- a value of 0 to 65535 -/
def iK (v : Int) : Int := min 65535 (max v 0)
def vB (r g b a : Int) : Bool := (r == iK r) && ((g == iK g) && ((b == iK b) && (a == iK a)))
theorem aHq (r g b a : Int) : ((iK r == r) && ((iK g == g) && ((iK b == b) && (iK a == a)))) = vB r g b a := by
 unfold vB
 rw [BEq.comm (a := iK r), BEq.comm (a := iK g), BEq.comm (a := iK b), BEq.comm (a := iK a)]
def kV : List CT → Bool
 | [.v (.int _ r), .v (.int _ g), .v (.int _ b), .v (.int _ a)] => vB r g b a
 | _ => false
def iI (c : List CT) : Bool := decide (0 ≤ gY c ∧ gY c ≤ 65535)
theorem uQ {c : List CT} (h : iI c = true) : okM c := by
 show 0 ≤ gY c ∧ gY c ≤ 65535
 exact of_decide_eq_true h
theorem vG {v : Int} (h : (v == iK v) = true) : U16 v := by
 have e : v = iK v := by simpa using h
 unfold iK at e
 unfold U16
 omega
theorem vJ {c : List CT} (h : kV c = true) : okP c := by
 unfold kV at h
 split at h
 ·simp only [vB, Bool.and_eq_true] at h
  exact ⟨vG h.1, vG h.2.1, vG h.2.2.1, vG h.2.2.2⟩
 ·cases h
/-- a size that an image can have -/
def gB (w h : Int) : Bool := decide (0 ≤ w ∧ w ≤ 256 ∧ 0 ≤ h ∧ h ≤ 256 ∧ (w = 0 ↔ h = 0))
theorem gQ {w h : Int} (q : 0 ≤ w ∧ w ≤ 256 ∧ 0 ≤ h ∧ h ≤ 256 ∧ (w = 0 ↔ h = 0)) : gB w h = true := decide_eq_true q
theorem dY {w h : Int} (q : ¬ (0 ≤ w ∧ w ≤ 256 ∧ 0 ≤ h ∧ h ≤ 256 ∧ (w = 0 ↔ h = 0))) : gB w h = false := decide_eq_false q
/-- the error of an image, of a mask: P says whether an element is valid -/
def ckE (P : List CT → Bool) (w h : Int) (l : List (List CT)) : Int := if gB w h = true ∧ (l.length : Int) = w * h then (if l.all P = true then 0 else 2) else 15
section
variable {P : List CT → Bool} {w h : Int} {l : List (List CT)}
theorem lE (q : gB w h = false) : ckE P w h l = 15 := if_neg fun e => by rw [e.1] at q; cases q
theorem aAr (q : (l.length : Int) ≠ w * h) : ckE P w h l = 15 := if_neg fun e => q e.2
theorem wG (q : gB w h = true) (k : (l.length : Int) = w * h) {s : Nat} {d : List CT} (hd : l[s]? = some d) (hp : P d = false) : ckE P w h l = 2 := by
 rw [ckE, if_pos ⟨q, k⟩, if_neg]
 intro e
 rw [List.all_eq_true] at e
 rw [e d (List.mem_of_getElem? hd)] at hp
 cases hp
theorem zO (q : gB w h = true) (k : (l.length : Int) = w * h) (hg : ∀ j d, j < l.length → l[j]? = some d → P d = true) : ckE P w h l = 0 := by
 rw [ckE, if_pos ⟨q, k⟩, if_pos]
 rw [List.all_eq_true]
 intro x hx
 obtain ⟨j, hj⟩ := List.getElem?_of_mem hx
 exact hg j x (lt_of_getElem? hj) hj
theorem iG (q : gB w h = true) : 0 ≤ w * h ∧ w * h ≤ 65536 := by
 obtain ⟨h1, h2, h3, h4, _⟩ := of_decide_eq_true q
 refine ⟨Int.mul_nonneg h1 h3, ?_⟩
 calc w * h ≤ 256 * h := Int.mul_le_mul_of_nonneg_right h2 h3
  _ ≤ 256 * 256 := Int.mul_le_mul_of_nonneg_left h4 (by omega)
  _ = 65536 := by decide
/-- what is known of a valid one -/
theorem qW (q : ckE P w h l = 0) : ∃ w' h' : Nat, w = (w' : Int) ∧ h = (h' : Int) ∧ w' ≤ 256 ∧ h' ≤ 256 ∧ (w' = 0 ↔ h' = 0) ∧ l.length = w' * h' ∧ l.length ≤ 65536 ∧ ∀ c ∈ l, P c = true := by
 unfold ckE at q
 split at q
 ·rename_i e
  split at q
  ·rename_i e2
   obtain ⟨h1, h2, h3, h4, h5⟩ := of_decide_eq_true e.1
   have h6 := iG e.1
   obtain ⟨w', rfl⟩ := Int.eq_ofNat_of_zero_le h1
   obtain ⟨h', rfl⟩ := Int.eq_ofNat_of_zero_le h3
   have h7 := e.2
   refine ⟨w', h', rfl, rfl, by omega, by omega, by omega, by rw [← Int.natCast_mul] at h7; omega, by omega, List.all_eq_true.1 e2⟩
  ·cases q
 ·cases q
theorem ck3 (w h : Int) (n : Nat) : gB w h = false ∨ (gB w h = true ∧ (0 ≤ w * h ∧ w * h ≤ 65536) ∧ (n : Int) ≠ w * h) ∨ (gB w h = true ∧ (0 ≤ w * h ∧ w * h ≤ 65536) ∧ (n : Int) = w * h) := by
 cases q : gB w h with
 | false => exact .inl rfl
 | true =>
  by_cases e : (n : Int) = w * h
  ·exact .inr (.inr ⟨rfl, iG q, e⟩)
  ·exact .inr (.inl ⟨rfl, iG q, e⟩)
theorem aWi (w h : Int) : w < 0 ∨ (0 ≤ w ∧ 256 < w) ∨ (0 ≤ w ∧ w ≤ 256 ∧ h < 0) ∨ (0 ≤ w ∧ w ≤ 256 ∧ 0 ≤ h ∧ 256 < h) ∨ (0 ≤ w ∧ w ≤ 256 ∧ 0 ≤ h ∧ h ≤ 256) := by omega
theorem aWs (w h : Int) : (w = 0 ∧ h = 0) ∨ (w = 0 ∧ h ≠ 0) ∨ (w ≠ 0 ∧ h = 0) ∨ (w ≠ 0 ∧ h ≠ 0) := by omega
theorem aWo (n : Int) : n < 0 ∨ (0 ≤ n ∧ 65535 < n) ∨ (0 ≤ n ∧ n ≤ 65535) := by omega
end
theorem aQd {S : AH} (a lo hi : Int) : XCall Tryz.prog 251 [.int .i64 a, .int .i64 lo, .int .i64 hi] S fun v H' => v = .int .i64 (min hi (max a lo)) ∧ Kept S.nx S H' := by
 refine bN (E := E) (n := 12) (rs := [.tmp 6]) (l := [(2, _), (1, _), (0, _)]) (aQ Tryz.func251 rfl rfl rfl) (A0 := fun _ => False) (fun j h => h.elim) rfl ?_
 refine rB <| oa rfl <| rC <| om rfl <| om rfl <| om rfl <| aDq rfl rfl rfl rfl rfl rfl rfl ?_
 refine aKb rfl rfl rfl rfl rfl rfl rfl ?_
 refine oa rfl <| aB <| aT <| aE (.tmp rfl .nil) ?_
 exact fun H hH => ⟨rfl, hH.kept⟩
theorem yV {S : AH} (a : Int) : XCall Tryz.prog 201 [.int .i64 a] S fun v H' => v = .int .i64 (iK a) ∧ Kept S.nx S H' := by
 refine bN (E := E) (n := 5) (rs := [.tmp 2]) (l := [(0, _)]) (aQ Tryz.func201 rfl rfl rfl) (A0 := fun _ => False) (fun j h => h.elim) rfl ?_
 refine rB <| oa rfl <| rC <| om rfl <| oc aXv oV (fun H hH => aQd a 0 65535) ?_
 refine oa rfl <| aB <| aT <| aE (.tmp rfl .nil) ?_
 exact fun H hH => ⟨rfl, hH.kept⟩
theorem aQh {S : AH} (r g b a : Int) : XCall Tryz.prog 133 [.agg ⟨[.int .i64 r, .int .i64 g, .int .i64 b, .int .i64 a]⟩] S fun v H' => v = .agg ⟨[.int .i64 (iK r), .int .i64 (iK g), .int .i64 (iK b), .int .i64 (iK a)]⟩ ∧ Kept S.nx S H' := by
 refine bN (E := E) (n := 16) (rs := [.cell 2 31]) (l := [(0, _)]) (aQ Tryz.func133 rfl rfl rfl) (A0 := fun _ => False) (fun j h => h.elim) rfl ?_
 refine rB <| cZ rfl rfl nM rfl ?_
 intro N1
 refine bR (cs := (.int .i64 0 :: .int .i64 0 :: .int .i64 0 :: .int .i64 0 :: [])) rfl rfl nM bL rfl rfl ?_
 intro N2
 refine tq <| cC (E := E) mixed [2, 5, 8, 11, 13] _ (List.Sublist.cons _ (List.Sublist.refl _)) (by kernel_rfl) (by kernel_rfl) (by decide) ?_
 refine fo 0 V31 aI rfl <| lG rfl V3 ?_
 refine bF rfl rfl (fun _ => mA) rfl aDu oV (fun H hH => yV r) ?_
 refine fo 1 V31 aI rfl <| lG rfl V3 ?_
 refine bF rfl rfl (fun _ => mA) rfl aDu oV (fun H hH => yV g) ?_
 refine fo 2 V31 aI rfl <| lG rfl V3 ?_
 refine bF rfl rfl (fun _ => mA) rfl aDu oV (fun H hH => yV b) ?_
 refine fo 3 V31 aI rfl <| lG rfl V3 ?_
 refine bF rfl rfl (fun _ => mA) rfl aDu oV (fun H hH => yV a) ?_
 refine rK rfl rfl oP (by rfl) ?_
 refine bX rfl (fun _ => mA) rfl rfl bL (by rfl) rfl uP (by exact fS rfl) (by exact Nat.le_of_ble_eq_true rfl) (fun _ => sV) ?_
 refine aB <| aT <| aE (.cell rfl (by exact bV V31 rfl bL rfl mA (by exact Nat.le_of_ble_eq_true rfl) (by rfl)) .nil) ?_
 exact fun H hH => ⟨rfl, hH.kept⟩
theorem aGb {S : AH} (r g b a : Int) : XCall Tryz.prog 70 [.agg ⟨[.int .i64 r, .int .i64 g, .int .i64 b, .int .i64 a]⟩] S fun v H' => v = .bool (vB r g b a) ∧ Kept S.nx S H' := by
 refine bN (E := E) (n := 7) (rs := [.tmp 2]) (l := [(0, _)]) (aQ Tryz.func70 rfl rfl rfl) (A0 := fun _ => False) (fun j h => h.elim) rfl ?_
 refine rB <| cZ rfl rfl nM rfl ?_
 intro N1
 refine oa rfl <| tq <| cC (E := E) mixed [2] _ (List.Sublist.refl _) (by kernel_rfl) (by kernel_rfl) (by decide) ?_
 refine aV rfl rfl rfl (by exact bV V31 rfl bL rfl mA (by exact Nat.le_of_ble_eq_true rfl) (by rfl)) ?_
 refine aV rfl rfl rfl (by exact bV V31 rfl bL rfl mA (by exact Nat.le_of_ble_eq_true rfl) (by rfl)) ?_
 refine bF rfl rfl (fun _ => mA) rfl aWy oV (fun H hH => aQh r g b a) ?_
 refine ob rfl (by exact bin_pix) ?_
 refine oa rfl <| aB <| aT <| aE (.tmp rfl .nil) ?_
 exact fun H hH => ⟨rfl, hH.kept⟩
theorem zJ {S : AH} (w h : Int) : XCall Tryz.prog 69 [.int .i64 w, .int .i64 h] S fun v H' => v = .bool (gB w h) ∧ Kept S.nx S H' := by
 refine bN (E := E) (n := 26) (rs := [.tmp 4]) (l := [(1, _), (0, _)]) (aQ Tryz.func69 rfl rfl rfl) (A0 := fun _ => False) (fun j h => h.elim) rfl ?_
 refine rB <| oa rfl <| tq ?_
 rcases (show w < 0 ∨ (0 ≤ w ∧ 256 < w) ∨ (0 ≤ w ∧ w ≤ 256 ∧ h < 0) ∨ (0 ≤ w ∧ w ≤ 256 ∧ 0 ≤ h ∧ 256 < h) ∨ ((0 ≤ w ∧ w ≤ 256 ∧ 0 ≤ h ∧ h ≤ 256) ∧ w = 0 ∧ h = 0) ∨ ((0 ≤ w ∧ w ≤ 256 ∧ 0 ≤ h ∧ h ≤ 256) ∧ w = 0 ∧ h ≠ 0) ∨ ((0 ≤ w ∧ w ≤ 256 ∧ 0 ≤ h ∧ h ≤ 256) ∧ w ≠ 0 ∧ h = 0) ∨ ((0 ≤ w ∧ w ≤ 256 ∧ 0 ≤ h ∧ h ≤ 256) ∧ w ≠ 0 ∧ h ≠ 0) by omega) with q | q | q | q | q | q | q | q
 ·refine rA <| om rfl <| ob rfl (by exact kF (by omega)) ?_
  refine om rfl <| aC rfl rfl rfl <| aC rfl rfl rfl <| pQ rfl <| om rfl <| aC rfl rfl rfl <| aC rfl rfl rfl <| pQ rfl <| om rfl <| aC rfl rfl rfl <| aC rfl rfl rfl <| pQ rfl <| om rfl <| aC rfl rfl rfl <| aC rfl rfl rfl <| aC rfl rfl rfl <| aC rfl rfl rfl <| aC rfl rfl rfl <| pQ rfl <| oa rfl <| aB <| aT <| aE (.tmp rfl .nil) ?_
  exact fun H hH => ⟨congrArg Value.bool (dY (by omega)).symm, hH.kept⟩
 ·refine rA <| om rfl <| ob rfl (by exact eM (by omega)) ?_
  refine om rfl <| om rfl <| ob rfl (by exact gH (by omega)) ?_
  refine pt rfl <| om rfl <| aC rfl rfl rfl <| aC rfl rfl rfl <| pQ rfl <| om rfl <| aC rfl rfl rfl <| aC rfl rfl rfl <| pQ rfl <| om rfl <| aC rfl rfl rfl <| aC rfl rfl rfl <| aC rfl rfl rfl <| aC rfl rfl rfl <| aC rfl rfl rfl <| pQ rfl <| oa rfl <| aB <| aT <| aE (.tmp rfl .nil) ?_
  exact fun H hH => ⟨congrArg Value.bool (dY (by omega)).symm, hH.kept⟩
 ·refine rA <| om rfl <| ob rfl (by exact eM (by omega)) ?_
  refine om rfl <| om rfl <| ob rfl (by exact dU (by omega)) ?_
  refine pt rfl <| om rfl <| om rfl <| ob rfl (by exact kF (by omega)) ?_
  refine pt rfl <| om rfl <| aC rfl rfl rfl <| aC rfl rfl rfl <| pQ rfl <| om rfl <| aC rfl rfl rfl <| aC rfl rfl rfl <| aC rfl rfl rfl <| aC rfl rfl rfl <| aC rfl rfl rfl <| pQ rfl <| oa rfl <| aB <| aT <| aE (.tmp rfl .nil) ?_
  exact fun H hH => ⟨congrArg Value.bool (dY (by omega)).symm, hH.kept⟩
 ·refine rA <| om rfl <| ob rfl (by exact eM (by omega)) ?_
  refine om rfl <| om rfl <| ob rfl (by exact dU (by omega)) ?_
  refine pt rfl <| om rfl <| om rfl <| ob rfl (by exact eM (by omega)) ?_
  refine pt rfl <| om rfl <| om rfl <| ob rfl (by exact gH (by omega)) ?_
  refine pt rfl <| om rfl <| aC rfl rfl rfl <| aC rfl rfl rfl <| aC rfl rfl rfl <| aC rfl rfl rfl <| aC rfl rfl rfl <| pQ rfl <| oa rfl <| aB <| aT <| aE (.tmp rfl .nil) ?_
  exact fun H hH => ⟨congrArg Value.bool (dY (by omega)).symm, hH.kept⟩
 ·refine rA <| om rfl <| ob rfl (by exact eM (by omega)) ?_
  refine om rfl <| om rfl <| ob rfl (by exact dU (by omega)) ?_
  refine pt rfl <| om rfl <| om rfl <| ob rfl (by exact eM (by omega)) ?_
  refine pt rfl <| om rfl <| om rfl <| ob rfl (by exact dU (by omega)) ?_
  refine pt rfl <| om rfl <| om rfl <| ob rfl (by exact cM (by omega)) ?_
  refine om rfl <| ob rfl (by exact cM (by omega)) ?_
  refine ob rfl (by exact wI V4) ?_
  refine pt rfl <| oa rfl <| aB <| aT <| aE (.tmp rfl .nil) ?_
  exact fun H hH => ⟨congrArg Value.bool (gQ (by omega)).symm, hH.kept⟩
 ·refine rA <| om rfl <| ob rfl (by exact eM (by omega)) ?_
  refine om rfl <| om rfl <| ob rfl (by exact dU (by omega)) ?_
  refine pt rfl <| om rfl <| om rfl <| ob rfl (by exact eM (by omega)) ?_
  refine pt rfl <| om rfl <| om rfl <| ob rfl (by exact dU (by omega)) ?_
  refine pt rfl <| om rfl <| om rfl <| ob rfl (by exact cM (by omega)) ?_
  refine om rfl <| ob rfl (by exact cL (by omega)) ?_
  refine ob rfl (by exact wI V4) ?_
  refine pt rfl <| oa rfl <| aB <| aT <| aE (.tmp rfl .nil) ?_
  exact fun H hH => ⟨congrArg Value.bool (dY (by omega)).symm, hH.kept⟩
 ·refine rA <| om rfl <| ob rfl (by exact eM (by omega)) ?_
  refine om rfl <| om rfl <| ob rfl (by exact dU (by omega)) ?_
  refine pt rfl <| om rfl <| om rfl <| ob rfl (by exact eM (by omega)) ?_
  refine pt rfl <| om rfl <| om rfl <| ob rfl (by exact dU (by omega)) ?_
  refine pt rfl <| om rfl <| om rfl <| ob rfl (by exact cL (by omega)) ?_
  refine om rfl <| ob rfl (by exact cM (by omega)) ?_
  refine ob rfl (by exact wI V4) ?_
  refine pt rfl <| oa rfl <| aB <| aT <| aE (.tmp rfl .nil) ?_
  exact fun H hH => ⟨congrArg Value.bool (dY (by omega)).symm, hH.kept⟩
 ·refine rA <| om rfl <| ob rfl (by exact eM (by omega)) ?_
  refine om rfl <| om rfl <| ob rfl (by exact dU (by omega)) ?_
  refine pt rfl <| om rfl <| om rfl <| ob rfl (by exact eM (by omega)) ?_
  refine pt rfl <| om rfl <| om rfl <| ob rfl (by exact dU (by omega)) ?_
  refine pt rfl <| om rfl <| om rfl <| ob rfl (by exact cL (by omega)) ?_
  refine om rfl <| ob rfl (by exact cL (by omega)) ?_
  refine ob rfl (by exact wI V4) ?_
  refine pt rfl <| oa rfl <| aB <| aT <| aE (.tmp rfl .nil) ?_
  exact fun H hH => ⟨congrArg Value.bool (gQ (by omega)).symm, hH.kept⟩
theorem aCi {S : AH} {A : Nat → Prop} (hA : ∀ j, A j → j < S.nx) {w h : Int} {x : Value} {l : List (List CT)} (hx : CellA A S (.row 32 kP) x (.row l)) : XCall Tryz.prog 32 [.agg ⟨[.int .i64 w, .int .i64 h, x]⟩] S fun v H' => v = .int .i64 (ckE kV w h l) ∧ Kept S.nx S H' := by
 obtain ⟨l2, ax, cx, e2, rfl, rx⟩ := hx.rowD
 cases e2
 have hb := rx.len
 refine bN (E := E) (n := 33) (rs := [.tmp 2]) (l := [(0, _)]) (aQ Tryz.func32 rfl rfl rfl) hA rfl ?_
 refine rB <| cZ rfl rfl nM rfl ?_
 intro N1
 refine oa rfl <| tq <| aH ?_
 rcases ck3 w h l.length with hs | ⟨hs, hb2, hm⟩ | ⟨hs, hb2, hm⟩
 ·refine rA <| fo 0 V29 aI rfl <| lG rfl V3 ?_
  refine fo 1 V29 aI rfl <| lG rfl V3 ?_
  refine oc aSk oV (fun H hH => (zJ w h).b hs) ?_
  refine eZ rfl rfl rfl rfl <| om rfl <| aC rfl rfl rfl <| aC rfl rfl rfl <| aC rfl rfl rfl <| aC rfl rfl rfl <| aC rfl rfl rfl <| aC rfl rfl rfl <| aC rfl rfl rfl <| aC rfl rfl rfl <| aC rfl rfl rfl <| pt rfl <| aB <| aO rfl <| rB <| oa rfl <| aB <| aT <| aP <| aE (.tmp rfl .nil) ?_
  exact fun H hH => ⟨by rw [lE hs], hH.kept⟩
 ·refine rA <| fo 0 V29 aI rfl <| lG rfl V3 ?_
  refine fo 1 V29 aI rfl <| lG rfl V3 ?_
  refine oc aSk oV (fun H hH => (zJ w h).b hs) ?_
  refine eZ rfl rfl rfl rfl <| om rfl <| fo 2 V29 gZ rfl <| lG rfl V27 ?_
  refine ll rfl V27 <| fo 0 V29 aI rfl <| lG rfl V3 ?_
  refine fo 1 V29 aI rfl <| lG rfl V3 ?_
  refine ob rfl (by exact gE (cO (by omega) (by omega))) ?_
  refine ob rfl (by exact dZ (by assumption)) ?_
  refine pQ rfl <| aB <| aO rfl <| rB <| oa rfl <| aB <| aT <| aP <| aE (.tmp rfl .nil) ?_
  exact fun H hH => ⟨by rw [aAr hm], hH.kept⟩
 ·refine rA <| fo 0 V29 aI rfl <| lG rfl V3 ?_
  refine fo 1 V29 aI rfl <| lG rfl V3 ?_
  refine oc aSk oV (fun H hH => (zJ w h).b hs) ?_
  refine eZ rfl rfl rfl rfl <| om rfl <| fo 2 V29 gZ rfl <| lG rfl V27 ?_
  refine ll rfl V27 <| fo 0 V29 aI rfl <| lG rfl V3 ?_
  refine fo 1 V29 aI rfl <| lG rfl V3 ?_
  refine ob rfl (by exact gE (cO (by omega) (by omega))) ?_
  refine ob rfl (by exact bP (by assumption)) ?_
  refine pQ rfl <| aB <| aG rfl <| aJ <| aD <| aH <| rB <| fo 2 V29 gZ rfl <| lG rfl V27 ?_
  refine ll rfl V27 <| om rfl <| aB <| aK ?_
  refine bK (σ := Nat) (fun k => l.length - k) (fun k => [(23, .slice ax l.length cx), (24, .int .i64 ((l.length : Nat) : Int)), (25, .int .i64 ((k : Nat) : Int))]) (fun _ => S) (fun _ => A) (fun _ => []) (fun k => k ≤ l.length ∧ (∀ j d, j < k → l[j]? = some d → kV d = true)) (0) (⟨Nat.zero_le _, fun j d h => absurd h (Nat.not_lt_zero _)⟩) pK rfl rfl sV ?_
  intro s hJ t1
  obtain ⟨hJ, hg⟩ := hJ
  refine aH ?_
  rcases Nat.lt_or_ge s l.length with hk | hk
  ·obtain ⟨qx, us, d, eqx, ix, hc, lx, kx⟩ := rx.at' s hk
   cases eqx
   obtain ⟨r, g, b, a, rfl, rfl, _, _, _, _⟩ := aHc kx
   refine rA <| ob rfl (by exact aX (by omega)) ?_
   refine tq <| aO rfl <| aJ <| aD <| aH <| aK <| rB <| bH rfl rfl rfl rfl V27 bL rfl (by omega) ?_
   refine aV rfl rfl rfl (by exact cS V31 rfl bL rfl (InA.add ix) lx) ?_
   refine bR (cs := (.int .i64 0 :: .int .i64 0 :: .int .i64 0 :: .int .i64 0 :: [])) rfl rfl nM bL rfl rfl ?_
   intro N4
   refine bX rfl nM rfl rfl bL (by rfl) rfl uP (by exact fS rfl) (by exact Nat.le_of_ble_eq_true rfl) nM ?_
   refine tq ?_
   cases hp : vB r g b a
   ·refine rA <| aV rfl rfl rfl (by exact bV V31 rfl bL rfl mA (by exact Nat.le_of_ble_eq_true rfl) (by rfl)) ?_
    refine oc aVv oV (fun H hH => (aGb r g b a).b hp) ?_
    refine eZ rfl rfl rfl rfl <| aB <| aO rfl <| rB <| oa rfl <| aB <| aT <| bD <| aP <| cP <| bD <| aP <| aE (.tmp rfl .nil) ?_
    exact fun H hH => ⟨by rw [wG hs hm hc hp], hH.kept⟩
   ·refine rA <| aV rfl rfl rfl (by exact bV V31 rfl bL rfl mA (by exact Nat.le_of_ble_eq_true rfl) (by rfl)) ?_
    refine oc aVv oV (fun H hH => (aGb r g b a).b hp) ?_
    refine eZ rfl rfl rfl rfl <| aB <| aG rfl <| aJ <| bA <| aD <| rA <| ob rfl (by exact aY (by omega)) ?_
    refine om rfl <| aZ ?_
    refine rd' (s + 1) (show l.length - (s + 1) < l.length - s by omega) ⟨by omega, fun j d2 hj hd2 => ?_⟩
    by_cases e : j = s
    ·subst e; rw [hc] at hd2; cases hd2; exact hp
    ·exact hg j d2 (by omega) hd2
  ·refine rA <| ob rfl (by exact aW (by omega)) ?_
   refine tq <| aG rfl <| bJ <| aR <| aS <| aN <| aD <| rB <| oa rfl <| aB <| aT <| aE (.tmp rfl .nil) ?_
   exact fun H hH => ⟨by rw [zO hs hm fun j d h1 h2 => hg j d (by omega) h2], hH.kept⟩
theorem uU {S : AH} (n : Int) : XCall Tryz.prog 71 [.int .i64 n] S fun v H' => v = .bool (iI [.v (.int .i64 n)]) ∧ Kept S.nx S H' := by
 refine bN (E := E) (n := 9) (rs := [.tmp 2]) (l := [(0, _)]) (aQ Tryz.func71 rfl rfl rfl) (A0 := fun _ => False) (fun j h => h.elim) rfl ?_
 refine rB <| oa rfl <| tq ?_
 rcases aWo n with q | q | q
 ·refine rA <| om rfl <| ob rfl (by exact kF (by omega)) ?_
  refine om rfl <| aC rfl rfl rfl <| aC rfl rfl rfl <| pQ rfl <| oa rfl <| aB <| aT <| aE (.tmp rfl .nil) ?_
  exact fun H hH => ⟨congrArg Value.bool (decide_eq_false (by simp only [gY]; omega)).symm, hH.kept⟩
 ·refine rA <| om rfl <| ob rfl (by exact eM (by omega)) ?_
  refine om rfl <| om rfl <| ob rfl (by exact gH (by omega)) ?_
  refine pt rfl <| oa rfl <| aB <| aT <| aE (.tmp rfl .nil) ?_
  exact fun H hH => ⟨congrArg Value.bool (decide_eq_false (by simp only [gY]; omega)).symm, hH.kept⟩
 ·refine rA <| om rfl <| ob rfl (by exact eM (by omega)) ?_
  refine om rfl <| om rfl <| ob rfl (by exact dU (by omega)) ?_
  refine pt rfl <| oa rfl <| aB <| aT <| aE (.tmp rfl .nil) ?_
  exact fun H hH => ⟨congrArg Value.bool (decide_eq_true (by simp only [gY]; omega)).symm, hH.kept⟩
theorem aCq {S : AH} {A : Nat → Prop} (hA : ∀ j, A j → j < S.nx) {w h : Int} {x : Value} {l : List (List CT)} (hx : CellA A S (.row 8 [.int .i64]) x (.row l)) : XCall Tryz.prog 33 [.agg ⟨[.int .i64 w, .int .i64 h, x]⟩] S fun v H' => v = .int .i64 (ckE iI w h l) ∧ Kept S.nx S H' := by
 obtain ⟨l2, ax, cx, e2, rfl, rx⟩ := hx.rowD
 cases e2
 have hb := rx.len
 refine bN (E := E) (n := 52) (rs := [.tmp 2]) (l := [(0, _)]) (aQ Tryz.func33 rfl rfl rfl) hA rfl ?_
 refine rB <| cZ rfl rfl nM rfl ?_
 intro N1
 refine oa rfl <| tq <| aH ?_
 rcases aWi w h with q | q | q | q | q
 ·refine rA <| fo 0 V24 aI rfl <| lG rfl V3 ?_
  refine ob rfl (by exact aX (by omega)) ?_
  refine om rfl <| aC rfl rfl rfl <| aC rfl rfl rfl <| aC rfl rfl rfl <| pt rfl <| om rfl <| aC rfl rfl rfl <| aC rfl rfl rfl <| aC rfl rfl rfl <| pt rfl <| om rfl <| aC rfl rfl rfl <| aC rfl rfl rfl <| aC rfl rfl rfl <| pt rfl <| aB <| aO rfl <| rB <| oa rfl <| aB <| aT <| aP <| aE (.tmp rfl .nil) ?_
  exact fun H hH => ⟨by rw [lE (dY (by omega))], hH.kept⟩
 ·refine rA <| fo 0 V24 aI rfl <| lG rfl V3 ?_
  refine ob rfl (by exact aW (by omega)) ?_
  refine om rfl <| fo 0 V24 aI rfl <| lG rfl V3 ?_
  refine ob rfl (by exact cR (by omega)) ?_
  refine pQ rfl <| om rfl <| aC rfl rfl rfl <| aC rfl rfl rfl <| aC rfl rfl rfl <| pt rfl <| om rfl <| aC rfl rfl rfl <| aC rfl rfl rfl <| aC rfl rfl rfl <| pt rfl <| aB <| aO rfl <| rB <| oa rfl <| aB <| aT <| aP <| aE (.tmp rfl .nil) ?_
  exact fun H hH => ⟨by rw [lE (dY (by omega))], hH.kept⟩
 ·refine rA <| fo 0 V24 aI rfl <| lG rfl V3 ?_
  refine ob rfl (by exact aW (by omega)) ?_
  refine om rfl <| fo 0 V24 aI rfl <| lG rfl V3 ?_
  refine ob rfl (by exact bW (by omega)) ?_
  refine pQ rfl <| om rfl <| fo 1 V24 aI rfl <| lG rfl V3 ?_
  refine ob rfl (by exact aX (by omega)) ?_
  refine pQ rfl <| om rfl <| aC rfl rfl rfl <| aC rfl rfl rfl <| aC rfl rfl rfl <| pt rfl <| aB <| aO rfl <| rB <| oa rfl <| aB <| aT <| aP <| aE (.tmp rfl .nil) ?_
  exact fun H hH => ⟨by rw [lE (dY (by omega))], hH.kept⟩
 ·refine rA <| fo 0 V24 aI rfl <| lG rfl V3 ?_
  refine ob rfl (by exact aW (by omega)) ?_
  refine om rfl <| fo 0 V24 aI rfl <| lG rfl V3 ?_
  refine ob rfl (by exact bW (by omega)) ?_
  refine pQ rfl <| om rfl <| fo 1 V24 aI rfl <| lG rfl V3 ?_
  refine ob rfl (by exact aW (by omega)) ?_
  refine pQ rfl <| om rfl <| fo 1 V24 aI rfl <| lG rfl V3 ?_
  refine ob rfl (by exact cR (by omega)) ?_
  refine pQ rfl <| aB <| aO rfl <| rB <| oa rfl <| aB <| aT <| aP <| aE (.tmp rfl .nil) ?_
  exact fun H hH => ⟨by rw [lE (dY (by omega))], hH.kept⟩
 ·refine rA <| fo 0 V24 aI rfl <| lG rfl V3 ?_
  refine ob rfl (by exact aW (by omega)) ?_
  refine om rfl <| fo 0 V24 aI rfl <| lG rfl V3 ?_
  refine ob rfl (by exact bW (by omega)) ?_
  refine pQ rfl <| om rfl <| fo 1 V24 aI rfl <| lG rfl V3 ?_
  refine ob rfl (by exact aW (by omega)) ?_
  refine pQ rfl <| om rfl <| fo 1 V24 aI rfl <| lG rfl V3 ?_
  refine ob rfl (by exact bW (by omega)) ?_
  refine pQ rfl <| aB <| aG rfl <| aJ <| aD <| aH <| aH ?_
  rcases aWs w h with q2 | q2 | q2 | q2
  ·refine rA <| fo 0 V24 aI rfl <| lG rfl V3 ?_
   refine ob rfl (by exact cM (by omega)) ?_
   refine fo 1 V24 aI rfl <| lG rfl V3 ?_
   refine ob rfl (by exact cM (by omega)) ?_
   refine ob rfl (by exact gT V4) ?_
   refine om rfl <| fo 2 V24 eI rfl <| lG rfl V22 ?_
   refine ll rfl V22 <| fo 0 V24 aI rfl <| lG rfl V3 ?_
   refine fo 1 V24 aI rfl <| lG rfl V3 ?_
   try (have hs : gB w h = true := gQ (by omega))
   refine ob rfl (by exact gE (cO (by have := iG hs; omega) (by have := iG hs; omega))) ?_
   rcases Decidable.em ((l.length : Int) = w * h) with hm | hm
   ·refine ob rfl (by exact bP (by assumption)) ?_
    refine pQ rfl <| aB <| aG rfl <| aJ <| aD <| aH <| rB <| fo 2 V24 eI rfl <| lG rfl V22 ?_
    refine ll rfl V22 <| om rfl <| aB <| aK ?_
    refine bK (σ := Nat) (fun k => l.length - k) (fun k => [(42, .slice ax l.length cx), (43, .int .i64 ((l.length : Nat) : Int)), (44, .int .i64 ((k : Nat) : Int))]) (fun _ => S) (fun _ => A) (fun _ => []) (fun k => k ≤ l.length ∧ (∀ j d, j < k → l[j]? = some d → iI d = true)) (0) (⟨Nat.zero_le _, fun j d h => absurd h (Nat.not_lt_zero _)⟩) pK rfl rfl sV ?_
    intro s hJ t1
    obtain ⟨hJ, hg⟩ := hJ
    refine aH ?_
    rcases Nat.lt_or_ge s l.length with hk | hk
    ·obtain ⟨qx, us, d, eqx, ix, hc, lx, kx⟩ := rx.at' s hk
     cases eqx
     obtain ⟨n, rfl, rfl, hn⟩ := tB kx
     obtain ⟨x0, ex0, lx1⟩ := dW lx
     cases ex0
     refine rA <| ob rfl (by exact aX (by omega)) ?_
     refine tq <| aO rfl <| aJ <| aD <| aH <| aK <| rB <| bH rfl rfl rfl rfl V22 aI rfl (by omega) ?_
     refine aV rfl rfl rfl (by exact cU V3 rfl (InA.add ix) lx1) ?_
     refine oa rfl <| tq ?_
     cases hp : iI [.v (.int .i64 n)]
     ·refine rA <| om rfl <| oc aKu oV (fun H hH => (uU n).b hp) ?_
      refine eZ rfl rfl rfl rfl <| aB <| aO rfl <| rB <| oa rfl <| aB <| aT <| bD <| aP <| cP <| bD <| aP <| aE (.tmp rfl .nil) ?_
      exact fun H hH => ⟨by rw [wG hs hm hc hp], hH.kept⟩
     ·refine rA <| om rfl <| oc aKu oV (fun H hH => (uU n).b hp) ?_
      refine eZ rfl rfl rfl rfl <| aB <| aG rfl <| aJ <| bA <| aD <| rA <| ob rfl (by exact aY (by omega)) ?_
      refine om rfl <| aZ ?_
      refine rd' (s + 1) (show l.length - (s + 1) < l.length - s by omega) ⟨by omega, fun j d2 hj hd2 => ?_⟩
      by_cases e : j = s
      ·subst e; rw [hc] at hd2; cases hd2; exact hp
      ·exact hg j d2 (by omega) hd2
    ·refine rA <| ob rfl (by exact aW (by omega)) ?_
     refine tq <| aG rfl <| bJ <| aR <| aS <| aN <| aD <| rB <| oa rfl <| aB <| aT <| aE (.tmp rfl .nil) ?_
     exact fun H hH => ⟨by rw [zO hs hm fun j d h1 h2 => hg j d (by omega) h2], hH.kept⟩
   ·refine ob rfl (by exact dZ (by assumption)) ?_
    refine pQ rfl <| aB <| aO rfl <| rB <| oa rfl <| aB <| aT <| aP <| aE (.tmp rfl .nil) ?_
    exact fun H hH => ⟨by rw [aAr hm], hH.kept⟩
  ·refine rA <| fo 0 V24 aI rfl <| lG rfl V3 ?_
   refine ob rfl (by exact cM (by omega)) ?_
   refine fo 1 V24 aI rfl <| lG rfl V3 ?_
   refine ob rfl (by exact cL (by omega)) ?_
   refine ob rfl (by exact gT V4) ?_
   refine om rfl <| aC rfl rfl rfl <| aC rfl rfl rfl <| aC rfl rfl rfl <| aC rfl rfl rfl <| aC rfl rfl rfl <| aC rfl rfl rfl <| aC rfl rfl rfl ?_
   try (have hs : gB w h = true := gQ (by omega))
   refine aC rfl rfl rfl <| aC rfl rfl rfl <| pt rfl <| aB <| aO rfl <| rB <| oa rfl <| aB <| aT <| aP <| aE (.tmp rfl .nil) ?_
   exact fun H hH => ⟨by rw [lE (dY (by omega))], hH.kept⟩
  ·refine rA <| fo 0 V24 aI rfl <| lG rfl V3 ?_
   refine ob rfl (by exact cL (by omega)) ?_
   refine fo 1 V24 aI rfl <| lG rfl V3 ?_
   refine ob rfl (by exact cM (by omega)) ?_
   refine ob rfl (by exact gT V4) ?_
   refine om rfl <| aC rfl rfl rfl <| aC rfl rfl rfl <| aC rfl rfl rfl <| aC rfl rfl rfl <| aC rfl rfl rfl <| aC rfl rfl rfl <| aC rfl rfl rfl ?_
   try (have hs : gB w h = true := gQ (by omega))
   refine aC rfl rfl rfl <| aC rfl rfl rfl <| pt rfl <| aB <| aO rfl <| rB <| oa rfl <| aB <| aT <| aP <| aE (.tmp rfl .nil) ?_
   exact fun H hH => ⟨by rw [lE (dY (by omega))], hH.kept⟩
  ·refine rA <| fo 0 V24 aI rfl <| lG rfl V3 ?_
   refine ob rfl (by exact cL (by omega)) ?_
   refine fo 1 V24 aI rfl <| lG rfl V3 ?_
   refine ob rfl (by exact cL (by omega)) ?_
   refine ob rfl (by exact gT V4) ?_
   refine om rfl <| fo 2 V24 eI rfl <| lG rfl V22 ?_
   refine ll rfl V22 <| fo 0 V24 aI rfl <| lG rfl V3 ?_
   refine fo 1 V24 aI rfl <| lG rfl V3 ?_
   try (have hs : gB w h = true := gQ (by omega))
   refine ob rfl (by exact gE (cO (by have := iG hs; omega) (by have := iG hs; omega))) ?_
   rcases Decidable.em ((l.length : Int) = w * h) with hm | hm
   ·refine ob rfl (by exact bP (by assumption)) ?_
    refine pQ rfl <| aB <| aG rfl <| aJ <| aD <| aH <| rB <| fo 2 V24 eI rfl <| lG rfl V22 ?_
    refine ll rfl V22 <| om rfl <| aB <| aK ?_
    refine bK (σ := Nat) (fun k => l.length - k) (fun k => [(42, .slice ax l.length cx), (43, .int .i64 ((l.length : Nat) : Int)), (44, .int .i64 ((k : Nat) : Int))]) (fun _ => S) (fun _ => A) (fun _ => []) (fun k => k ≤ l.length ∧ (∀ j d, j < k → l[j]? = some d → iI d = true)) (0) (⟨Nat.zero_le _, fun j d h => absurd h (Nat.not_lt_zero _)⟩) pK rfl rfl sV ?_
    intro s hJ t1
    obtain ⟨hJ, hg⟩ := hJ
    refine aH ?_
    rcases Nat.lt_or_ge s l.length with hk | hk
    ·obtain ⟨qx, us, d, eqx, ix, hc, lx, kx⟩ := rx.at' s hk
     cases eqx
     obtain ⟨n, rfl, rfl, hn⟩ := tB kx
     obtain ⟨x0, ex0, lx1⟩ := dW lx
     cases ex0
     refine rA <| ob rfl (by exact aX (by omega)) ?_
     refine tq <| aO rfl <| aJ <| aD <| aH <| aK <| rB <| bH rfl rfl rfl rfl V22 aI rfl (by omega) ?_
     refine aV rfl rfl rfl (by exact cU V3 rfl (InA.add ix) lx1) ?_
     refine oa rfl <| tq ?_
     cases hp : iI [.v (.int .i64 n)]
     ·refine rA <| om rfl <| oc aKu oV (fun H hH => (uU n).b hp) ?_
      refine eZ rfl rfl rfl rfl <| aB <| aO rfl <| rB <| oa rfl <| aB <| aT <| bD <| aP <| cP <| bD <| aP <| aE (.tmp rfl .nil) ?_
      exact fun H hH => ⟨by rw [wG hs hm hc hp], hH.kept⟩
     ·refine rA <| om rfl <| oc aKu oV (fun H hH => (uU n).b hp) ?_
      refine eZ rfl rfl rfl rfl <| aB <| aG rfl <| aJ <| bA <| aD <| rA <| ob rfl (by exact aY (by omega)) ?_
      refine om rfl <| aZ ?_
      refine rd' (s + 1) (show l.length - (s + 1) < l.length - s by omega) ⟨by omega, fun j d2 hj hd2 => ?_⟩
      by_cases e : j = s
      ·subst e; rw [hc] at hd2; cases hd2; exact hp
      ·exact hg j d2 (by omega) hd2
    ·refine rA <| ob rfl (by exact aW (by omega)) ?_
     refine tq <| aG rfl <| bJ <| aR <| aS <| aN <| aD <| rB <| oa rfl <| aB <| aT <| aE (.tmp rfl .nil) ?_
     exact fun H hH => ⟨by rw [zO hs hm fun j d h1 h2 => hg j d (by omega) h2], hH.kept⟩
   ·refine ob rfl (by exact dZ (by assumption)) ?_
    refine pQ rfl <| aB <| aO rfl <| rB <| oa rfl <| aB <| aT <| aP <| aE (.tmp rfl .nil) ?_
    exact fun H hH => ⟨by rw [aAr hm], hH.kept⟩
end Go.Proofs.YteklajiaicmogaaGreatDoor
namespace Go.Proofs.YteklajiaicmogaaGreatDoor
open Go Go.AM
def iv : CT → Int
 | .v (.int _ n) => n
 | _ => 0
def tv : CT → List UInt8
 | .v (.string s) => s.data.toList
 | _ => []
def bv : CT → Bool
 | .v (.bool b) => b
 | _ => false
def rv : CT → List (List CT)
 | .row l => l
 | _ => []
section
variable {A : Nat → Prop} {H : AH} {ks : List Kd} {x : Nat → Value} {c : Nat → CT}
theorem bG (h : Pts A H ks x c) {i : Nat} (hk : ks[i]? = some (.int .i64)) : x i = .int .i64 (iv (c i)) := by
 obtain ⟨n, h1, h2, _⟩ := (h i _ hk).int
 rw [h1, h2]; rfl
theorem nH (h : Pts A H ks x c) {i : Nat} (hk : ks[i]? = some (.int .i64)) : I64 (iv (c i)) := by
 obtain ⟨n, h1, h2, h3⟩ := (h i _ hk).int
 rw [h2]; exact aMy h3
theorem tA (h : Pts A H ks x c) {i : Nat} (hk : ks[i]? = some .str) : x i = .string ⟨⟨tv (c i)⟩⟩ := by
 obtain ⟨s, h1, h2, _⟩ := (h i _ hk).str
 rw [h1, h2]; rfl
theorem aBs (h : Pts A H ks x c) {i : Nat} (hk : ks[i]? = some .bool) : x i = .bool (bv (c i)) := by
 obtain ⟨s, h1, h2⟩ := (h i _ hk).bool
 rw [h1, h2]; rfl
theorem kY (h : Pts A H ks x c) {i b : Nat} {ks' : List Kd} (hk : ks[i]? = some (.row b ks')) : CellA A H (.row b ks') (x i) (.row (rv (c i))) := by
 have := h i _ hk
 obtain ⟨l, e, _⟩ := this.row
 rw [e] at this
 rw [e]; exact this
end
/-- what is written, in its order: a number, a text, a bool, a row of numbers, a mask, an image, a row of structs -/
inductive Item where
 | i (k : Nat)
 | t (k : Nat)
 | b (k : Nat)
 | bi (k : Nat)
 | ints (k : Nat)
 | msk (k : Nat)
 | img (k : Nat)
 | rows (k : Nat) (sub : List Item)
def cfn (r : List CT) (i : Nat) : CT := (r[i]?).getD (.v (.int .i64 0))
def qU (w h : Int) (l : List (List CT)) : List UInt8 := aF w.toNat ++ aF h.toNat ++ eE eX (l.map fP)
def qT (w h : Int) (l : List (List CT)) : List UInt8 := aF w.toNat ++ aF h.toNat ++ eE eY (l.map fF)
mutual
def bB : Item → (Nat → CT) → List UInt8
 | .i k, c => bO (iv (c k))
 | .t k, c => fJ (tv (c k))
 | .b k, c => iJ (bv (c k))
 | .bi k, c => bO (if bv (c k) = true then 1 else 0)
 | .ints k, c => aF (rv (c k)).length ++ eJ (rv (c k))
 | .msk k, c => qU (iv (c k)) (iv (c (k + 1))) (rv (c (k + 2)))
 | .img k, c => qT (iv (c k)) (iv (c (k + 1))) (rv (c (k + 2)))
 | .rows k sub, c => aF (rv (c k)).length ++ (rv (c k)).flatMap fun r => aA sub (cfn r)
def aA : List Item → (Nat → CT) → List UInt8
 | [], _ => []
 | a :: r, c => bB a c ++ aA r c
end
/-- k rows of a row -/
def aL (sub : List Item) (l : List (List CT)) : List UInt8 := l.flatMap fun r => aA sub (cfn r)
theorem dN {sub : List Item} {l : List (List CT)} {k : Nat} {c : List CT} (h : l[k]? = some c) : aL sub (l.take k) ++ aA sub (cfn c) = aL sub (l.take (k + 1)) := by
 rw [hG h, aL, aL, List.flatMap_append]; simp
theorem aAi {α : Type} [DecidableEq α] {val : α → List UInt8} {b : Nat} : ∀ (l : List α), (∀ a ∈ l, (val a).length ≤ b) → l.length < 18446744073709551616 → (eE val l).length ≤ (10 + b) * l.length
 | [], _, _ => by rw [eE]; simp
 | a :: r, h, hl => by
  rw [eE]
  have h1 := bU (n := (r.takeWhile fun b => decide (b = a)).length) (by
   have := (List.takeWhile_sublist (l := r) fun b => decide (b = a)).length_le
   simp only [List.length_cons] at hl; omega)
  have h2 := h a (List.mem_cons_self ..)
  have hd := (List.dropWhile_sublist (l := r) fun b => decide (b = a))
  have h3 := aAi (val := val) (b := b) (r.dropWhile fun b => decide (b = a)) (fun c hc => h c (List.mem_cons_of_mem _ (hd.subset hc))) (by have := hd.length_le; simp only [List.length_cons] at hl; omega)
  have h4 : (10 + b) * (r.dropWhile fun b => decide (b = a)).length ≤ (10 + b) * r.length := Nat.mul_le_mul_left _ hd.length_le
  simp only [List.length_append, List.length_cons]
  rw [Nat.mul_add, Nat.mul_one]
  omega
termination_by l => l.length
decreasing_by
 have := (List.dropWhile_sublist (l := r) fun b => decide (b = a)).length_le
 simp only [List.length_cons]; omega
theorem zI {w h : Int} {l : List (List CT)} (q : ckE iI w h l = 0) : (qU w h l).length ≤ 2000000 := by
 obtain ⟨w', h', rfl, rfl, hw, hh, _, _, hl, hp⟩ := qW q
 have h1 := bU (n := ((w' : Nat) : Int).toNat) (by omega)
 have h2 := bU (n := ((h' : Nat) : Int).toNat) (by omega)
 have h3 := aAi (val := eX) (b := 10) (l.map fP) (fun a ha => by
  obtain ⟨c, hc, rfl⟩ := List.mem_map.1 ha
  have hu : 0 ≤ gY c ∧ gY c ≤ 65535 := uQ (hp c hc)
  exact fX (l := [fP c]) (fun n hn => by rw [List.mem_singleton] at hn; subst hn; unfold fP; omega)) (by rw [List.length_map]; omega)
 rw [List.length_map] at h3
 simp only [qU, List.length_append]
 omega
theorem aLa {c : List CT} (h : okP c) : (fF c).1 ≤ 65535 ∧ (fF c).2.1 ≤ 65535 ∧ (fF c).2.2.1 ≤ 65535 ∧ (fF c).2.2.2 ≤ 65535 := by
 unfold okP at h
 split at h
 ·obtain ⟨⟨_, h1⟩, ⟨_, h2⟩, ⟨_, h3⟩, _, h4⟩ := h
  simp only [fF]
  omega
 ·exact h.elim
theorem zZ {w h : Int} {l : List (List CT)} (q : ckE kV w h l = 0) : (qT w h l).length ≤ 4000000 := by
 obtain ⟨w', h', rfl, rfl, hw, hh, _, _, hl, hp⟩ := qW q
 have h1 := bU (n := ((w' : Nat) : Int).toNat) (by omega)
 have h2 := bU (n := ((h' : Nat) : Int).toNat) (by omega)
 have h3 := aAi (val := eY) (b := 40) (l.map fF) (fun a ha => by
  obtain ⟨c, hc, rfl⟩ := List.mem_map.1 ha
  have hu := aLa (vJ (hp c hc))
  exact fX (l := [(fF c).1, (fF c).2.1, (fF c).2.2.1, (fF c).2.2.2]) (fun n hn => by simp only [List.mem_cons, List.not_mem_nil, or_false] at hn; omega)) (by rw [List.length_map]; omega)
 rw [List.length_map] at h3
 simp only [qT, List.length_append]
 omega
theorem aUy (w h : Int) (l : List (List CT)) : qU w h l ≠ [] := by simp [qU, cQ]
theorem aUx (w h : Int) (l : List (List CT)) : qT w h l ≠ [] := by simp [qT, cQ]
theorem aTe (s : List UInt8) : fJ s ≠ [] := by simp [fJ, cQ]
theorem rO {s : List UInt8} {b : Nat} (h : s.length ≤ b) (hb : b < 18446744073709551616) : (fJ s).length ≤ 10 + b := by
 have := bU (n := s.length) (by omega)
 simp only [fJ, List.length_append]; omega
theorem aNq {ns : List Int} (h : ∀ n ∈ ns, I64 n) : (ns.flatMap bO).length ≤ 10 * ns.length := by
 rw [← lV]
 have := rU (l := hU ns) fun c hc => by
  obtain ⟨n, hn, rfl⟩ := List.mem_map.1 hc
  exact h n hn
 simpa [hU] using this
theorem flat_ne {n : Int} {ns : List Int} : (n :: ns).flatMap bO ≠ [] := by simp [mF]
theorem flatB_len (ns : List Bool) : (ns.flatMap iJ).length ≤ 10 * ns.length := by
 rw [← xM]
 simpa [tM] using xE (tM ns)
theorem flatB_ne {n : Bool} {ns : List Bool} : (n :: ns).flatMap iJ ≠ [] := by simp [vM]
def oW : Option Kd → Bool
 | some (.int .i64) => true
 | _ => false
theorem pB {o : Option Kd} (h : oW o = true) : o = some (.int .i64) := by
 unfold oW at h; split at h
 ·rfl
 ·cases h
def aWg : Option Kd → Bool
 | some .bool => true
 | _ => false
theorem aUl {o : Option Kd} (h : aWg o = true) : o = some .bool := by
 unfold aWg at h; split at h
 ·rfl
 ·cases h
theorem bT : ∀ {l1 l2 l3 : List Item} {c : Nat → CT}, l1 ++ l2 = l3 → aA l1 c ++ aA l2 c = aA l3 c
 | [], _, _, _, rfl => by simp [aA]
 | a :: l1, l2, _, c, rfl => by
  simp only [List.cons_append, aA, List.append_assoc]
  rw [bT (l1 := l1) (l2 := l2) rfl]
theorem pS (a : Item) (c : Nat → CT) : aA [a] c = bB a c := by simp [aA]
theorem bC {l1 l3 : List Item} {a : Item} {c : Nat → CT} (h : l1 ++ [a] = l3) : aA l1 c ++ bB a c = aA l3 c := by
 rw [← pS, bT h]
theorem jM (c : Nat → CT) : ∀ js : List Nat, aA (js.map .i) c = (js.map fun k => iv (c k)).flatMap bO
 | [] => by simp [aA]
 | j :: js => by simp only [List.map_cons, aA, bB, List.flatMap_cons, jM c js]
theorem wP (c : Nat → CT) : ∀ js : List Nat, aA (js.map .b) c = (js.map fun k => bv (c k)).flatMap iJ
 | [] => by simp [aA]
 | j :: js => by simp only [List.map_cons, aA, bB, List.flatMap_cons, wP c js]
theorem jS (c : Nat → CT) : ∀ a : Item, bB a c ≠ []
 | .i k => by rw [bB]; exact mF _
 | .t k => by rw [bB]; exact aTe _
 | .b k => by rw [bB]; exact vM _
 | .bi k => by rw [bB]; exact mF _
 | .ints k => by rw [bB]; simp [cQ]
 | .msk k => by rw [bB]; exact aUy _ _ _
 | .img k => by rw [bB]; exact aUx _ _ _
 | .rows k sub => by rw [bB]; simp [cQ]
theorem cJ {a : Item} {r : List Item} (c : Nat → CT) : aA (a :: r) c ≠ [] := by rw [aA]; simp [jS]
def jR (o : Nat) : Item → Item
 | .i k => .i (o + k)
 | .t k => .t (o + k)
 | .b k => .b (o + k)
 | .bi k => .bi (o + k)
 | .ints k => .ints (o + k)
 | .msk k => .msk (o + k)
 | .img k => .img (o + k)
 | .rows k sub => .rows (o + k) sub
theorem aOm (o : Nat) (c : Nat → CT) : ∀ a : Item, bB a (fun i => c (o + i)) = bB (jR o a) c
 | .i k => by simp only [jR, bB]
 | .t k => by simp only [jR, bB]
 | .b k => by simp only [jR, bB]
 | .bi k => by simp only [jR, bB]
 | .ints k => by simp only [jR, bB]
 | .msk k => by simp only [jR, bB, Nat.add_assoc]
 | .img k => by simp only [jR, bB, Nat.add_assoc]
 | .rows k sub => by simp only [jR, bB]
theorem mY (o : Nat) (c : Nat → CT) : ∀ l : List Item, aA l (fun i => c (o + i)) = aA (l.map (jR o)) c
 | [] => by simp [aA]
 | a :: l => by simp only [List.map_cons, aA, aOm, mY o c l]
theorem yH {its l1 l2 l3 : List Item} {c : Nat → CT} (h : its = l1 ++ l2 ++ l3) : (aA l2 c).length ≤ (aA its c).length := by
 subst h
 rw [← bT (l1 := l1 ++ l2) rfl, ← bT (l1 := l1) rfl]
 simp only [List.length_append]; omega
theorem dO {n : Nat} {e : Nat → CT} (js : List Nat) (h : js.all (fun j => Nat.blt j n) = true) : aA (js.map .i) (cfn (dJ n e)) = aA (js.map .i) e := by
 rw [jM, jM]
 congr 1
 apply List.map_congr_left
 intro j hj
 have := Nat.le_of_ble_eq_true (List.all_eq_true.1 h j hj)
 rw [cfn, jL (by omega)]; rfl
/-- w is where the text begins -/
def Pre (w : List UInt8) (its : List Item) (c : Nat → CT) : Prop := ∃ z, w ++ z = aA its c
section
variable {its : List Item} {c : Nat → CT} {w e : List UInt8}
theorem fits (h : Pre (w ++ e) its c) (hB : (aA its c).length ≤ 1073741824) : w.length + e.length ≤ 140737488355328 := by
 obtain ⟨z, h⟩ := h
 have := congrArg List.length h
 simp only [List.length_append] at this
 omega
theorem pre_all : Pre (aA its c) its c := ⟨[], List.append_nil _⟩
theorem mG (a : Nat) : Pre (aA (its.take a) c) its c := ⟨aA (its.drop a) c, bT (List.take_append_drop ..)⟩
theorem fA {l1 l2 : List Item} (b : Nat) (h : l1 ++ l2 = its.take b) : Pre (aA l1 c ++ aA l2 c) its c := by
 rw [bT h]; exact mG b
theorem cA {l1 : List Item} {a : Item} (b : Nat) (h : l1 ++ [a] = its.take b) : Pre (aA l1 c ++ bB a c) its c := by
 rw [bC h]; exact mG b
theorem uR {a : Item} : ∀ {its : List Item}, a ∈ its → (bB a c).length ≤ (aA its c).length
 | b :: r, h => by
  rw [aA, List.length_append]
  rcases List.mem_cons.1 h with rfl | h
  ·omega
  ·have := uR h; omega
theorem gN {l1 r1 : List Item} {k : Nat} {sub : List Item} (h : its = l1 ++ .rows k sub :: r1) {l : List (List CT)} (hl : rv (c k) = l) : Pre (aA l1 c ++ aF l.length) its c := by
 subst hl h
 refine ⟨aL sub (rv (c k)) ++ aA r1 c, ?_⟩
 rw [← bT (l1 := l1) (l2 := .rows k sub :: r1) rfl, aA, bB]
 simp only [List.append_assoc]; rfl
theorem qY {sub : List Item} (l1 l2 : List (List CT)) : aL sub (l1 ++ l2) = aL sub l1 ++ aL sub l2 := by simp [aL, List.flatMap_append]
theorem fG {l1 r1 : List Item} {k i : Nat} {sub s1 s2 : List Item} (h : its = l1 ++ .rows k sub :: r1) {l : List (List CT)} (hl : rv (c k) = l) {d : List CT} (hd : l[i]? = some d) (hs : sub = s1 ++ s2) :
 Pre ((aA l1 c ++ aF l.length ++ aL sub (l.take i)) ++ aA s1 (cfn d)) its c := by
 have h1 := gN (c := c) h hl
 subst hl
 have e : aL sub (rv (c k)) = aL sub ((rv (c k)).take i) ++ (aA s1 (cfn d) ++ aA s2 (cfn d)) ++ aL sub ((rv (c k)).drop (i + 1)) := by
  rw [bT hs.symm, dN hd, ← qY, List.take_append_drop]
 subst h
 refine ⟨aA s2 (cfn d) ++ (aL sub ((rv (c k)).drop (i + 1)) ++ aA r1 c), ?_⟩
 rw [← bT (l1 := l1) (l2 := .rows k sub :: r1) rfl, aA, bB]
 have e' : ((rv (c k)).flatMap fun r => aA sub (cfn r)) = aL sub (rv (c k)) := rfl
 rw [e', e]
 simp only [List.append_assoc]
/-- .. within a row -/
theorem aEv {l1 r1 : List Item} {k i : Nat} {sub : List Item} {w : List UInt8} (h : its = l1 ++ .rows k sub :: r1) {l : List (List CT)} (hl : rv (c k) = l) {d : List CT} (hd : l[i]? = some d) (hw : Pre w sub (cfn d)) :
 Pre ((aA l1 c ++ aF l.length ++ aL sub (l.take i)) ++ w) its c := by
 obtain ⟨z, hz⟩ := hw
 subst hl h
 have e : aL sub (rv (c k)) = aL sub ((rv (c k)).take i) ++ (w ++ z) ++ aL sub ((rv (c k)).drop (i + 1)) := by
  rw [hz, dN hd, ← qY, List.take_append_drop]
 refine ⟨z ++ (aL sub ((rv (c k)).drop (i + 1)) ++ aA r1 c), ?_⟩
 rw [← bT (l1 := l1) (l2 := .rows k sub :: r1) rfl, aA, bB]
 have e' : ((rv (c k)).flatMap fun r => aA sub (cfn r)) = aL sub (rv (c k)) := rfl
 rw [e', e]
 simp only [List.append_assoc]
theorem iB {l1 l3 : List Item} {k : Nat} {sub : List Item} {l : List (List CT)} (hl : rv (c k) = l) (h : l1 ++ [.rows k sub] = l3) : aA l1 c ++ aF l.length ++ aL sub (l.take l.length) = aA l3 c := by
 subst hl
 rw [← bC h, bB, List.take_length, List.append_assoc]; rfl
end
section
variable {A : Nat → Prop} {H S : AH} {ks : List Kd} {x : Nat → Value} {c : Nat → CT} {K m : Nat} {ex : Bool}
theorem nN {ks2 : List Kd} (h : Pts A H ks x c) (off : Nat) (e : (ks.drop off).take ks2.length = ks2) : Pts A H ks2 (fun i => x (off + i)) (fun i => c (off + i)) := fun i k hk => by
 refine h (off + i) k ?_
 rw [← e, List.getElem?_take] at hk
 split at hk
 ·rwa [List.getElem?_drop] at hk
 ·cases hk
theorem yI (px : Pts A S ks x c) {js : List Nat} (hj : js.all (fun j => oW ks[j]?) = true) : ∀ n ∈ js.map fun k => iv (c k), I64 n := fun n hn => by
 obtain ⟨j, hm, rfl⟩ := List.mem_map.1 hn
 exact nH px (pB (List.all_eq_true.1 hj j hm))
end
end Go.Proofs.YteklajiaicmogaaGreatDoor
namespace Go.Proofs.YteklajiaicmogaaGreatDoor
open Go Go.AM
theorem aNz {S : AH} {A : Nat → Prop} (hA : ∀ j, A j → j < S.nx) {w h : Int} {x : Value} {l : List (List CT)} (hx : CellA A S (.row 8 [.int .i64]) x (.row l)) (hv : ckE iI w h l = 0) : XCall Tryz.prog 39 [.agg ⟨[.int .i64 w, .int .i64 h, x]⟩] S fun v H' => v = .string ⟨⟨qU w h l⟩⟩ ∧ Kept S.nx S H' := by
 obtain ⟨w', h', rfl, rfl, hw, hh, _, _, hl, hp⟩ := qW hv
 refine bN (E := E) (n := 14) (rs := [.tmp 2]) (l := [(0, _)]) (aQ Tryz.func39 rfl rfl rfl) hA rfl ?_
 refine rB <| cZ rfl rfl nM rfl ?_
 intro N1
 refine oa rfl <| tq <| rB <| aV rfl rfl rfl (by exact bV V24 rfl fI rfl mA (by exact Nat.le_of_ble_eq_true rfl) (by rfl)) ?_
 refine oc aFo oV (fun H hH => (aCq hH.lt (CellA.gr hH.gr _ _ _ hx)).i hv) ?_
 refine ob rfl (by exact bP (by rfl)) ?_
 refine aB <| aG rfl <| aJ <| aD <| rB <| fo 0 V24 aI rfl <| lG rfl V3 ?_
 refine fo 1 V24 aI rfl <| lG rfl V3 ?_
 refine fo 2 V24 eI rfl <| lG rfl V22 ?_
 refine oc has80 oV (fun H hH => aTd hH.lt (CellA.gr hH.gr _ _ _ hx) (fun c hc => uQ (hp c hc)) hw hh hl) ?_
 refine oa rfl <| aB <| aT <| aE (.tmp rfl .nil) ?_
 exact fun H hH => ⟨rfl, hH.kept⟩
theorem aNb {S : AH} {A : Nat → Prop} (hA : ∀ j, A j → j < S.nx) {w h : Int} {x : Value} {l : List (List CT)} (hx : CellA A S (.row 32 kP) x (.row l)) (hv : ckE kV w h l = 0) : XCall Tryz.prog 40 [.agg ⟨[.int .i64 w, .int .i64 h, x]⟩] S fun v H' => v = .string ⟨⟨qT w h l⟩⟩ ∧ Kept S.nx S H' := by
 obtain ⟨w', h', rfl, rfl, hw, hh, _, _, hl, hp⟩ := qW hv
 refine bN (E := E) (n := 14) (rs := [.tmp 2]) (l := [(0, _)]) (aQ Tryz.func40 rfl rfl rfl) hA rfl ?_
 refine rB <| cZ rfl rfl nM rfl ?_
 intro N1
 refine oa rfl <| tq <| rB <| aV rfl rfl rfl (by exact bV V29 rfl fH rfl mA (by exact Nat.le_of_ble_eq_true rfl) (by rfl)) ?_
 refine oc aGl oV (fun H hH => (aCi hH.lt (CellA.gr hH.gr _ _ _ hx)).i hv) ?_
 refine ob rfl (by exact bP (by rfl)) ?_
 refine aB <| aG rfl <| aJ <| aD <| rB <| fo 0 V29 aI rfl <| lG rfl V3 ?_
 refine fo 1 V29 aI rfl <| lG rfl V3 ?_
 refine fo 2 V29 gZ rfl <| lG rfl V27 ?_
 refine oc has82 oV (fun H hH => aUb hH.lt (CellA.gr hH.gr _ _ _ hx) (fun c hc => vJ (hp c hc)) hw hh hl) ?_
 refine oa rfl <| aB <| aT <| aE (.tmp rfl .nil) ?_
 exact fun H hH => ⟨rfl, hH.kept⟩
end Go.Proofs.YteklajiaicmogaaGreatDoor
