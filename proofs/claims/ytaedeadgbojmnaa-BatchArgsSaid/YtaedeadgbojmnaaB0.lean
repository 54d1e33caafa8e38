/-
  The ground of the walks: the machine over this program, facts on its types and functions. Laid by program.
-/
import Derived.Test.YtaedeadgbojmnaaRows
import Derived.Test.YtaedeadgbojmnaaAM23
set_option linter.unusedVariables false
namespace Go.Proofs.Ytaedeadgbojmnaa
open Go Go.AM
theorem namesOk : (Try.prog.funcs.all fun F => !(F.name == "runtime.NumGoroutine")) = true := by kernel_rfl
theorem names (f : Nat) (F : Func) (h : Try.prog.funcs[f]? = some F) : (F.name == "runtime.NumGoroutine") = false := by
  have := namesOk
  rw [Array.all_eq_true] at this
  obtain ⟨hf, rfl⟩ := Array.getElem?_eq_some_iff.1 h
  simpa using this f hf
def eqTs : List Nat := [26, 31, 44, 46, 79, 85, 104, 118, 122]
theorem eqTsOk : (eqTs.all fun t => !(Try.prog.stoodInHeld t) && !(Try.prog.eqGuardType Try.prog.depth t)) = true := by kernel_rfl
def eqT (t : Nat) : Bool := eqTs.contains t
theorem eqT_ok (t : Nat) (h : eqT t = true) : Try.prog.stoodInHeld t = false ∧ Try.prog.eqGuardType Try.prog.depth t = false := by
  have := eqTsOk
  rw [List.all_eq_true] at this
  have := this t (by simpa [eqT] using h)
  simpa using this
noncomputable def E : Env Try.prog := Env.own Try.prog names eqT eqT_ok
theorem mixed : Try.prog.follows .mixedOrders = true := by kernel_rfl
theorem inf1 : E.inf 1 = some ⟨1, 8, some (.nilFunc)⟩ := by kernel_rfl
theorem inf2 : E.inf 2 = some ⟨1, 8, some (.int .i64 0)⟩ := by kernel_rfl
theorem inf3 : E.inf 3 = some ⟨1, 8, some (.int .i64 0)⟩ := by kernel_rfl
theorem inf4 : E.inf 4 = some ⟨1, 1, some (.bool false)⟩ := by kernel_rfl
theorem inf5 : E.inf 5 = some ⟨1, 1, some (.int .u8 0)⟩ := by kernel_rfl
theorem inf6 : E.inf 6 = some ⟨1, 1, some (.int .u8 0)⟩ := by kernel_rfl
theorem inf7 : E.inf 7 = some ⟨4, 24, some (.agg #[.int .i64 0, .int .i64 0, .bool false, .int .u8 0])⟩ := by kernel_rfl
theorem inf8 : E.inf 8 = some ⟨4, 24, some (.agg #[.int .i64 0, .int .i64 0, .bool false, .int .u8 0])⟩ := by kernel_rfl
theorem inf9 : E.inf 9 = some ⟨1, 16, some (.string ⟨#[]⟩)⟩ := by kernel_rfl
theorem inf10 : E.inf 10 = some ⟨1, 16, some (.string ⟨#[]⟩)⟩ := by kernel_rfl
theorem inf11 : E.inf 11 = some ⟨1, 16, some (.string ⟨#[]⟩)⟩ := by kernel_rfl
theorem inf12 : E.inf 12 = some ⟨1, 8, some (.int .u64 0)⟩ := by kernel_rfl
theorem inf13 : E.inf 13 = some ⟨2, 24, some (.agg #[.string ⟨#[]⟩, .int .u64 0])⟩ := by kernel_rfl
theorem inf14 : E.inf 14 = some ⟨2, 24, some (.agg #[.string ⟨#[]⟩, .int .u64 0])⟩ := by kernel_rfl
theorem inf15 : E.inf 15 = some ⟨1, 8, some (.pointer none)⟩ := by kernel_rfl
theorem inf16 : E.inf 16 = some ⟨1, 8, some (.pointer none)⟩ := by kernel_rfl
theorem inf17 : E.inf 17 = some ⟨1, 8, some (.pointer none)⟩ := by kernel_rfl
theorem inf18 : E.inf 18 = some ⟨1, 8, some (.agg #[.pointer none])⟩ := by kernel_rfl
theorem inf19 : E.inf 19 = some ⟨1, 8, some (.agg #[.pointer none])⟩ := by kernel_rfl
theorem inf20 : E.inf 20 = some ⟨1, 16, some (.nilIface)⟩ := by kernel_rfl
theorem inf21 : E.inf 21 = some ⟨1, 4, some (.int .i32 0)⟩ := by kernel_rfl
theorem inf22 : E.inf 22 = some ⟨1, 24, some (.slice none 0 0)⟩ := by kernel_rfl
theorem inf23 : E.inf 23 = some ⟨3, 40, some (.agg #[.int .i64 0, .int .i64 0, .slice none 0 0])⟩ := by kernel_rfl
theorem inf24 : E.inf 24 = some ⟨3, 40, some (.agg #[.int .i64 0, .int .i64 0, .slice none 0 0])⟩ := by kernel_rfl
theorem inf25 : E.inf 25 = some ⟨6, 48, some (.agg #[.int .i64 0, .int .i64 0, .int .i64 0, .int .i64 0, .int .i64 0, .int .i64 0])⟩ := by kernel_rfl
theorem inf26 : E.inf 26 = some ⟨6, 48, some (.agg #[.int .i64 0, .int .i64 0, .int .i64 0, .int .i64 0, .int .i64 0, .int .i64 0])⟩ := by kernel_rfl
theorem inf27 : E.inf 27 = some ⟨1, 24, some (.slice none 0 0)⟩ := by kernel_rfl
theorem inf28 : E.inf 28 = some ⟨3, 40, some (.agg #[.int .i64 0, .int .i64 0, .slice none 0 0])⟩ := by kernel_rfl
theorem inf29 : E.inf 29 = some ⟨3, 40, some (.agg #[.int .i64 0, .int .i64 0, .slice none 0 0])⟩ := by kernel_rfl
theorem inf30 : E.inf 30 = some ⟨4, 32, some (.agg #[.int .i64 0, .int .i64 0, .int .i64 0, .int .i64 0])⟩ := by kernel_rfl
theorem inf31 : E.inf 31 = some ⟨4, 32, some (.agg #[.int .i64 0, .int .i64 0, .int .i64 0, .int .i64 0])⟩ := by kernel_rfl
theorem inf32 : E.inf 32 = some ⟨1, 24, some (.slice none 0 0)⟩ := by kernel_rfl
theorem inf33 : E.inf 33 = some ⟨1, 24, some (.slice none 0 0)⟩ := by kernel_rfl
theorem inf34 : E.inf 34 = some ⟨1, 24, some (.slice none 0 0)⟩ := by kernel_rfl
theorem inf35 : E.inf 35 = some ⟨4, 48, some (.agg #[.int .i64 0, .int .i64 0, .int .i64 0, .slice none 0 0])⟩ := by kernel_rfl
theorem inf36 : E.inf 36 = some ⟨4, 48, some (.agg #[.int .i64 0, .int .i64 0, .int .i64 0, .slice none 0 0])⟩ := by kernel_rfl
theorem inf37 : E.inf 37 = some ⟨43, 440, some (.agg #[.int .i64 0, .int .i64 0, .int .i64 0, .string ⟨#[]⟩, .bool false, .bool false, .bool false, .int .i64 0, .int .i64 0, .int .i64 0, .int .i64 0, .slice none 0 0, .int .i64 0, .int .i64 0, .int .i64 0, .int .i64 0, .int .i64 0, .int .i64 0, .int .i64 0, .int .i64 0, .int .i64 0, .slice none 0 0, .int .i64 0, .int .i64 0, .int .i64 0, .int .i64 0, .int .i64 0, .slice none 0 0, .int .i64 0, .slice none 0 0, .slice none 0 0, .int .i64 0, .int .i64 0, .int .i64 0, .int .i64 0, .string ⟨#[]⟩, .int .i64 0, .int .i64 0, .int .i64 0, .int .i64 0, .int .i64 0, .int .i64 0, .slice none 0 0])⟩ := by kernel_rfl
theorem inf38 : E.inf 38 = some ⟨43, 440, some (.agg #[.int .i64 0, .int .i64 0, .int .i64 0, .string ⟨#[]⟩, .bool false, .bool false, .bool false, .int .i64 0, .int .i64 0, .int .i64 0, .int .i64 0, .slice none 0 0, .int .i64 0, .int .i64 0, .int .i64 0, .int .i64 0, .int .i64 0, .int .i64 0, .int .i64 0, .int .i64 0, .int .i64 0, .slice none 0 0, .int .i64 0, .int .i64 0, .int .i64 0, .int .i64 0, .int .i64 0, .slice none 0 0, .int .i64 0, .slice none 0 0, .slice none 0 0, .int .i64 0, .int .i64 0, .int .i64 0, .int .i64 0, .string ⟨#[]⟩, .int .i64 0, .int .i64 0, .int .i64 0, .int .i64 0, .int .i64 0, .int .i64 0, .slice none 0 0])⟩ := by kernel_rfl
theorem inf39 : E.inf 39 = some ⟨1, 24, some (.slice none 0 0)⟩ := by kernel_rfl
theorem inf40 : E.inf 40 = some ⟨16, 144, some (.agg #[.int .i64 0, .int .i64 0, .int .i64 0, .int .i64 0, .int .i64 0, .int .i64 0, .int .i64 0, .int .i64 0, .int .i64 0, .int .i64 0, .int .i64 0, .int .i64 0, .int .i64 0, .int .i64 0, .slice none 0 0, .bool false])⟩ := by kernel_rfl
theorem inf41 : E.inf 41 = some ⟨16, 144, some (.agg #[.int .i64 0, .int .i64 0, .int .i64 0, .int .i64 0, .int .i64 0, .int .i64 0, .int .i64 0, .int .i64 0, .int .i64 0, .int .i64 0, .int .i64 0, .int .i64 0, .int .i64 0, .int .i64 0, .slice none 0 0, .bool false])⟩ := by kernel_rfl
theorem inf42 : E.inf 42 = some ⟨1, 24, some (.slice none 0 0)⟩ := by kernel_rfl
theorem inf43 : E.inf 43 = some ⟨2, 16, some (.agg #[.int .i64 0, .int .i64 0])⟩ := by kernel_rfl
theorem inf44 : E.inf 44 = some ⟨2, 16, some (.agg #[.int .i64 0, .int .i64 0])⟩ := by kernel_rfl
theorem inf45 : E.inf 45 = some ⟨4, 32, some (.agg #[.int .i64 0, .int .i64 0, .int .i64 0, .int .i64 0])⟩ := by kernel_rfl
theorem inf46 : E.inf 46 = some ⟨4, 32, some (.agg #[.int .i64 0, .int .i64 0, .int .i64 0, .int .i64 0])⟩ := by kernel_rfl
theorem inf47 : E.inf 47 = some ⟨84, 848, some (.agg #[.int .i64 0, .int .i64 0, .int .i64 0, .int .i64 0, .int .i64 0, .int .i64 0, .string ⟨#[]⟩, .string ⟨#[]⟩, .int .i64 0, .int .i64 0, .int .i64 0, .string ⟨#[]⟩, .bool false, .bool false, .bool false, .int .i64 0, .int .i64 0, .int .i64 0, .int .i64 0, .slice none 0 0, .int .i64 0, .int .i64 0, .int .i64 0, .int .i64 0, .int .i64 0, .int .i64 0, .int .i64 0, .int .i64 0, .int .i64 0, .slice none 0 0, .int .i64 0, .int .i64 0, .int .i64 0, .int .i64 0, .int .i64 0, .slice none 0 0, .int .i64 0, .slice none 0 0, .slice none 0 0, .int .i64 0, .int .i64 0, .int .i64 0, .int .i64 0, .string ⟨#[]⟩, .int .i64 0, .int .i64 0, .int .i64 0, .int .i64 0, .int .i64 0, .int .i64 0, .slice none 0 0, .int .i64 0, .int .i64 0, .slice none 0 0, .int .i64 0, .int .i64 0, .slice none 0 0, .int .i64 0, .int .i64 0, .int .i64 0, .int .i64 0, .int .i64 0, .int .i64 0, .int .i64 0, .int .i64 0, .int .i64 0, .int .i64 0, .int .i64 0, .int .i64 0, .int .i64 0, .int .i64 0, .slice none 0 0, .bool false, .slice none 0 0, .int .i64 0, .int .i64 0, .int .i64 0, .int .i64 0, .int .i64 0, .int .i64 0, .int .i64 0, .int .i64 0, .int .i64 0, .int .i64 0])⟩ := by kernel_rfl
theorem inf48 : E.inf 48 = some ⟨84, 848, some (.agg #[.int .i64 0, .int .i64 0, .int .i64 0, .int .i64 0, .int .i64 0, .int .i64 0, .string ⟨#[]⟩, .string ⟨#[]⟩, .int .i64 0, .int .i64 0, .int .i64 0, .string ⟨#[]⟩, .bool false, .bool false, .bool false, .int .i64 0, .int .i64 0, .int .i64 0, .int .i64 0, .slice none 0 0, .int .i64 0, .int .i64 0, .int .i64 0, .int .i64 0, .int .i64 0, .int .i64 0, .int .i64 0, .int .i64 0, .int .i64 0, .slice none 0 0, .int .i64 0, .int .i64 0, .int .i64 0, .int .i64 0, .int .i64 0, .slice none 0 0, .int .i64 0, .slice none 0 0, .slice none 0 0, .int .i64 0, .int .i64 0, .int .i64 0, .int .i64 0, .string ⟨#[]⟩, .int .i64 0, .int .i64 0, .int .i64 0, .int .i64 0, .int .i64 0, .int .i64 0, .slice none 0 0, .int .i64 0, .int .i64 0, .slice none 0 0, .int .i64 0, .int .i64 0, .slice none 0 0, .int .i64 0, .int .i64 0, .int .i64 0, .int .i64 0, .int .i64 0, .int .i64 0, .int .i64 0, .int .i64 0, .int .i64 0, .int .i64 0, .int .i64 0, .int .i64 0, .int .i64 0, .int .i64 0, .slice none 0 0, .bool false, .slice none 0 0, .int .i64 0, .int .i64 0, .int .i64 0, .int .i64 0, .int .i64 0, .int .i64 0, .int .i64 0, .int .i64 0, .int .i64 0, .int .i64 0])⟩ := by kernel_rfl
theorem inf49 : E.inf 49 = some ⟨1, 24, some (.slice none 0 0)⟩ := by kernel_rfl
theorem inf50 : E.inf 50 = some ⟨85, 872, some (.agg #[.int .i64 0, .int .i64 0, .int .i64 0, .int .i64 0, .int .i64 0, .int .i64 0, .string ⟨#[]⟩, .string ⟨#[]⟩, .int .i64 0, .int .i64 0, .int .i64 0, .string ⟨#[]⟩, .bool false, .bool false, .bool false, .int .i64 0, .int .i64 0, .int .i64 0, .int .i64 0, .slice none 0 0, .int .i64 0, .int .i64 0, .int .i64 0, .int .i64 0, .int .i64 0, .int .i64 0, .int .i64 0, .int .i64 0, .int .i64 0, .slice none 0 0, .int .i64 0, .int .i64 0, .int .i64 0, .int .i64 0, .int .i64 0, .slice none 0 0, .int .i64 0, .slice none 0 0, .slice none 0 0, .int .i64 0, .int .i64 0, .int .i64 0, .int .i64 0, .string ⟨#[]⟩, .int .i64 0, .int .i64 0, .int .i64 0, .int .i64 0, .int .i64 0, .int .i64 0, .slice none 0 0, .int .i64 0, .int .i64 0, .slice none 0 0, .int .i64 0, .int .i64 0, .slice none 0 0, .int .i64 0, .int .i64 0, .int .i64 0, .int .i64 0, .int .i64 0, .int .i64 0, .int .i64 0, .int .i64 0, .int .i64 0, .int .i64 0, .int .i64 0, .int .i64 0, .int .i64 0, .int .i64 0, .slice none 0 0, .bool false, .slice none 0 0, .int .i64 0, .int .i64 0, .int .i64 0, .int .i64 0, .int .i64 0, .int .i64 0, .int .i64 0, .int .i64 0, .int .i64 0, .int .i64 0, .slice none 0 0])⟩ := by kernel_rfl
theorem inf51 : E.inf 51 = some ⟨85, 872, some (.agg #[.int .i64 0, .int .i64 0, .int .i64 0, .int .i64 0, .int .i64 0, .int .i64 0, .string ⟨#[]⟩, .string ⟨#[]⟩, .int .i64 0, .int .i64 0, .int .i64 0, .string ⟨#[]⟩, .bool false, .bool false, .bool false, .int .i64 0, .int .i64 0, .int .i64 0, .int .i64 0, .slice none 0 0, .int .i64 0, .int .i64 0, .int .i64 0, .int .i64 0, .int .i64 0, .int .i64 0, .int .i64 0, .int .i64 0, .int .i64 0, .slice none 0 0, .int .i64 0, .int .i64 0, .int .i64 0, .int .i64 0, .int .i64 0, .slice none 0 0, .int .i64 0, .slice none 0 0, .slice none 0 0, .int .i64 0, .int .i64 0, .int .i64 0, .int .i64 0, .string ⟨#[]⟩, .int .i64 0, .int .i64 0, .int .i64 0, .int .i64 0, .int .i64 0, .int .i64 0, .slice none 0 0, .int .i64 0, .int .i64 0, .slice none 0 0, .int .i64 0, .int .i64 0, .slice none 0 0, .int .i64 0, .int .i64 0, .int .i64 0, .int .i64 0, .int .i64 0, .int .i64 0, .int .i64 0, .int .i64 0, .int .i64 0, .int .i64 0, .int .i64 0, .int .i64 0, .int .i64 0, .int .i64 0, .slice none 0 0, .bool false, .slice none 0 0, .int .i64 0, .int .i64 0, .int .i64 0, .int .i64 0, .int .i64 0, .int .i64 0, .int .i64 0, .int .i64 0, .int .i64 0, .int .i64 0, .slice none 0 0])⟩ := by kernel_rfl
theorem inf52 : E.inf 52 = some ⟨1, 24, some (.slice none 0 0)⟩ := by kernel_rfl
theorem inf53 : E.inf 53 = some ⟨1, 8, some (.int .i64 0)⟩ := by kernel_rfl
theorem inf55 : E.inf 55 = some ⟨1, 8, some (.nilFunc)⟩ := by kernel_rfl
theorem inf56 : E.inf 56 = some ⟨1, 8, some (.nilFunc)⟩ := by kernel_rfl
theorem inf57 : E.inf 57 = some ⟨1, 8, some (.nilFunc)⟩ := by kernel_rfl
theorem inf58 : E.inf 58 = some ⟨1, 8, some (.nilFunc)⟩ := by kernel_rfl
theorem inf59 : E.inf 59 = some ⟨1, 24, some (.slice none 0 0)⟩ := by kernel_rfl
theorem inf60 : E.inf 60 = some ⟨1, 24, some (.slice none 0 0)⟩ := by kernel_rfl
theorem inf61 : E.inf 61 = some ⟨1, 24, some (.slice none 0 0)⟩ := by kernel_rfl
theorem inf63 : E.inf 63 = some ⟨1, 8, some (.nilFunc)⟩ := by kernel_rfl
theorem inf64 : E.inf 64 = some ⟨1, 8, some (.nilFunc)⟩ := by kernel_rfl
theorem inf65 : E.inf 65 = some ⟨1, 8, some (.nilFunc)⟩ := by kernel_rfl
theorem inf66 : E.inf 66 = some ⟨1, 8, some (.nilFunc)⟩ := by kernel_rfl
theorem inf67 : E.inf 67 = some ⟨1, 24, some (.slice none 0 0)⟩ := by kernel_rfl
theorem inf68 : E.inf 68 = some ⟨1, 8, some (.nilFunc)⟩ := by kernel_rfl
theorem inf69 : E.inf 69 = some ⟨1, 8, some (.nilFunc)⟩ := by kernel_rfl
theorem inf70 : E.inf 70 = some ⟨1, 8, some (.nilFunc)⟩ := by kernel_rfl
theorem inf71 : E.inf 71 = some ⟨1, 8, some (.nilFunc)⟩ := by kernel_rfl
theorem inf72 : E.inf 72 = some ⟨2, 24, some (.agg #[.string ⟨#[]⟩, .int .i64 0])⟩ := by kernel_rfl
theorem inf73 : E.inf 73 = some ⟨2, 24, some (.agg #[.string ⟨#[]⟩, .int .i64 0])⟩ := by kernel_rfl
theorem inf74 : E.inf 74 = some ⟨1, 8, some (.nilFunc)⟩ := by kernel_rfl
theorem inf75 : E.inf 75 = some ⟨1, 8, some (.map none)⟩ := by kernel_rfl
theorem inf77 : E.inf 77 = some ⟨1, 8, some (.nilFunc)⟩ := by kernel_rfl
theorem inf78 : E.inf 78 = some ⟨2, 32, some (.agg #[.string ⟨#[]⟩, .string ⟨#[]⟩])⟩ := by kernel_rfl
theorem inf79 : E.inf 79 = some ⟨2, 32, some (.agg #[.string ⟨#[]⟩, .string ⟨#[]⟩])⟩ := by kernel_rfl
theorem inf80 : E.inf 80 = some ⟨1, 8, some (.pointer none)⟩ := by kernel_rfl
theorem inf81 : E.inf 81 = some ⟨1, 8, some (.nilFunc)⟩ := by kernel_rfl
theorem inf82 : E.inf 82 = some ⟨1, 8, some (.pointer none)⟩ := by kernel_rfl
theorem inf83 : E.inf 83 = some ⟨1, 8, some (.nilFunc)⟩ := by kernel_rfl
theorem inf84 : E.inf 84 = some ⟨5, 40, some (.agg #[.int .i64 0, .int .i64 0, .int .i64 0, .int .i64 0, .int .i64 0])⟩ := by kernel_rfl
theorem inf85 : E.inf 85 = some ⟨5, 40, some (.agg #[.int .i64 0, .int .i64 0, .int .i64 0, .int .i64 0, .int .i64 0])⟩ := by kernel_rfl
theorem inf86 : E.inf 86 = some ⟨1, 8, some (.nilFunc)⟩ := by kernel_rfl
theorem inf87 : E.inf 87 = some ⟨1, 8, some (.nilFunc)⟩ := by kernel_rfl
theorem inf88 : E.inf 88 = some ⟨1, 8, some (.nilFunc)⟩ := by kernel_rfl
theorem inf89 : E.inf 89 = some ⟨1, 8, some (.nilFunc)⟩ := by kernel_rfl
theorem inf90 : E.inf 90 = some ⟨1, 8, some (.nilFunc)⟩ := by kernel_rfl
theorem inf91 : E.inf 91 = some ⟨1, 8, some (.nilFunc)⟩ := by kernel_rfl
theorem inf92 : E.inf 92 = some ⟨1, 8, some (.nilFunc)⟩ := by kernel_rfl
theorem inf93 : E.inf 93 = some ⟨1, 8, some (.nilFunc)⟩ := by kernel_rfl
theorem inf94 : E.inf 94 = some ⟨1, 8, some (.nilFunc)⟩ := by kernel_rfl
theorem inf95 : E.inf 95 = some ⟨1, 8, some (.nilFunc)⟩ := by kernel_rfl
theorem inf96 : E.inf 96 = some ⟨1, 8, some (.nilFunc)⟩ := by kernel_rfl
theorem inf97 : E.inf 97 = some ⟨1, 8, some (.nilFunc)⟩ := by kernel_rfl
theorem inf98 : E.inf 98 = some ⟨1, 8, some (.nilFunc)⟩ := by kernel_rfl
theorem inf99 : E.inf 99 = some ⟨1, 8, some (.nilFunc)⟩ := by kernel_rfl
theorem inf100 : E.inf 100 = some ⟨1, 24, some (.slice none 0 0)⟩ := by kernel_rfl
theorem inf101 : E.inf 101 = some ⟨3, 40, some (.agg #[.int .i64 0, .int .i64 0, .slice none 0 0])⟩ := by kernel_rfl
theorem inf102 : E.inf 102 = some ⟨3, 40, some (.agg #[.int .i64 0, .int .i64 0, .slice none 0 0])⟩ := by kernel_rfl
theorem inf103 : E.inf 103 = some ⟨1, 8, some (.nilFunc)⟩ := by kernel_rfl
theorem inf104 : E.inf 104 = some ⟨2, 16, some (.agg #[.int .i64 0, .int .i64 0])⟩ := by kernel_rfl
theorem inf105 : E.inf 105 = some ⟨1, 8, some (.nilFunc)⟩ := by kernel_rfl
theorem inf106 : E.inf 106 = some ⟨1, 8, some (.nilFunc)⟩ := by kernel_rfl
theorem inf107 : E.inf 107 = some ⟨1, 8, some (.nilFunc)⟩ := by kernel_rfl
theorem inf108 : E.inf 108 = some ⟨1, 8, some (.nilFunc)⟩ := by kernel_rfl
theorem inf109 : E.inf 109 = some ⟨1, 8, some (.nilFunc)⟩ := by kernel_rfl
theorem inf110 : E.inf 110 = some ⟨1, 8, some (.nilFunc)⟩ := by kernel_rfl
theorem inf111 : E.inf 111 = some ⟨1, 8, some (.nilFunc)⟩ := by kernel_rfl
theorem inf112 : E.inf 112 = some ⟨1, 8, some (.nilFunc)⟩ := by kernel_rfl
theorem inf113 : E.inf 113 = some ⟨1, 8, some (.nilFunc)⟩ := by kernel_rfl
theorem inf114 : E.inf 114 = some ⟨1, 8, some (.nilFunc)⟩ := by kernel_rfl
theorem inf115 : E.inf 115 = some ⟨1, 8, some (.int .u64 0)⟩ := by kernel_rfl
theorem inf116 : E.inf 116 = some ⟨1, 8, some (.nilFunc)⟩ := by kernel_rfl
theorem inf117 : E.inf 117 = some ⟨5, 40, some (.agg #[.int .i64 0, .int .i64 0, .int .i64 0, .int .i64 0, .int .i64 0])⟩ := by kernel_rfl
theorem inf118 : E.inf 118 = some ⟨5, 40, some (.agg #[.int .i64 0, .int .i64 0, .int .i64 0, .int .i64 0, .int .i64 0])⟩ := by kernel_rfl
theorem inf119 : E.inf 119 = some ⟨1, 8, some (.nilFunc)⟩ := by kernel_rfl
theorem inf120 : E.inf 120 = some ⟨6, 48, some (.agg #[.int .i64 0, .int .i64 0, .int .i64 0, .int .i64 0, .int .i64 0, .int .i64 0])⟩ := by kernel_rfl
theorem inf121 : E.inf 121 = some ⟨7, 56, some (.agg #[.int .i64 0, .int .i64 0, .int .i64 0, .int .i64 0, .int .i64 0, .int .i64 0, .int .i64 0])⟩ := by kernel_rfl
theorem inf122 : E.inf 122 = some ⟨7, 56, some (.agg #[.int .i64 0, .int .i64 0, .int .i64 0, .int .i64 0, .int .i64 0, .int .i64 0, .int .i64 0])⟩ := by kernel_rfl
theorem inf123 : E.inf 123 = some ⟨1, 8, some (.nilFunc)⟩ := by kernel_rfl
theorem inf124 : E.inf 124 = some ⟨1, 8, some (.nilFunc)⟩ := by kernel_rfl
theorem inf125 : E.inf 125 = some ⟨1, 8, some (.nilFunc)⟩ := by kernel_rfl
theorem inf126 : E.inf 126 = some ⟨1, 8, some (.nilFunc)⟩ := by kernel_rfl
theorem inf127 : E.inf 127 = some ⟨1, 8, some (.nilFunc)⟩ := by kernel_rfl
theorem inf128 : E.inf 128 = some ⟨1, 8, some (.nilFunc)⟩ := by kernel_rfl
theorem inf129 : E.inf 129 = some ⟨1, 8, some (.nilFunc)⟩ := by kernel_rfl
theorem inf130 : E.inf 130 = some ⟨1, 8, some (.int .i64 0)⟩ := by kernel_rfl
theorem inf132 : E.inf 132 = some ⟨1, 8, some (.nilFunc)⟩ := by kernel_rfl
theorem inf133 : E.inf 133 = some ⟨1, 8, some (.nilFunc)⟩ := by kernel_rfl
theorem inf134 : E.inf 134 = some ⟨1, 8, some (.nilFunc)⟩ := by kernel_rfl
theorem inf135 : E.inf 135 = some ⟨1, 8, some (.nilFunc)⟩ := by kernel_rfl
theorem inf136 : E.inf 136 = some ⟨1, 8, some (.nilFunc)⟩ := by kernel_rfl
theorem inf137 : E.inf 137 = some ⟨1, 8, some (.nilFunc)⟩ := by kernel_rfl
theorem inf138 : E.inf 138 = some ⟨1, 4, some (.int .u32 0)⟩ := by kernel_rfl
theorem inf139 : E.inf 139 = some ⟨1, 8, some (.nilFunc)⟩ := by kernel_rfl
theorem inf140 : E.inf 140 = some ⟨1, 8, some (.int .u64 0)⟩ := by kernel_rfl
theorem inf141 : E.inf 141 = some ⟨1, 8, some (.int .u64 0)⟩ := by kernel_rfl
theorem inf142 : E.inf 142 = some ⟨1, 8, some (.nilFunc)⟩ := by kernel_rfl
theorem inf143 : E.inf 143 = some ⟨1, 8, some (.nilFunc)⟩ := by kernel_rfl
theorem inf144 : E.inf 144 = some ⟨1, 8, some (.nilFunc)⟩ := by kernel_rfl
theorem inf145 : E.inf 145 = some ⟨1, 8, some (.nilFunc)⟩ := by kernel_rfl
theorem inf146 : E.inf 146 = some ⟨1, 8, some (.pointer none)⟩ := by kernel_rfl
theorem inf148 : E.inf 148 = some ⟨1, 8, some (.nilFunc)⟩ := by kernel_rfl
theorem inf149 : E.inf 149 = some ⟨1, 8, some (.nilFunc)⟩ := by kernel_rfl
theorem inf150 : E.inf 150 = some ⟨4, 40, some (.agg #[.pointer none, .pointer none, .pointer none, .string ⟨#[]⟩])⟩ := by kernel_rfl
theorem inf151 : E.inf 151 = some ⟨4, 40, some (.agg #[.pointer none, .pointer none, .pointer none, .string ⟨#[]⟩])⟩ := by kernel_rfl
theorem inf152 : E.inf 152 = some ⟨0, 0, some (.agg #[])⟩ := by kernel_rfl
theorem inf153 : E.inf 153 = some ⟨0, 0, some (.agg #[])⟩ := by kernel_rfl
theorem inf154 : E.inf 154 = some ⟨0, 0, some (.agg #[])⟩ := by kernel_rfl
theorem inf155 : E.inf 155 = some ⟨1, 8, some (.nilFunc)⟩ := by kernel_rfl
theorem inf156 : E.inf 156 = some ⟨1, 1, some (.int .u8 0)⟩ := by kernel_rfl
theorem inf157 : E.inf 157 = some ⟨1, 1, some (.int .u8 0)⟩ := by kernel_rfl
theorem inf158 : E.inf 158 = some ⟨1, 8, some (.nilFunc)⟩ := by kernel_rfl
theorem inf159 : E.inf 159 = some ⟨1, 8, some (.pointer none)⟩ := by kernel_rfl
theorem inf160 : E.inf 160 = some ⟨1, 4, some (.int .i32 0)⟩ := by kernel_rfl
theorem inf161 : E.inf 161 = some ⟨1, 4, some (.int .i32 0)⟩ := by kernel_rfl
theorem inf162 : E.inf 162 = some ⟨11, 48, some (.agg #[.int .u64 0, .int .u64 0, .int .u32 0, .int .u8 0, .int .u8 0, .int .u8 0, .int .u8 0, .nilFunc, .pointer none, .int .i32 0, .int .i32 0])⟩ := by kernel_rfl
theorem inf163 : E.inf 163 = some ⟨11, 48, some (.agg #[.int .u64 0, .int .u64 0, .int .u32 0, .int .u8 0, .int .u8 0, .int .u8 0, .int .u8 0, .nilFunc, .pointer none, .int .i32 0, .int .i32 0])⟩ := by kernel_rfl
theorem inf164 : E.inf 164 = some ⟨1, 8, some (.pointer none)⟩ := by kernel_rfl
def k24 : List Kd := [.int .i64, .int .i64, .row 8 [.int .i64]]
def k26 : List Kd := [.int .i64, .int .i64, .int .i64, .int .i64, .int .i64, .int .i64]
def k29 : List Kd := [.int .i64, .int .i64, .row 32 [.int .i64, .int .i64, .int .i64, .int .i64]]
def k31 : List Kd := [.int .i64, .int .i64, .int .i64, .int .i64]
def k36 : List Kd := [.int .i64, .int .i64, .int .i64, .row 16 [.int .i64, .int .i64]]
def k38 : List Kd := .int .i64 :: .int .i64 :: .int .i64 :: .str :: .bool :: .bool :: .bool :: .int .i64 :: .int .i64 :: .int .i64 :: .int .i64 :: .row 8 [.int .i64] :: .int .i64 :: .int .i64 :: .int .i64 :: .int .i64 :: .int .i64 :: .int .i64 :: .int .i64 :: .int .i64 :: .int .i64 :: .row 32 [.int .i64, .int .i64, .int .i64, .int .i64] :: .int .i64 :: .int .i64 :: .int .i64 :: .int .i64 :: .int .i64 :: .row 8 [.int .i64] :: .int .i64 :: .row 40 [.int .i64, .int .i64, .int .i64, .int .i64, .int .i64] :: .row 56 [.int .i64, .int .i64, .int .i64, .int .i64, .int .i64, .int .i64, .int .i64] :: .int .i64 :: .int .i64 :: .int .i64 :: .int .i64 :: .str :: .int .i64 :: .int .i64 :: .int .i64 :: .int .i64 :: .int .i64 :: .int .i64 :: .row 16 [.int .i64, .int .i64] :: []
def k41 : List Kd := .int .i64 :: .int .i64 :: .int .i64 :: .int .i64 :: .int .i64 :: .int .i64 :: .int .i64 :: .int .i64 :: .int .i64 :: .int .i64 :: .int .i64 :: .int .i64 :: .int .i64 :: .int .i64 :: .row 40 [.int .i64, .int .i64, .row 16 [.int .i64, .int .i64]] :: .bool :: []
def k44 : List Kd := [.int .i64, .int .i64]
def k46 : List Kd := [.int .i64, .int .i64, .int .i64, .int .i64]
def k48 : List Kd := .int .i64 :: .int .i64 :: .int .i64 :: .int .i64 :: .int .i64 :: .int .i64 :: .str :: .str :: .int .i64 :: .int .i64 :: .int .i64 :: .str :: .bool :: .bool :: .bool :: .int .i64 :: .int .i64 :: .int .i64 :: .int .i64 :: .row 8 [.int .i64] :: .int .i64 :: .int .i64 :: .int .i64 :: .int .i64 :: .int .i64 :: .int .i64 :: .int .i64 :: .int .i64 :: .int .i64 :: .row 32 [.int .i64, .int .i64, .int .i64, .int .i64] :: .int .i64 :: .int .i64 :: .int .i64 :: .int .i64 :: .int .i64 :: .row 8 [.int .i64] :: .int .i64 :: .row 40 [.int .i64, .int .i64, .int .i64, .int .i64, .int .i64] :: .row 56 [.int .i64, .int .i64, .int .i64, .int .i64, .int .i64, .int .i64, .int .i64] :: .int .i64 :: .int .i64 :: .int .i64 :: .int .i64 :: .str :: .int .i64 :: .int .i64 :: .int .i64 :: .int .i64 :: .int .i64 :: .int .i64 :: .row 16 [.int .i64, .int .i64] :: .int .i64 :: .int .i64 :: .row 8 [.int .i64] :: .int .i64 :: .int .i64 :: .row 32 [.int .i64, .int .i64, .int .i64, .int .i64] :: .int .i64 :: .int .i64 :: .int .i64 :: .int .i64 :: .int .i64 :: .int .i64 :: .int .i64 :: .int .i64 :: .int .i64 :: .int .i64 :: .int .i64 :: .int .i64 :: .int .i64 :: .int .i64 :: .row 40 [.int .i64, .int .i64, .row 16 [.int .i64, .int .i64]] :: .bool :: .row 40 [.int .i64, .int .i64, .int .i64, .int .i64, .int .i64] :: .int .i64 :: .int .i64 :: .int .i64 :: .int .i64 :: .int .i64 :: .int .i64 :: .int .i64 :: .int .i64 :: .int .i64 :: .int .i64 :: []
def k51 : List Kd := .int .i64 :: .int .i64 :: .int .i64 :: .int .i64 :: .int .i64 :: .int .i64 :: .str :: .str :: .int .i64 :: .int .i64 :: .int .i64 :: .str :: .bool :: .bool :: .bool :: .int .i64 :: .int .i64 :: .int .i64 :: .int .i64 :: .row 8 [.int .i64] :: .int .i64 :: .int .i64 :: .int .i64 :: .int .i64 :: .int .i64 :: .int .i64 :: .int .i64 :: .int .i64 :: .int .i64 :: .row 32 [.int .i64, .int .i64, .int .i64, .int .i64] :: .int .i64 :: .int .i64 :: .int .i64 :: .int .i64 :: .int .i64 :: .row 8 [.int .i64] :: .int .i64 :: .row 40 [.int .i64, .int .i64, .int .i64, .int .i64, .int .i64] :: .row 56 [.int .i64, .int .i64, .int .i64, .int .i64, .int .i64, .int .i64, .int .i64] :: .int .i64 :: .int .i64 :: .int .i64 :: .int .i64 :: .str :: .int .i64 :: .int .i64 :: .int .i64 :: .int .i64 :: .int .i64 :: .int .i64 :: .row 16 [.int .i64, .int .i64] :: .int .i64 :: .int .i64 :: .row 8 [.int .i64] :: .int .i64 :: .int .i64 :: .row 32 [.int .i64, .int .i64, .int .i64, .int .i64] :: .int .i64 :: .int .i64 :: .int .i64 :: .int .i64 :: .int .i64 :: .int .i64 :: .int .i64 :: .int .i64 :: .int .i64 :: .int .i64 :: .int .i64 :: .int .i64 :: .int .i64 :: .int .i64 :: .row 40 [.int .i64, .int .i64, .row 16 [.int .i64, .int .i64]] :: .bool :: .row 40 [.int .i64, .int .i64, .int .i64, .int .i64, .int .i64] :: .int .i64 :: .int .i64 :: .int .i64 :: .int .i64 :: .int .i64 :: .int .i64 :: .int .i64 :: .int .i64 :: .int .i64 :: .int .i64 :: .row 32 [.str, .str] :: []
def k73 : List Kd := [.str, .int .i64]
def k79 : List Kd := [.str, .str]
def k85 : List Kd := [.int .i64, .int .i64, .int .i64, .int .i64, .int .i64]
def k102 : List Kd := [.int .i64, .int .i64, .row 16 [.int .i64, .int .i64]]
def k104 : List Kd := [.int .i64, .int .i64]
def k118 : List Kd := [.int .i64, .int .i64, .int .i64, .int .i64, .int .i64]
def k122 : List Kd := [.int .i64, .int .i64, .int .i64, .int .i64, .int .i64, .int .i64, .int .i64]
theorem has3 : ∃ fn, E.fn 3 = some fn := ⟨_, fn_own Try.func3 rfl rfl rfl⟩
theorem has4 : ∃ fn, E.fn 4 = some fn := ⟨_, fn_own Try.func4 rfl rfl rfl⟩
theorem has5 : ∃ fn, E.fn 5 = some fn := ⟨_, fn_own Try.func5 rfl rfl rfl⟩
theorem has6 : ∃ fn, E.fn 6 = some fn := ⟨_, fn_own Try.func6 rfl rfl rfl⟩
theorem has7 : ∃ fn, E.fn 7 = some fn := ⟨_, fn_own Try.func7 rfl rfl rfl⟩
theorem has8 : ∃ fn, E.fn 8 = some fn := ⟨_, fn_own Try.func8 rfl rfl rfl⟩
theorem has9 : ∃ fn, E.fn 9 = some fn := ⟨_, fn_own Try.func9 rfl rfl rfl⟩
theorem has10 : ∃ fn, E.fn 10 = some fn := ⟨_, fn_own Try.func10 rfl rfl rfl⟩
theorem has11 : ∃ fn, E.fn 11 = some fn := ⟨_, fn_own Try.func11 rfl rfl rfl⟩
theorem has12 : ∃ fn, E.fn 12 = some fn := ⟨_, fn_own Try.func12 rfl rfl rfl⟩
theorem has13 : ∃ fn, E.fn 13 = some fn := ⟨_, fn_own Try.func13 rfl rfl rfl⟩
theorem has14 : ∃ fn, E.fn 14 = some fn := ⟨_, fn_own Try.func14 rfl rfl rfl⟩
theorem has15 : ∃ fn, E.fn 15 = some fn := ⟨_, fn_own Try.func15 rfl rfl rfl⟩
theorem has16 : ∃ fn, E.fn 16 = some fn := ⟨_, fn_own Try.func16 rfl rfl rfl⟩
theorem has17 : ∃ fn, E.fn 17 = some fn := ⟨_, fn_own Try.func17 rfl rfl rfl⟩
theorem has18 : ∃ fn, E.fn 18 = some fn := ⟨_, fn_own Try.func18 rfl rfl rfl⟩
theorem has19 : ∃ fn, E.fn 19 = some fn := ⟨_, fn_own Try.func19 rfl rfl rfl⟩
theorem has20 : ∃ fn, E.fn 20 = some fn := ⟨_, fn_own Try.func20 rfl rfl rfl⟩
theorem has21 : ∃ fn, E.fn 21 = some fn := ⟨_, fn_own Try.func21 rfl rfl rfl⟩
theorem has22 : ∃ fn, E.fn 22 = some fn := ⟨_, fn_own Try.func22 rfl rfl rfl⟩
theorem has23 : ∃ fn, E.fn 23 = some fn := ⟨_, fn_own Try.func23 rfl rfl rfl⟩
theorem has24 : ∃ fn, E.fn 24 = some fn := ⟨_, fn_own Try.func24 rfl rfl rfl⟩
theorem has25 : ∃ fn, E.fn 25 = some fn := ⟨_, fn_own Try.func25 rfl rfl rfl⟩
theorem has26 : ∃ fn, E.fn 26 = some fn := ⟨_, fn_own Try.func26 rfl rfl rfl⟩
theorem has27 : ∃ fn, E.fn 27 = some fn := ⟨_, fn_own Try.func27 rfl rfl rfl⟩
theorem has28 : ∃ fn, E.fn 28 = some fn := ⟨_, fn_own Try.func28 rfl rfl rfl⟩
theorem has29 : ∃ fn, E.fn 29 = some fn := ⟨_, fn_own Try.func29 rfl rfl rfl⟩
theorem has30 : ∃ fn, E.fn 30 = some fn := ⟨_, fn_own Try.func30 rfl rfl rfl⟩
theorem has31 : ∃ fn, E.fn 31 = some fn := ⟨_, fn_own Try.func31 rfl rfl rfl⟩
theorem has32 : ∃ fn, E.fn 32 = some fn := ⟨_, fn_own Try.func32 rfl rfl rfl⟩
theorem has33 : ∃ fn, E.fn 33 = some fn := ⟨_, fn_own Try.func33 rfl rfl rfl⟩
theorem has34 : ∃ fn, E.fn 34 = some fn := ⟨_, fn_own Try.func34 rfl rfl rfl⟩
theorem has35 : ∃ fn, E.fn 35 = some fn := ⟨_, fn_own Try.func35 rfl rfl rfl⟩
theorem has36 : ∃ fn, E.fn 36 = some fn := ⟨_, fn_own Try.func36 rfl rfl rfl⟩
theorem has37 : ∃ fn, E.fn 37 = some fn := ⟨_, fn_own Try.func37 rfl rfl rfl⟩
theorem has38 : ∃ fn, E.fn 38 = some fn := ⟨_, fn_own Try.func38 rfl rfl rfl⟩
theorem has39 : ∃ fn, E.fn 39 = some fn := ⟨_, fn_own Try.func39 rfl rfl rfl⟩
theorem has40 : ∃ fn, E.fn 40 = some fn := ⟨_, fn_own Try.func40 rfl rfl rfl⟩
theorem has41 : ∃ fn, E.fn 41 = some fn := ⟨_, fn_own Try.func41 rfl rfl rfl⟩
theorem has42 : ∃ fn, E.fn 42 = some fn := ⟨_, fn_own Try.func42 rfl rfl rfl⟩
theorem has43 : ∃ fn, E.fn 43 = some fn := ⟨_, fn_own Try.func43 rfl rfl rfl⟩
theorem has44 : ∃ fn, E.fn 44 = some fn := ⟨_, fn_own Try.func44 rfl rfl rfl⟩
theorem has45 : ∃ fn, E.fn 45 = some fn := ⟨_, fn_own Try.func45 rfl rfl rfl⟩
theorem has46 : ∃ fn, E.fn 46 = some fn := ⟨_, fn_own Try.func46 rfl rfl rfl⟩
theorem has47 : ∃ fn, E.fn 47 = some fn := ⟨_, fn_own Try.func47 rfl rfl rfl⟩
theorem has48 : ∃ fn, E.fn 48 = some fn := ⟨_, fn_own Try.func48 rfl rfl rfl⟩
theorem has49 : ∃ fn, E.fn 49 = some fn := ⟨_, fn_own Try.func49 rfl rfl rfl⟩
theorem has50 : ∃ fn, E.fn 50 = some fn := ⟨_, fn_own Try.func50 rfl rfl rfl⟩
theorem has51 : ∃ fn, E.fn 51 = some fn := ⟨_, fn_own Try.func51 rfl rfl rfl⟩
theorem has52 : ∃ fn, E.fn 52 = some fn := ⟨_, fn_own Try.func52 rfl rfl rfl⟩
theorem has53 : ∃ fn, E.fn 53 = some fn := ⟨_, fn_own Try.func53 rfl rfl rfl⟩
theorem has54 : ∃ fn, E.fn 54 = some fn := ⟨_, fn_own Try.func54 rfl rfl rfl⟩
theorem has55 : ∃ fn, E.fn 55 = some fn := ⟨_, fn_own Try.func55 rfl rfl rfl⟩
theorem has56 : ∃ fn, E.fn 56 = some fn := ⟨_, fn_own Try.func56 rfl rfl rfl⟩
theorem has57 : ∃ fn, E.fn 57 = some fn := ⟨_, fn_own Try.func57 rfl rfl rfl⟩
theorem has58 : ∃ fn, E.fn 58 = some fn := ⟨_, fn_own Try.func58 rfl rfl rfl⟩
theorem has59 : ∃ fn, E.fn 59 = some fn := ⟨_, fn_own Try.func59 rfl rfl rfl⟩
end Go.Proofs.Ytaedeadgbojmnaa
