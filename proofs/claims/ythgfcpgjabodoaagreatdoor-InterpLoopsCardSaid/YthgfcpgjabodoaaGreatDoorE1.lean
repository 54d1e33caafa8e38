/-
  The frame of the laws: the witness in whose world the listed variables lie, what comes in.
-/
import Derived.Test.YthgfcpgjabodoaaGreatDoorW2
import Derived.Lib.LaidTab
import Derived.Test.YthgfcpgjabodoaaGreatDoorHd1
import Derived.Test.YthgfcpgjabodoaaGreatDoorLo
import Derived.Test.YthgfcpgjabodoaaGreatDoorAb3
import Derived.Test.YthgfcpgjabodoaaGreatDoorCards
import Derived.WalkKit
import Derived.ProofKit
import Derived.OpenShut
import Derived.ChangeOld
import Derived.Below
import Derived.SizedLaws
import Derived.LaidMore
import Derived.Lay
import Derived.SevenTiedAt
import Derived.Stop.Joined
set_option linter.unusedVariables false
set_option linter.unusedSimpArgs false
set_option maxRecDepth 100000
namespace Go.Proofs.YthgfcpgjabodoaaGreatDoor
open Go Go.AM Go.ChangeShapes Go.WideShapes Go.ChangeAt Go.RowKit
theorem own : ownKnob Tryz.prog.godebug = none := by kernel_rfl
def laid6 : List (String × DataW Unit) := Rows.interpSumsRow.laid
theorem aHx (os : Os) (args : Array Value) : ((World.laidAll Tryz.prog os laid6).forCall (fun _ _ => 0) ⟨#[], args, []⟩).Shaped Tryz.checked.prog := World.shaped_of_ZipB (by kernel_rfl) (by kernel_rfl)
theorem tL : (laid6.all fun x => x.2.handleName?.isNone) = true := by kernel_rfl
theorem aJu (os : Os) (args : Array Value) : laidMetH Tryz.prog laid6 ((World.laidAll Tryz.prog os laid6).forCall (fun _ _ => 0) ⟨#[], args, []⟩).memory := by
 rw [MakeChecks.laidMetH_plain _ _ _ tL]
 exact laidMet_laidAll _ (by kernel_rfl) (by kernel_rfl)

theorem aRh {v : Value} {n : Nat} (h : v.cells.toList.length = n) (hn : n ≠ 1) : ∃ cs, v = .agg ⟨cs⟩ ∧ v.cells.toList = cs := by
 cases v with
 | agg cs => exact ⟨cs.toList, rfl, rfl⟩
 | _ => exact absurd h (by simp [Value.cells]; omega)
theorem x_top {g : FuncId} {args : List Value} {w : World} {r : Value} {N : Nat} (h : XCall Tryz.prog g (dJ args) (Go.AM.start w) fun v H' => v = r ∧ Kept N (Go.AM.start w) H') (hr : yC r = true) : Calls Tryz.prog g ⟨args⟩ w fun e w' => e = .returned r ∧ Below w.heap.size w w' :=
 Flat.calls (h.calls.mono fun v H' hv => hv.1) hr
theorem aAw (l : List Value) : (dJ l).length = l.length := by
 induction l with
 | nil => rfl
 | cons x l ih => simp [dJ, ih]
/-- a struct that came in -/
theorem in_struct {T : Type} {enc : TypeId × Value → T} {W : World} {v : Value} {d : DataW T} {p : List MemPlace} {t : TypeId} {ks : List Kd} (hk : aBz Tryz.prog 12 t = some ks) (h1 : ks.length ≠ 1) (h : DataW.Trod enc Tryz.prog W 0 (fun _ => true) true t v d p) (hw : ∀ w ∈ d.weights Tryz.prog t, w ≤ reachBytes) :
 ∃ xs c, ext v = .agg ⟨xs⟩ ∧ CellsA (fun _ => False) (Go.AM.start W) ks xs c := by
 obtain ⟨fuel, h⟩ := h
 obtain ⟨c, hc⟩ := vG 12 _ _ _ _ _ hk h hw
 have hl := hc.len.1
 rw [aAw] at hl
 obtain ⟨cs, rfl, e2⟩ := aRh hl h1
 rw [e2] at hc
 exact ⟨dJ cs, c, by simp only [ext], hc⟩
/-- a row that came in -/
theorem in_row {T : Type} {enc : TypeId × Value → T} {W : World} {v : Value} {d : DataW T} {p : List MemPlace} {t e : TypeId} {b base : Nat} {ks : List Kd} (hu : Tryz.prog.underlying t = some (.slice e)) (hk : aBz Tryz.prog 12 t = some [.row b ks]) (hv : Value.okWide Tryz.prog W .any base t v) (h : DataW.Trod enc Tryz.prog W 0 (fun _ => true) true t v d p) (hw : ∀ w ∈ d.weights Tryz.prog t, w ≤ reachBytes) :
 ∃ l, CellA (fun _ => False) (Go.AM.start W) (.row b ks) (ext v) (.row l) := by
 obtain ⟨fuel, h⟩ := h
 obtain ⟨c, hc⟩ := vG 12 _ _ _ _ _ hk h hw
 obtain ⟨a, len, cap, rfl⟩ := okWide_slice hu hv
 cases c with
 | nil => exact hc.elim
 | cons c cs =>
  obtain ⟨l, rfl, _⟩ := hc.1.row
  exact ⟨l, hc.1⟩
/-- no body of the program starts a goroutine -/
theorem aJc : Tryz.prog.funcs.any Func.goes = false := by
 have h := aPt
 rw [List.filter_eq_nil_iff] at h
 rw [← Array.any_toList, List.any_eq_false]
 exact fun x hx => h x hx
theorem aHu (f : FuncId) : Tryz.prog.goes f = false := by
 unfold Program.goes
 rw [aJc, Bool.and_false, Bool.or_false, List.any_eq_false]
 intro g _
 cases h : Tryz.prog.funcs[g]? with
 | none => simp
 | some F =>
  have h1 := aJc
  rw [Array.any_eq_false] at h1
  obtain ⟨hg, rfl⟩ := Array.getElem?_eq_some_iff.1 h
  simpa using h1 g hg
theorem aCd {c : OpenClaim} (h : c.start = .entering) : false = c.goesBy Tryz.prog := by
 unfold OpenClaim.goesBy Program.goesAt Program.goesFrom
 rw [h]
 cases Tryz.prog.funcNamed c.func with
 | none => rfl
 | some f => simp [aHu]
theorem zJ {P : Program} {w : World} {x : String × DataW Unit} {l : List (String × DataW Unit)} (h : laidMet P (x :: l) w) : laidMet P l w := by
 obtain ⟨ps, ⟨g, t, cs, fuel, p, q, h1, h2, h3, h4, h5, rfl⟩, hn, hf⟩ := h
 exact ⟨q, h5, (List.nodup_append.1 hn).2.1, fun b off hb => hf b off (List.mem_append_right _ hb)⟩
theorem qK {P : Program} {w : World} : ∀ (n : Nat) {l : List (String × DataW Unit)}, laidMet P l w → laidMet P (l.drop n) w
 | 0, l, h => h
 | n + 1, [], h => h
 | n + 1, x :: l, h => qK n (zJ h)
theorem aNo {W : World} (h : laidMetH Tryz.prog laid6 W) : Tab (Go.AM.start W) := by
 rw [MakeChecks.laidMetH_plain _ _ _ tL] at h
 have h5 := qK 7 h
 have e : laid6.drop 7 = ("internal/strconv.uint64pow10", Lib.tabData .u64 Lib.pow10Tab) :: laid6.drop 8 := by kernel_rfl
 rw [e] at h5
 exact Lib.tabIs_of_head (g := 0) (t := 184) (e := 144) (n := 20) (by kernel_rfl) (by kernel_rfl) (by kernel_rfl) (by kernel_rfl) (by kernel_rfl) (by kernel_rfl) h5
end Go.Proofs.YthgfcpgjabodoaaGreatDoor
