/-
  The frame of the laws: the witness in whose world the listed variables lie, what comes in.
-/
import Derived.Test.YteklajiaicmogaaGreatDoorK2
import Derived.Test.YteklajiaicmogaaGreatDoorHd1
import Derived.Test.YteklajiaicmogaaGreatDoorLo
import Derived.Test.YteklajiaicmogaaGreatDoorA3
import Derived.Test.YteklajiaicmogaaGreatDoorCards
import Derived.WalkKit
import Derived.ProofKit
import Derived.OpenShut
import Derived.ChangeOld
import Derived.Below
import Derived.SizedLaws
import Derived.LaidMore
import Derived.Lay
import Derived.SevenTiedAt
import Derived.Stop.Joined
set_option linter.unusedVariables false
set_option linter.unusedSimpArgs false
set_option maxRecDepth 100000
namespace Go.Proofs.YteklajiaicmogaaGreatDoor
open Go Go.AM Go.ChangeShapes Go.WideShapes Go.ChangeAt Go.RowKit
theorem own : ownKnob Tryz.prog.godebug = none := by kernel_rfl
def laid6 : List (String × DataW Unit) := Rows.editCodesRow.laid
theorem aMq (os : Os) (args : Array Value) : ((World.laidAll Tryz.prog os laid6).forCall (fun _ _ => 0) ⟨#[], args, []⟩).Shaped Tryz.checked.prog := World.shaped_of_ZipB (by kernel_rfl) (by kernel_rfl)
theorem aEw : (laid6.all fun x => x.2.handleName?.isNone) = true := by kernel_rfl
theorem aPx (os : Os) (args : Array Value) : laidMetH Tryz.prog laid6 ((World.laidAll Tryz.prog os laid6).forCall (fun _ _ => 0) ⟨#[], args, []⟩).memory := by
 rw [MakeChecks.laidMetH_plain _ _ _ aEw]
 exact laidMet_laidAll _ (by kernel_rfl) (by kernel_rfl)

theorem aWz {v : Value} {n : Nat} (h : v.cells.toList.length = n) (hn : n ≠ 1) : ∃ cs, v = .agg ⟨cs⟩ ∧ v.cells.toList = cs := by
 cases v with
 | agg cs => exact ⟨cs.toList, rfl, rfl⟩
 | _ => exact absurd h (by simp [Value.cells]; omega)
theorem x_top {g : FuncId} {args : List Value} {w : World} {r : Value} {N : Nat} (h : XCall Tryz.prog g (iN args) (Go.AM.start w) fun v H' => v = r ∧ Kept N (Go.AM.start w) H') (hr : aBc r = true) : Calls Tryz.prog g ⟨args⟩ w fun e w' => e = .returned r ∧ Below w.heap.size w w' :=
 Flat.calls (h.calls.mono fun v H' hv => hv.1) hr
theorem aGe (l : List Value) : (iN l).length = l.length := by
 induction l with
 | nil => rfl
 | cons x l ih => simp [iN, ih]
/-- a struct that came in -/
theorem aLw {T : Type} {enc : TypeId × Value → T} {W : World} {v : Value} {d : DataW T} {p : List MemPlace} {t : TypeId} {ks : List Kd} (hk : aDm Tryz.prog 12 t = some ks) (h1 : ks.length ≠ 1) (h : DataW.Trod enc Tryz.prog W 0 (fun _ => true) true t v d p) (hw : ∀ w ∈ d.weights Tryz.prog t, w ≤ reachBytes) :
 ∃ xs c, ext v = .agg ⟨xs⟩ ∧ CellsA (fun _ => False) (Go.AM.start W) ks xs c := by
 obtain ⟨fuel, h⟩ := h
 obtain ⟨c, hc⟩ := zC 12 _ _ _ _ _ hk h hw
 have hl := hc.len.1
 rw [aGe] at hl
 obtain ⟨cs, rfl, e2⟩ := aWz hl h1
 rw [e2] at hc
 exact ⟨iN cs, c, by simp only [ext], hc⟩
/-- a row that came in -/
theorem in_row {T : Type} {enc : TypeId × Value → T} {W : World} {v : Value} {d : DataW T} {p : List MemPlace} {t e : TypeId} {b base : Nat} {ks : List Kd} (hu : Tryz.prog.underlying t = some (.slice e)) (hk : aDm Tryz.prog 12 t = some [.row b ks]) (hv : Value.okWide Tryz.prog W .any base t v) (h : DataW.Trod enc Tryz.prog W 0 (fun _ => true) true t v d p) (hw : ∀ w ∈ d.weights Tryz.prog t, w ≤ reachBytes) :
 ∃ l, CellA (fun _ => False) (Go.AM.start W) (.row b ks) (ext v) (.row l) := by
 obtain ⟨fuel, h⟩ := h
 obtain ⟨c, hc⟩ := zC 12 _ _ _ _ _ hk h hw
 obtain ⟨a, len, cap, rfl⟩ := okWide_slice hu hv
 cases c with
 | nil => exact hc.elim
 | cons c cs =>
  obtain ⟨l, rfl, _⟩ := hc.1.row
  exact ⟨l, hc.1⟩
theorem kds48 : aDm Tryz.prog 12 48 = some jQ := by kernel_rfl
theorem aFh {T : Type} {P : Program} {t : TypeId} {ts : List TypeId} {d : DataW T} {ds : List (DataW T)} (h : (DataW.weightsEach P (t :: ts) (d :: ds)).all (· ≤ reachBytes) = true) : ∀ w ∈ d.weights P t, w ≤ reachBytes := by
 simp only [DataW.weightsEach, List.all_append, Bool.and_eq_true, List.all_eq_true, decide_eq_true_eq] at h
 exact h.1
/-- no body of the program starts a goroutine -/
theorem aQv : Tryz.prog.funcs.any Func.goes = false := by
 have h := aUh
 rw [List.filter_eq_nil_iff] at h
 rw [← Array.any_toList, List.any_eq_false]
 exact fun x hx => h x hx
theorem aLi (f : FuncId) : Tryz.prog.goes f = false := by
 unfold Program.goes
 rw [aQv, Bool.and_false, Bool.or_false, List.any_eq_false]
 intro g _
 cases h : Tryz.prog.funcs[g]? with
 | none => simp
 | some F =>
  have h1 := aQv
  rw [Array.any_eq_false] at h1
  obtain ⟨hg, rfl⟩ := Array.getElem?_eq_some_iff.1 h
  simpa using h1 g hg
theorem aGg {c : OpenClaim} (h : c.start = .entering) : false = c.goesBy Tryz.prog := by
 unfold OpenClaim.goesBy Program.goesAt Program.goesFrom
 rw [h]
 cases Tryz.prog.funcNamed c.func with
 | none => rfl
 | some f => simp [aLi]
end Go.Proofs.YteklajiaicmogaaGreatDoor
