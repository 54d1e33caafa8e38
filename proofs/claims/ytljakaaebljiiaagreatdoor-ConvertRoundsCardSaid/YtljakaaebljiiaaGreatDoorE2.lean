/-
  What comes in as an image.
-/
import Derived.Test.YtljakaaebljiiaaGreatDoorE1
import Derived.Test.YtljakaaebljiiaaGreatDoorB11
set_option linter.unusedVariables false
set_option linter.unusedSimpArgs false
set_option maxRecDepth 100000
namespace Go.Proofs.YtljakaaebljiiaaGreatDoor
open Go Go.AM Go.ChangeShapes Go.WideShapes Go.ChangeAt Go.RowKit
theorem kds27 : kdsT Tryz.prog 12 27 = some k27 := by kernel_rfl
theorem weights_one {T : Type} {P : Program} {t : TypeId} {ts : List TypeId} {d : DataW T} {ds : List (DataW T)} (h : (DataW.weightsEach P (t :: ts) (d :: ds)).all (· ≤ reachBytes) = true) : ∀ w ∈ d.weights P t, w ≤ reachBytes := by
  simp only [DataW.weightsEach, List.all_append, Bool.and_eq_true, List.all_eq_true, decide_eq_true_eq] at h
  exact h.1
theorem weights_two {T : Type} {P : Program} {t u : TypeId} {ts : List TypeId} {d e : DataW T} {ds : List (DataW T)} (h : (DataW.weightsEach P (t :: u :: ts) (d :: e :: ds)).all (· ≤ reachBytes) = true) : (∀ w ∈ d.weights P t, w ≤ reachBytes) ∧ ∀ w ∈ e.weights P u, w ≤ reachBytes := by
  simp only [DataW.weightsEach, List.all_append, Bool.and_eq_true, List.all_eq_true, decide_eq_true_eq] at h
  exact ⟨h.1, h.2.1⟩
/-- an image, opened -/
theorem img3c {A : Nat → Prop} {H : AH} {xs : List Value} {c : List CT} (h : CellsA A H k27 xs c) : ∃ (w h' : Int) (x : Value) (l : List (List CT)), xs = [.int .i64 w, .int .i64 h', x] ∧ CellA A H (.row 32 k35) x (.row l) := by
  obtain ⟨h1, h2⟩ := h.len
  match xs, c, h1, h2, h with
  | [x, y, z], [x', y', z'], _, _, h =>
    simp only [k27, CellsA] at h
    obtain ⟨w, rfl, rfl, _⟩ := h.1.int
    obtain ⟨h', rfl, rfl, _⟩ := h.2.1.int
    obtain ⟨l, rfl, _⟩ := h.2.2.1.row
    exact ⟨w, h', z, l, rfl, h.2.2.1⟩
end Go.Proofs.YtljakaaebljiiaaGreatDoor
