/-
  The frame of a law.
-/
import Derived.Test.YtaedeadgbojmnaaB0
import Derived.Test.YtaedeadgbojmnaaAM24
import Derived.WalkKit
import Derived.ProofKit
import Derived.OpenShut
import Derived.ChangeOld
import Derived.Below
import Derived.SizedLaws
set_option linter.unusedVariables false
set_option linter.unusedSimpArgs false
set_option maxRecDepth 100000
namespace Go.Proofs.Ytaedeadgbojmnaa
open Go Go.AM Go.ChangeShapes Go.WideShapes Go.ChangeAt Go.RowKit
theorem own : ownKnob Try.prog.godebug = none := by kernel_rfl
theorem laidOut : laidOutB Try.prog = true := by kernel_rfl
theorem kds51 : kdsT Try.prog 12 51 = some k51 := by kernel_rfl
theorem kds52 : kdsT Try.prog 12 52 = some [.row 24 k73] := by kernel_rfl

theorem agg_of {v : Value} {n : Nat} (h : v.cells.toList.length = n) (hn : n ≠ 1) : ∃ cs, v = .agg ⟨cs⟩ ∧ v.cells.toList = cs := by
  cases v with
  | agg cs => exact ⟨cs.toList, rfl, rfl⟩
  | _ => exact absurd h (by simp [Value.cells]; omega)

theorem x_top {g : FuncId} {args : List Value} {w : World} {r : Value} {N : Nat} (h : XCall Try.prog g (extL args) (Go.AM.start w) fun v H' => v = r ∧ Kept N (Go.AM.start w) H') (hr : flatT r = true) : Calls Try.prog g ⟨args⟩ w fun e w' => e = .returned r ∧ Below w.heap.size w w' :=
  Flat.calls (h.calls.mono fun v H' hv => hv.1) hr

theorem extL_length (l : List Value) : (extL l).length = l.length := by
  induction l with
  | nil => rfl
  | cons x l ih => simp [extL, ih]

/-- an action that came in -/
theorem in_action {T : Type} {enc : TypeId × Value → T} {W : World} {v : Value} {d : DataW T} {p : List MemPlace} (h : DataW.Trod enc Try.prog W 0 (fun _ => true) true 51 v d p) (hw : ∀ w ∈ d.weights Try.prog 51, w ≤ reachBytes) :
    ∃ x c, ext v = .agg ⟨cellsOf 85 x⟩ ∧ Pts (fun _ => False) (Go.AM.start W) k51 x c := by
  obtain ⟨fuel, h⟩ := h
  obtain ⟨c, hc⟩ := trod_cells 12 _ _ _ _ _ kds51 h hw
  have hl := hc.len.1
  rw [extL_length] at hl
  obtain ⟨cs, rfl, e2⟩ := agg_of hl (show k51.length ≠ 1 by decide)
  rw [e2] at hc
  obtain ⟨x, c', h1, h2, h3⟩ := hc.fn (n := 85) rfl
  exact ⟨x, c', by simp only [ext]; rw [h1], h3⟩

/-- a row that came in -/
theorem in_row {T : Type} {enc : TypeId × Value → T} {W : World} {v : Value} {d : DataW T} {p : List MemPlace} {t e : TypeId} {b base : Nat} {ks : List Kd} (hu : Try.prog.underlying t = some (.slice e)) (hk : kdsT Try.prog 12 t = some [.row b ks]) (hv : Value.okWide Try.prog W .any base t v) (h : DataW.Trod enc Try.prog W 0 (fun _ => true) true t v d p) (hw : ∀ w ∈ d.weights Try.prog t, w ≤ reachBytes) :
    ∃ l, CellA (fun _ => False) (Go.AM.start W) (.row b ks) (ext v) (.row l) := by
  obtain ⟨fuel, h⟩ := h
  obtain ⟨c, hc⟩ := trod_cells 12 _ _ _ _ _ hk h hw
  obtain ⟨a, len, cap, rfl⟩ := okWide_slice hu hv
  cases c with
  | nil => exact hc.elim
  | cons c cs =>
    obtain ⟨l, rfl, _⟩ := hc.1.row
    exact ⟨l, hc.1⟩
theorem kds59 : kdsT Try.prog 12 59 = some [.row 848 k48] := by kernel_rfl
theorem kds60 : kdsT Try.prog 12 60 = some [.row 24 [.row 32 k79]] := by kernel_rfl
theorem weights_two {T : Type} {P : Program} {t u : TypeId} {ts : List TypeId} {d e : DataW T} {ds : List (DataW T)} (h : (DataW.weightsEach P (t :: u :: ts) (d :: e :: ds)).all (· ≤ reachBytes) = true) : (∀ w ∈ d.weights P t, w ≤ reachBytes) ∧ ∀ w ∈ e.weights P u, w ≤ reachBytes := by
  simp only [DataW.weightsEach, List.all_append, Bool.and_eq_true, List.all_eq_true, decide_eq_true_eq] at h
  exact ⟨h.1, h.2.1⟩
end Go.Proofs.Ytaedeadgbojmnaa
