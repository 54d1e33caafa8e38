/-
  The frame of the laws: the witness in whose world the listed variables lie, what comes in.
-/
import Derived.Test.YtpfgpjopjadmiaaGreatDoorB1
import Derived.Test.YtpfgpjopjadmiaaGreatDoorHd1
import Derived.Lib.LaidTab
import Derived.Test.YtpfgpjopjadmiaaGreatDoorAM24
import Derived.Test.YtpfgpjopjadmiaaGreatDoorCards
import Derived.WalkKit
import Derived.ProofKit
import Derived.OpenShut
import Derived.ChangeOld
import Derived.Below
import Derived.SizedLaws
import Derived.LaidMore
import Derived.Lay
import Derived.SevenTiedAt
import Derived.Stop.Joined
set_option linter.unusedVariables false
set_option linter.unusedSimpArgs false
set_option maxRecDepth 100000
namespace Go.Proofs.YtpfgpjopjadmiaaGreatDoor
open Go Go.AM Go.ChangeShapes Go.WideShapes Go.ChangeAt Go.RowKit
theorem own : ownKnob Tryz.prog.godebug = none := by kernel_rfl
theorem laidOut : laidOutB Tryz.prog = true := by kernel_rfl
def laid6 : List (String × DataW Unit) := Rows.auditTextsRow.laid
theorem wit_shape (os : Os) (args : Array Value) : ((World.laidAll Tryz.prog os laid6).forCall (fun _ _ => 0) ⟨#[], args, []⟩).Shaped Tryz.checked.prog := World.shaped_of_ZipB (by kernel_rfl) (by kernel_rfl)
theorem laid6_plain : (laid6.all fun x => x.2.handleName?.isNone) = true := by kernel_rfl
theorem wit_laid (os : Os) (args : Array Value) : laidMetH Tryz.prog laid6 ((World.laidAll Tryz.prog os laid6).forCall (fun _ _ => 0) ⟨#[], args, []⟩).memory := by
  rw [MakeChecks.laidMetH_plain _ _ _ laid6_plain]
  exact laidMet_laidAll _ (by kernel_rfl) (by kernel_rfl)

theorem agg_of {v : Value} {n : Nat} (h : v.cells.toList.length = n) (hn : n ≠ 1) : ∃ cs, v = .agg ⟨cs⟩ ∧ v.cells.toList = cs := by
  cases v with
  | agg cs => exact ⟨cs.toList, rfl, rfl⟩
  | _ => exact absurd h (by simp [Value.cells]; omega)
theorem x_top {g : FuncId} {args : List Value} {w : World} {r : Value} {N : Nat} (h : XCall Tryz.prog g (extL args) (Go.AM.start w) fun v H' => v = r ∧ Kept N (Go.AM.start w) H') (hr : flatT r = true) : Calls Tryz.prog g ⟨args⟩ w fun e w' => e = .returned r ∧ Below w.heap.size w w' :=
  Flat.calls (h.calls.mono fun v H' hv => hv.1) hr
theorem extL_length (l : List Value) : (extL l).length = l.length := by
  induction l with
  | nil => rfl
  | cons x l ih => simp [extL, ih]
/-- a struct that came in -/
theorem in_struct {T : Type} {enc : TypeId × Value → T} {W : World} {v : Value} {d : DataW T} {p : List MemPlace} {t : TypeId} {ks : List Kd} (hk : kdsT Tryz.prog 12 t = some ks) (h1 : ks.length ≠ 1) (h : DataW.Trod enc Tryz.prog W 0 (fun _ => true) true t v d p) (hw : ∀ w ∈ d.weights Tryz.prog t, w ≤ reachBytes) :
    ∃ xs c, ext v = .agg ⟨xs⟩ ∧ CellsA (fun _ => False) (Go.AM.start W) ks xs c := by
  obtain ⟨fuel, h⟩ := h
  obtain ⟨c, hc⟩ := trod_cells 12 _ _ _ _ _ hk h hw
  have hl := hc.len.1
  rw [extL_length] at hl
  obtain ⟨cs, rfl, e2⟩ := agg_of hl h1
  rw [e2] at hc
  exact ⟨extL cs, c, by simp only [ext], hc⟩
/-- a row that came in -/
theorem in_row {T : Type} {enc : TypeId × Value → T} {W : World} {v : Value} {d : DataW T} {p : List MemPlace} {t e : TypeId} {b base : Nat} {ks : List Kd} (hu : Tryz.prog.underlying t = some (.slice e)) (hk : kdsT Tryz.prog 12 t = some [.row b ks]) (hv : Value.okWide Tryz.prog W .any base t v) (h : DataW.Trod enc Tryz.prog W 0 (fun _ => true) true t v d p) (hw : ∀ w ∈ d.weights Tryz.prog t, w ≤ reachBytes) :
    ∃ l, CellA (fun _ => False) (Go.AM.start W) (.row b ks) (ext v) (.row l) := by
  obtain ⟨fuel, h⟩ := h
  obtain ⟨c, hc⟩ := trod_cells 12 _ _ _ _ _ hk h hw
  obtain ⟨a, len, cap, rfl⟩ := okWide_slice hu hv
  cases c with
  | nil => exact hc.elim
  | cons c cs =>
    obtain ⟨l, rfl, _⟩ := hc.1.row
    exact ⟨l, hc.1⟩
theorem kds23 : kdsT Tryz.prog 12 23 = some k23 := by kernel_rfl
theorem weights_one {T : Type} {P : Program} {t : TypeId} {ts : List TypeId} {d : DataW T} {ds : List (DataW T)} (h : (DataW.weightsEach P (t :: ts) (d :: ds)).all (· ≤ reachBytes) = true) : ∀ w ∈ d.weights P t, w ≤ reachBytes := by
  simp only [DataW.weightsEach, List.all_append, Bool.and_eq_true, List.all_eq_true, decide_eq_true_eq] at h
  exact h.1
/-- no body of the program starts a goroutine -/
theorem noGoes : Tryz.prog.funcs.any Func.goes = false := by
  have h := noGoesL
  rw [List.filter_eq_nil_iff] at h
  rw [← Array.any_toList, List.any_eq_false]
  exact fun x hx => h x hx
theorem goes_none (f : FuncId) : Tryz.prog.goes f = false := by
  unfold Program.goes
  rw [noGoes, Bool.and_false, Bool.or_false, List.any_eq_false]
  intro g _
  cases h : Tryz.prog.funcs[g]? with
  | none => simp
  | some F =>
    have h1 := noGoes
    rw [Array.any_eq_false] at h1
    obtain ⟨hg, rfl⟩ := Array.getElem?_eq_some_iff.1 h
    simpa using h1 g hg
theorem goesBy_none {c : OpenClaim} (h : c.start = .entering) : false = c.goesBy Tryz.prog := by
  unfold OpenClaim.goesBy Program.goesAt Program.goesFrom
  rw [h]
  cases Tryz.prog.funcNamed c.func with
  | none => rfl
  | some f => simp [goes_none]
/-- a finding, opened -/
theorem fin3 {A : Nat → Prop} {H : AH} {xs : List Value} {c : List CT} (h : CellsA A H k23 xs c) : ∃ k d n, xs = [.int .i64 k, .int .i64 d, .int .i64 n] ∧ (Lit.int .i64 d).wf = true ∧ (Lit.int .i64 n).wf = true := by
  obtain ⟨x, y, rfl, rfl, hp⟩ := h.fn (n := 3) rfl
  obtain ⟨n0, h0, _⟩ := (hp 0 _ rfl).int
  obtain ⟨n1, h1, _, w1⟩ := (hp 1 _ rfl).int
  obtain ⟨n2, h2, _, w2⟩ := (hp 2 _ rfl).int
  exact ⟨n0, n1, n2, by show [x 0, x 1, x 2] = _; rw [h0, h1, h2], w1, w2⟩
theorem tab_laid {W : World} (h : laidMetH Tryz.prog laid6 W) : Tab (Go.AM.start W) := by
  rw [MakeChecks.laidMetH_plain _ _ _ laid6_plain] at h
  exact Lib.tabIs_of_head (g := 0) (t := 255) (e := 155) (n := 20) (by kernel_rfl) (by kernel_rfl) (by kernel_rfl) (by kernel_rfl) (by kernel_rfl) (by kernel_rfl) h
end Go.Proofs.YtpfgpjopjadmiaaGreatDoor
