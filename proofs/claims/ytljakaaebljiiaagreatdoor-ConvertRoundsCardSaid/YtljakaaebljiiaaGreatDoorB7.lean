/-
  Walks, laid by program.
-/
import Derived.Test.YtljakaaebljiiaaGreatDoorB6
set_option linter.unusedVariables false
set_option linter.unusedSimpArgs false
set_option maxRecDepth 100000
namespace Go.Proofs.YtljakaaebljiiaaGreatDoor
open Go Go.AM

theorem len_four {α : Type} : ∀ {l : List α}, l.length = 4 → ∃ x y z w, l = [x, y, z, w]
  | [x, y, z, w], _ => ⟨x, y, z, w, rfl⟩
  | [], h => by simp at h
  | [_], h => by simp at h
  | [_, _], h => by simp at h
  | [_, _, _], h => by simp at h
  | _ :: _ :: _ :: _ :: _ :: _, h => by simp at h
/-- a pixel, opened -/
theorem pix4 {A : Nat → Prop} {H : AH} {xs : List Value} {c : List CT} (h : CellsA A H k35 xs c) : ∃ r g b a, xs = [.int .i64 r, .int .i64 g, .int .i64 b, .int .i64 a] ∧ c = [.v (.int .i64 r), .v (.int .i64 g), .v (.int .i64 b), .v (.int .i64 a)] ∧ (Lit.int .i64 r).wf = true ∧ (Lit.int .i64 g).wf = true ∧ (Lit.int .i64 b).wf = true ∧ (Lit.int .i64 a).wf = true := by
  obtain ⟨h1, h2⟩ := h.len
  obtain ⟨x, y, z, w, rfl⟩ := len_four h1
  obtain ⟨x', y', z', w', rfl⟩ := len_four h2
  simp only [k35, CellsA] at h
  obtain ⟨r, rfl, rfl, hr⟩ := h.1.int
  obtain ⟨g, rfl, rfl, hg⟩ := h.2.1.int
  obtain ⟨b, rfl, rfl, hb⟩ := h.2.2.1.int
  obtain ⟨a, rfl, rfl, ha⟩ := h.2.2.2.1.int
  exact ⟨r, g, b, a, rfl, rfl, hr, hg, hb, ha⟩
def pixC : List CT → Bool
  | [.v (.int _ r), .v (.int _ g), .v (.int _ b), .v (.int _ a)] => pixOk r g b a
  | _ => false
/-- a size that an image can have -/
def sizeOk (w h : Int) : Bool := decide (0 ≤ w ∧ w ≤ 256 ∧ 0 ≤ h ∧ h ≤ 256 ∧ (w = 0 ↔ h = 0))
theorem sizeOk_t {w h : Int} (q : 0 ≤ w ∧ w ≤ 256 ∧ 0 ≤ h ∧ h ≤ 256 ∧ (w = 0 ↔ h = 0)) : sizeOk w h = true := decide_eq_true q
theorem sizeOk_f {w h : Int} (q : ¬ (0 ≤ w ∧ w ≤ 256 ∧ 0 ≤ h ∧ h ≤ 256 ∧ (w = 0 ↔ h = 0))) : sizeOk w h = false := decide_eq_false q
/-- the error of an image -/
def imgE (w h : Int) (l : List (List CT)) : Int := if sizeOk w h = true ∧ (l.length : Int) = w * h then (if l.all pixC = true then 0 else 2) else 15
section
variable {w h : Int} {l : List (List CT)}
theorem imgE_a (q : sizeOk w h = false) : imgE w h l = 15 := if_neg fun e => by rw [e.1] at q; cases q
theorem imgE_b (q : (l.length : Int) ≠ w * h) : imgE w h l = 15 := if_neg fun e => q e.2
theorem imgE_2 (q : sizeOk w h = true) (k : (l.length : Int) = w * h) {s : Nat} {d : List CT} (hd : l[s]? = some d) (hp : pixC d = false) : imgE w h l = 2 := by
  rw [imgE, if_pos ⟨q, k⟩, if_neg]
  intro e
  rw [List.all_eq_true] at e
  rw [e d (List.mem_of_getElem? hd)] at hp
  cases hp
theorem imgE_0 (q : sizeOk w h = true) (k : (l.length : Int) = w * h) (hg : ∀ j d, j < l.length → l[j]? = some d → pixC d = true) : imgE w h l = 0 := by
  rw [imgE, if_pos ⟨q, k⟩, if_pos]
  rw [List.all_eq_true]
  intro x hx
  obtain ⟨j, hj⟩ := List.getElem?_of_mem hx
  exact hg j x (lt_of_getElem? hj) hj
theorem size_le (q : sizeOk w h = true) : 0 ≤ w * h ∧ w * h ≤ 65536 := by
  obtain ⟨h1, h2, h3, h4, _⟩ := of_decide_eq_true q
  refine ⟨Int.mul_nonneg h1 h3, ?_⟩
  calc w * h ≤ 256 * h := Int.mul_le_mul_of_nonneg_right h2 h3
    _ ≤ 256 * 256 := Int.mul_le_mul_of_nonneg_left h4 (by omega)
    _ = 65536 := by decide
theorem img3 (w h : Int) (n : Nat) : sizeOk w h = false ∨ (sizeOk w h = true ∧ (0 ≤ w * h ∧ w * h ≤ 65536) ∧ (n : Int) ≠ w * h) ∨ (sizeOk w h = true ∧ (0 ≤ w * h ∧ w * h ≤ 65536) ∧ (n : Int) = w * h) := by
  cases q : sizeOk w h with
  | false => exact .inl rfl
  | true =>
    by_cases e : (n : Int) = w * h
    · exact .inr (.inr ⟨rfl, size_le q, e⟩)
    · exact .inr (.inl ⟨rfl, size_le q, e⟩)
theorem rng5 (w h : Int) : w < 0 ∨ (0 ≤ w ∧ 256 < w) ∨ (0 ≤ w ∧ w ≤ 256 ∧ h < 0) ∨ (0 ≤ w ∧ w ≤ 256 ∧ 0 ≤ h ∧ 256 < h) ∨ (0 ≤ w ∧ w ≤ 256 ∧ 0 ≤ h ∧ h ≤ 256) := by omega
theorem rng4 (w h : Int) : (w = 0 ∧ h = 0) ∨ (w = 0 ∧ h ≠ 0) ∨ (w ≠ 0 ∧ h = 0) ∨ (w ≠ 0 ∧ h ≠ 0) := by omega
end
theorem sized_ok {S : AH} (w h : Int) : XCall Tryz.prog 40 [.int .i64 w, .int .i64 h] S fun v H' => v = .bool (sizeOk w h) ∧ Kept S.nx S H' := by
  refine x_enter (E := E) (n := 26) (rs := [.tmp 4]) (l := [(1, _), (0, _)]) (fn_own Tryz.func40 rfl rfl rfl) (A0 := fun _ => False) (fun j h => h.elim) rfl ?_
  refine sx_seq ?_
  refine sx_region (E := E) ?_
  refine so_assign rfl rfl rfl ?_
  refine so_then ?_
  refine sx_seq ?_
  rcases (show w < 0 ∨ (0 ≤ w ∧ 256 < w) ∨ (0 ≤ w ∧ w ≤ 256 ∧ h < 0) ∨ (0 ≤ w ∧ w ≤ 256 ∧ 0 ≤ h ∧ 256 < h) ∨ ((0 ≤ w ∧ w ≤ 256 ∧ 0 ≤ h ∧ h ≤ 256) ∧ w = 0 ∧ h = 0) ∨ ((0 ≤ w ∧ w ≤ 256 ∧ 0 ≤ h ∧ h ≤ 256) ∧ w = 0 ∧ h ≠ 0) ∨ ((0 ≤ w ∧ w ≤ 256 ∧ 0 ≤ h ∧ h ≤ 256) ∧ w ≠ 0 ∧ h = 0) ∨ ((0 ≤ w ∧ w ≤ 256 ∧ 0 ≤ h ∧ h ≤ 256) ∧ w ≠ 0 ∧ h ≠ 0) by omega) with q | q | q | q | q | q | q | q
  · skip
    refine sx_region (E := E) ?_
    refine so_move rfl rfl rfl ?_
    refine so_bin rfl rfl rfl rfl (by first | exact bin_geq_t (by omega) | exact bin_geq_f (by omega)) ?_
    refine so_move rfl rfl rfl ?_
    first | refine so_move rfl rfl rfl ?_ | refine so_skip rfl rfl rfl ?_
    first | refine so_bin rfl rfl rfl rfl (by first | exact bin_leq_t (by omega) | exact bin_leq_f (by omega)) ?_ | refine so_skip rfl rfl rfl ?_
    first | refine so_pick_t rfl rfl rfl rfl ?_ | refine so_pick_f rfl rfl rfl rfl ?_
    refine so_move rfl rfl rfl ?_
    first | refine so_move rfl rfl rfl ?_ | refine so_skip rfl rfl rfl ?_
    first | refine so_bin rfl rfl rfl rfl (by first | exact bin_geq_t (by omega) | exact bin_geq_f (by omega)) ?_ | refine so_skip rfl rfl rfl ?_
    first | refine so_pick_t rfl rfl rfl rfl ?_ | refine so_pick_f rfl rfl rfl rfl ?_
    refine so_move rfl rfl rfl ?_
    first | refine so_move rfl rfl rfl ?_ | refine so_skip rfl rfl rfl ?_
    first | refine so_bin rfl rfl rfl rfl (by first | exact bin_leq_t (by omega) | exact bin_leq_f (by omega)) ?_ | refine so_skip rfl rfl rfl ?_
    first | refine so_pick_t rfl rfl rfl rfl ?_ | refine so_pick_f rfl rfl rfl rfl ?_
    refine so_move rfl rfl rfl ?_
    first | refine so_move rfl rfl rfl ?_ | refine so_skip rfl rfl rfl ?_
    first | refine so_bin rfl rfl rfl rfl (by first | exact bin_eql_t (by first | rfl | assumption | omega) | exact bin_eql_f (by first | rfl | assumption | omega)) ?_ | refine so_skip rfl rfl rfl ?_
    first | refine so_move rfl rfl rfl ?_ | refine so_skip rfl rfl rfl ?_
    first | refine so_bin rfl rfl rfl rfl (by first | exact bin_eql_t (by first | rfl | assumption | omega) | exact bin_eql_f (by first | rfl | assumption | omega)) ?_ | refine so_skip rfl rfl rfl ?_
    first | refine so_bin rfl rfl rfl rfl (by first | exact bin_beql Tryz.underlying4) ?_ | refine so_skip rfl rfl rfl ?_
    first | refine so_pick_t rfl rfl rfl rfl ?_ | refine so_pick_f rfl rfl rfl rfl ?_
    refine so_assign rfl rfl rfl ?_
    refine so_then ?_
    refine sx_ret ?_
    refine sk_return1 (.tmp rfl .nil) ?_
    exact fun H hH => ⟨congrArg Value.bool (sizeOk_f (by omega)).symm, hH.kept⟩
  · skip
    refine sx_region (E := E) ?_
    refine so_move rfl rfl rfl ?_
    refine so_bin rfl rfl rfl rfl (by first | exact bin_geq_t (by omega) | exact bin_geq_f (by omega)) ?_
    refine so_move rfl rfl rfl ?_
    first | refine so_move rfl rfl rfl ?_ | refine so_skip rfl rfl rfl ?_
    first | refine so_bin rfl rfl rfl rfl (by first | exact bin_leq_t (by omega) | exact bin_leq_f (by omega)) ?_ | refine so_skip rfl rfl rfl ?_
    first | refine so_pick_t rfl rfl rfl rfl ?_ | refine so_pick_f rfl rfl rfl rfl ?_
    refine so_move rfl rfl rfl ?_
    first | refine so_move rfl rfl rfl ?_ | refine so_skip rfl rfl rfl ?_
    first | refine so_bin rfl rfl rfl rfl (by first | exact bin_geq_t (by omega) | exact bin_geq_f (by omega)) ?_ | refine so_skip rfl rfl rfl ?_
    first | refine so_pick_t rfl rfl rfl rfl ?_ | refine so_pick_f rfl rfl rfl rfl ?_
    refine so_move rfl rfl rfl ?_
    first | refine so_move rfl rfl rfl ?_ | refine so_skip rfl rfl rfl ?_
    first | refine so_bin rfl rfl rfl rfl (by first | exact bin_leq_t (by omega) | exact bin_leq_f (by omega)) ?_ | refine so_skip rfl rfl rfl ?_
    first | refine so_pick_t rfl rfl rfl rfl ?_ | refine so_pick_f rfl rfl rfl rfl ?_
    refine so_move rfl rfl rfl ?_
    first | refine so_move rfl rfl rfl ?_ | refine so_skip rfl rfl rfl ?_
    first | refine so_bin rfl rfl rfl rfl (by first | exact bin_eql_t (by first | rfl | assumption | omega) | exact bin_eql_f (by first | rfl | assumption | omega)) ?_ | refine so_skip rfl rfl rfl ?_
    first | refine so_move rfl rfl rfl ?_ | refine so_skip rfl rfl rfl ?_
    first | refine so_bin rfl rfl rfl rfl (by first | exact bin_eql_t (by first | rfl | assumption | omega) | exact bin_eql_f (by first | rfl | assumption | omega)) ?_ | refine so_skip rfl rfl rfl ?_
    first | refine so_bin rfl rfl rfl rfl (by first | exact bin_beql Tryz.underlying4) ?_ | refine so_skip rfl rfl rfl ?_
    first | refine so_pick_t rfl rfl rfl rfl ?_ | refine so_pick_f rfl rfl rfl rfl ?_
    refine so_assign rfl rfl rfl ?_
    refine so_then ?_
    refine sx_ret ?_
    refine sk_return1 (.tmp rfl .nil) ?_
    exact fun H hH => ⟨congrArg Value.bool (sizeOk_f (by omega)).symm, hH.kept⟩
  · skip
    refine sx_region (E := E) ?_
    refine so_move rfl rfl rfl ?_
    refine so_bin rfl rfl rfl rfl (by first | exact bin_geq_t (by omega) | exact bin_geq_f (by omega)) ?_
    refine so_move rfl rfl rfl ?_
    first | refine so_move rfl rfl rfl ?_ | refine so_skip rfl rfl rfl ?_
    first | refine so_bin rfl rfl rfl rfl (by first | exact bin_leq_t (by omega) | exact bin_leq_f (by omega)) ?_ | refine so_skip rfl rfl rfl ?_
    first | refine so_pick_t rfl rfl rfl rfl ?_ | refine so_pick_f rfl rfl rfl rfl ?_
    refine so_move rfl rfl rfl ?_
    first | refine so_move rfl rfl rfl ?_ | refine so_skip rfl rfl rfl ?_
    first | refine so_bin rfl rfl rfl rfl (by first | exact bin_geq_t (by omega) | exact bin_geq_f (by omega)) ?_ | refine so_skip rfl rfl rfl ?_
    first | refine so_pick_t rfl rfl rfl rfl ?_ | refine so_pick_f rfl rfl rfl rfl ?_
    refine so_move rfl rfl rfl ?_
    first | refine so_move rfl rfl rfl ?_ | refine so_skip rfl rfl rfl ?_
    first | refine so_bin rfl rfl rfl rfl (by first | exact bin_leq_t (by omega) | exact bin_leq_f (by omega)) ?_ | refine so_skip rfl rfl rfl ?_
    first | refine so_pick_t rfl rfl rfl rfl ?_ | refine so_pick_f rfl rfl rfl rfl ?_
    refine so_move rfl rfl rfl ?_
    first | refine so_move rfl rfl rfl ?_ | refine so_skip rfl rfl rfl ?_
    first | refine so_bin rfl rfl rfl rfl (by first | exact bin_eql_t (by first | rfl | assumption | omega) | exact bin_eql_f (by first | rfl | assumption | omega)) ?_ | refine so_skip rfl rfl rfl ?_
    first | refine so_move rfl rfl rfl ?_ | refine so_skip rfl rfl rfl ?_
    first | refine so_bin rfl rfl rfl rfl (by first | exact bin_eql_t (by first | rfl | assumption | omega) | exact bin_eql_f (by first | rfl | assumption | omega)) ?_ | refine so_skip rfl rfl rfl ?_
    first | refine so_bin rfl rfl rfl rfl (by first | exact bin_beql Tryz.underlying4) ?_ | refine so_skip rfl rfl rfl ?_
    first | refine so_pick_t rfl rfl rfl rfl ?_ | refine so_pick_f rfl rfl rfl rfl ?_
    refine so_assign rfl rfl rfl ?_
    refine so_then ?_
    refine sx_ret ?_
    refine sk_return1 (.tmp rfl .nil) ?_
    exact fun H hH => ⟨congrArg Value.bool (sizeOk_f (by omega)).symm, hH.kept⟩
  · skip
    refine sx_region (E := E) ?_
    refine so_move rfl rfl rfl ?_
    refine so_bin rfl rfl rfl rfl (by first | exact bin_geq_t (by omega) | exact bin_geq_f (by omega)) ?_
    refine so_move rfl rfl rfl ?_
    first | refine so_move rfl rfl rfl ?_ | refine so_skip rfl rfl rfl ?_
    first | refine so_bin rfl rfl rfl rfl (by first | exact bin_leq_t (by omega) | exact bin_leq_f (by omega)) ?_ | refine so_skip rfl rfl rfl ?_
    first | refine so_pick_t rfl rfl rfl rfl ?_ | refine so_pick_f rfl rfl rfl rfl ?_
    refine so_move rfl rfl rfl ?_
    first | refine so_move rfl rfl rfl ?_ | refine so_skip rfl rfl rfl ?_
    first | refine so_bin rfl rfl rfl rfl (by first | exact bin_geq_t (by omega) | exact bin_geq_f (by omega)) ?_ | refine so_skip rfl rfl rfl ?_
    first | refine so_pick_t rfl rfl rfl rfl ?_ | refine so_pick_f rfl rfl rfl rfl ?_
    refine so_move rfl rfl rfl ?_
    first | refine so_move rfl rfl rfl ?_ | refine so_skip rfl rfl rfl ?_
    first | refine so_bin rfl rfl rfl rfl (by first | exact bin_leq_t (by omega) | exact bin_leq_f (by omega)) ?_ | refine so_skip rfl rfl rfl ?_
    first | refine so_pick_t rfl rfl rfl rfl ?_ | refine so_pick_f rfl rfl rfl rfl ?_
    refine so_move rfl rfl rfl ?_
    first | refine so_move rfl rfl rfl ?_ | refine so_skip rfl rfl rfl ?_
    first | refine so_bin rfl rfl rfl rfl (by first | exact bin_eql_t (by first | rfl | assumption | omega) | exact bin_eql_f (by first | rfl | assumption | omega)) ?_ | refine so_skip rfl rfl rfl ?_
    first | refine so_move rfl rfl rfl ?_ | refine so_skip rfl rfl rfl ?_
    first | refine so_bin rfl rfl rfl rfl (by first | exact bin_eql_t (by first | rfl | assumption | omega) | exact bin_eql_f (by first | rfl | assumption | omega)) ?_ | refine so_skip rfl rfl rfl ?_
    first | refine so_bin rfl rfl rfl rfl (by first | exact bin_beql Tryz.underlying4) ?_ | refine so_skip rfl rfl rfl ?_
    first | refine so_pick_t rfl rfl rfl rfl ?_ | refine so_pick_f rfl rfl rfl rfl ?_
    refine so_assign rfl rfl rfl ?_
    refine so_then ?_
    refine sx_ret ?_
    refine sk_return1 (.tmp rfl .nil) ?_
    exact fun H hH => ⟨congrArg Value.bool (sizeOk_f (by omega)).symm, hH.kept⟩
  · skip
    refine sx_region (E := E) ?_
    refine so_move rfl rfl rfl ?_
    refine so_bin rfl rfl rfl rfl (by first | exact bin_geq_t (by omega) | exact bin_geq_f (by omega)) ?_
    refine so_move rfl rfl rfl ?_
    first | refine so_move rfl rfl rfl ?_ | refine so_skip rfl rfl rfl ?_
    first | refine so_bin rfl rfl rfl rfl (by first | exact bin_leq_t (by omega) | exact bin_leq_f (by omega)) ?_ | refine so_skip rfl rfl rfl ?_
    first | refine so_pick_t rfl rfl rfl rfl ?_ | refine so_pick_f rfl rfl rfl rfl ?_
    refine so_move rfl rfl rfl ?_
    first | refine so_move rfl rfl rfl ?_ | refine so_skip rfl rfl rfl ?_
    first | refine so_bin rfl rfl rfl rfl (by first | exact bin_geq_t (by omega) | exact bin_geq_f (by omega)) ?_ | refine so_skip rfl rfl rfl ?_
    first | refine so_pick_t rfl rfl rfl rfl ?_ | refine so_pick_f rfl rfl rfl rfl ?_
    refine so_move rfl rfl rfl ?_
    first | refine so_move rfl rfl rfl ?_ | refine so_skip rfl rfl rfl ?_
    first | refine so_bin rfl rfl rfl rfl (by first | exact bin_leq_t (by omega) | exact bin_leq_f (by omega)) ?_ | refine so_skip rfl rfl rfl ?_
    first | refine so_pick_t rfl rfl rfl rfl ?_ | refine so_pick_f rfl rfl rfl rfl ?_
    refine so_move rfl rfl rfl ?_
    first | refine so_move rfl rfl rfl ?_ | refine so_skip rfl rfl rfl ?_
    first | refine so_bin rfl rfl rfl rfl (by first | exact bin_eql_t (by first | rfl | assumption | omega) | exact bin_eql_f (by first | rfl | assumption | omega)) ?_ | refine so_skip rfl rfl rfl ?_
    first | refine so_move rfl rfl rfl ?_ | refine so_skip rfl rfl rfl ?_
    first | refine so_bin rfl rfl rfl rfl (by first | exact bin_eql_t (by first | rfl | assumption | omega) | exact bin_eql_f (by first | rfl | assumption | omega)) ?_ | refine so_skip rfl rfl rfl ?_
    first | refine so_bin rfl rfl rfl rfl (by first | exact bin_beql Tryz.underlying4) ?_ | refine so_skip rfl rfl rfl ?_
    first | refine so_pick_t rfl rfl rfl rfl ?_ | refine so_pick_f rfl rfl rfl rfl ?_
    refine so_assign rfl rfl rfl ?_
    refine so_then ?_
    refine sx_ret ?_
    refine sk_return1 (.tmp rfl .nil) ?_
    exact fun H hH => ⟨congrArg Value.bool (sizeOk_t (by omega)).symm, hH.kept⟩
  · skip
    refine sx_region (E := E) ?_
    refine so_move rfl rfl rfl ?_
    refine so_bin rfl rfl rfl rfl (by first | exact bin_geq_t (by omega) | exact bin_geq_f (by omega)) ?_
    refine so_move rfl rfl rfl ?_
    first | refine so_move rfl rfl rfl ?_ | refine so_skip rfl rfl rfl ?_
    first | refine so_bin rfl rfl rfl rfl (by first | exact bin_leq_t (by omega) | exact bin_leq_f (by omega)) ?_ | refine so_skip rfl rfl rfl ?_
    first | refine so_pick_t rfl rfl rfl rfl ?_ | refine so_pick_f rfl rfl rfl rfl ?_
    refine so_move rfl rfl rfl ?_
    first | refine so_move rfl rfl rfl ?_ | refine so_skip rfl rfl rfl ?_
    first | refine so_bin rfl rfl rfl rfl (by first | exact bin_geq_t (by omega) | exact bin_geq_f (by omega)) ?_ | refine so_skip rfl rfl rfl ?_
    first | refine so_pick_t rfl rfl rfl rfl ?_ | refine so_pick_f rfl rfl rfl rfl ?_
    refine so_move rfl rfl rfl ?_
    first | refine so_move rfl rfl rfl ?_ | refine so_skip rfl rfl rfl ?_
    first | refine so_bin rfl rfl rfl rfl (by first | exact bin_leq_t (by omega) | exact bin_leq_f (by omega)) ?_ | refine so_skip rfl rfl rfl ?_
    first | refine so_pick_t rfl rfl rfl rfl ?_ | refine so_pick_f rfl rfl rfl rfl ?_
    refine so_move rfl rfl rfl ?_
    first | refine so_move rfl rfl rfl ?_ | refine so_skip rfl rfl rfl ?_
    first | refine so_bin rfl rfl rfl rfl (by first | exact bin_eql_t (by first | rfl | assumption | omega) | exact bin_eql_f (by first | rfl | assumption | omega)) ?_ | refine so_skip rfl rfl rfl ?_
    first | refine so_move rfl rfl rfl ?_ | refine so_skip rfl rfl rfl ?_
    first | refine so_bin rfl rfl rfl rfl (by first | exact bin_eql_t (by first | rfl | assumption | omega) | exact bin_eql_f (by first | rfl | assumption | omega)) ?_ | refine so_skip rfl rfl rfl ?_
    first | refine so_bin rfl rfl rfl rfl (by first | exact bin_beql Tryz.underlying4) ?_ | refine so_skip rfl rfl rfl ?_
    first | refine so_pick_t rfl rfl rfl rfl ?_ | refine so_pick_f rfl rfl rfl rfl ?_
    refine so_assign rfl rfl rfl ?_
    refine so_then ?_
    refine sx_ret ?_
    refine sk_return1 (.tmp rfl .nil) ?_
    exact fun H hH => ⟨congrArg Value.bool (sizeOk_f (by omega)).symm, hH.kept⟩
  · skip
    refine sx_region (E := E) ?_
    refine so_move rfl rfl rfl ?_
    refine so_bin rfl rfl rfl rfl (by first | exact bin_geq_t (by omega) | exact bin_geq_f (by omega)) ?_
    refine so_move rfl rfl rfl ?_
    first | refine so_move rfl rfl rfl ?_ | refine so_skip rfl rfl rfl ?_
    first | refine so_bin rfl rfl rfl rfl (by first | exact bin_leq_t (by omega) | exact bin_leq_f (by omega)) ?_ | refine so_skip rfl rfl rfl ?_
    first | refine so_pick_t rfl rfl rfl rfl ?_ | refine so_pick_f rfl rfl rfl rfl ?_
    refine so_move rfl rfl rfl ?_
    first | refine so_move rfl rfl rfl ?_ | refine so_skip rfl rfl rfl ?_
    first | refine so_bin rfl rfl rfl rfl (by first | exact bin_geq_t (by omega) | exact bin_geq_f (by omega)) ?_ | refine so_skip rfl rfl rfl ?_
    first | refine so_pick_t rfl rfl rfl rfl ?_ | refine so_pick_f rfl rfl rfl rfl ?_
    refine so_move rfl rfl rfl ?_
    first | refine so_move rfl rfl rfl ?_ | refine so_skip rfl rfl rfl ?_
    first | refine so_bin rfl rfl rfl rfl (by first | exact bin_leq_t (by omega) | exact bin_leq_f (by omega)) ?_ | refine so_skip rfl rfl rfl ?_
    first | refine so_pick_t rfl rfl rfl rfl ?_ | refine so_pick_f rfl rfl rfl rfl ?_
    refine so_move rfl rfl rfl ?_
    first | refine so_move rfl rfl rfl ?_ | refine so_skip rfl rfl rfl ?_
    first | refine so_bin rfl rfl rfl rfl (by first | exact bin_eql_t (by first | rfl | assumption | omega) | exact bin_eql_f (by first | rfl | assumption | omega)) ?_ | refine so_skip rfl rfl rfl ?_
    first | refine so_move rfl rfl rfl ?_ | refine so_skip rfl rfl rfl ?_
    first | refine so_bin rfl rfl rfl rfl (by first | exact bin_eql_t (by first | rfl | assumption | omega) | exact bin_eql_f (by first | rfl | assumption | omega)) ?_ | refine so_skip rfl rfl rfl ?_
    first | refine so_bin rfl rfl rfl rfl (by first | exact bin_beql Tryz.underlying4) ?_ | refine so_skip rfl rfl rfl ?_
    first | refine so_pick_t rfl rfl rfl rfl ?_ | refine so_pick_f rfl rfl rfl rfl ?_
    refine so_assign rfl rfl rfl ?_
    refine so_then ?_
    refine sx_ret ?_
    refine sk_return1 (.tmp rfl .nil) ?_
    exact fun H hH => ⟨congrArg Value.bool (sizeOk_f (by omega)).symm, hH.kept⟩
  · skip
    refine sx_region (E := E) ?_
    refine so_move rfl rfl rfl ?_
    refine so_bin rfl rfl rfl rfl (by first | exact bin_geq_t (by omega) | exact bin_geq_f (by omega)) ?_
    refine so_move rfl rfl rfl ?_
    first | refine so_move rfl rfl rfl ?_ | refine so_skip rfl rfl rfl ?_
    first | refine so_bin rfl rfl rfl rfl (by first | exact bin_leq_t (by omega) | exact bin_leq_f (by omega)) ?_ | refine so_skip rfl rfl rfl ?_
    first | refine so_pick_t rfl rfl rfl rfl ?_ | refine so_pick_f rfl rfl rfl rfl ?_
    refine so_move rfl rfl rfl ?_
    first | refine so_move rfl rfl rfl ?_ | refine so_skip rfl rfl rfl ?_
    first | refine so_bin rfl rfl rfl rfl (by first | exact bin_geq_t (by omega) | exact bin_geq_f (by omega)) ?_ | refine so_skip rfl rfl rfl ?_
    first | refine so_pick_t rfl rfl rfl rfl ?_ | refine so_pick_f rfl rfl rfl rfl ?_
    refine so_move rfl rfl rfl ?_
    first | refine so_move rfl rfl rfl ?_ | refine so_skip rfl rfl rfl ?_
    first | refine so_bin rfl rfl rfl rfl (by first | exact bin_leq_t (by omega) | exact bin_leq_f (by omega)) ?_ | refine so_skip rfl rfl rfl ?_
    first | refine so_pick_t rfl rfl rfl rfl ?_ | refine so_pick_f rfl rfl rfl rfl ?_
    refine so_move rfl rfl rfl ?_
    first | refine so_move rfl rfl rfl ?_ | refine so_skip rfl rfl rfl ?_
    first | refine so_bin rfl rfl rfl rfl (by first | exact bin_eql_t (by first | rfl | assumption | omega) | exact bin_eql_f (by first | rfl | assumption | omega)) ?_ | refine so_skip rfl rfl rfl ?_
    first | refine so_move rfl rfl rfl ?_ | refine so_skip rfl rfl rfl ?_
    first | refine so_bin rfl rfl rfl rfl (by first | exact bin_eql_t (by first | rfl | assumption | omega) | exact bin_eql_f (by first | rfl | assumption | omega)) ?_ | refine so_skip rfl rfl rfl ?_
    first | refine so_bin rfl rfl rfl rfl (by first | exact bin_beql Tryz.underlying4) ?_ | refine so_skip rfl rfl rfl ?_
    first | refine so_pick_t rfl rfl rfl rfl ?_ | refine so_pick_f rfl rfl rfl rfl ?_
    refine so_assign rfl rfl rfl ?_
    refine so_then ?_
    refine sx_ret ?_
    refine sk_return1 (.tmp rfl .nil) ?_
    exact fun H hH => ⟨congrArg Value.bool (sizeOk_t (by omega)).symm, hH.kept⟩

theorem check_ok {S : AH} {A : Nat → Prop} (hA : ∀ j, A j → j < S.nx) {w h : Int} {x : Value} {l : List (List CT)} (hx : CellA A S (.row 32 k35) x (.row l)) : XCall Tryz.prog 20 [.agg ⟨[.int .i64 w, .int .i64 h, x]⟩] S fun v H' => v = .int .i64 (imgE w h l) ∧ Kept S.nx S H' := by
  obtain ⟨l2, ax, cx, e2, rfl, rx⟩ := hx.rowD
  cases e2
  have hb := rx.len
  refine x_enter (E := E) (n := 33) (rs := [.tmp 2]) (l := [(0, _)]) (fn_own Tryz.func20 rfl rfl rfl) hA rfl ?_
  refine sx_seq ?_
  refine sx_region (E := E) ?_
  refine so_boxA rfl rfl (fun h => nomatch h) rfl ?_
  intro N1
  refine so_assign rfl rfl rfl ?_
  refine so_then ?_
  refine sx_seq ?_
  refine sx_seq ?_
  rcases img3 w h l.length with hs | ⟨hs, hb2, hm⟩ | ⟨hs, hb2, hm⟩
  · skip
    refine sx_region (E := E) ?_
    refine so_fieldO (o' := 0) rfl rfl rfl Tryz.underlying27 rfl inf3 rfl rfl ?_
    refine so_load rfl rfl rfl (by first | exact ld_own Tryz.underlying3 rfl (by repeat (first | exact List.Mem.head _ | apply List.Mem.tail)) (by first | exact cellsOf_get rfl | rfl) | exact ld_data Tryz.underlying3 rfl (by first | assumption | exact InA.add (by assumption) | exact InA.add (InA.add (by assumption))) (by assumption)) ?_
    refine so_fieldO (o' := 1) rfl rfl rfl Tryz.underlying27 rfl inf3 rfl rfl ?_
    refine so_load rfl rfl rfl (by first | exact ld_own Tryz.underlying3 rfl (by repeat (first | exact List.Mem.head _ | apply List.Mem.tail)) (by first | exact cellsOf_get rfl | rfl) | exact ld_data Tryz.underlying3 rfl (by first | assumption | exact InA.add (by assumption) | exact InA.add (InA.add (by assumption))) (by assumption)) ?_
    refine so_call rfl rfl (fun h => nomatch h) rfl has40 (by repeat (first | exact Opvs.nil | apply Opvs.cons rfl)) (fun H hH => (sized_ok w h).b hs) ?_
    refine so_not rfl rfl rfl rfl ?_
    refine so_move rfl rfl rfl ?_
    first | refine so_fieldO (o' := 2) rfl rfl rfl Tryz.underlying27 rfl inf25 rfl rfl ?_ | refine so_skip rfl rfl rfl ?_
    first | refine so_load rfl rfl rfl (by first | exact ld_own Tryz.underlying25 rfl (by repeat (first | exact List.Mem.head _ | apply List.Mem.tail)) (by first | exact cellsOf_get rfl | rfl) | exact ld_data Tryz.underlying25 rfl (by first | assumption | exact InA.add (by assumption) | exact InA.add (InA.add (by assumption))) (by assumption)) ?_ | refine so_skip rfl rfl rfl ?_
    first | refine so_lenL rfl rfl rfl rfl rfl rfl Tryz.underlying25 ?_ | refine so_skip rfl rfl rfl ?_
    first | refine so_fieldO (o' := 0) rfl rfl rfl Tryz.underlying27 rfl inf3 rfl rfl ?_ | refine so_skip rfl rfl rfl ?_
    first | refine so_load rfl rfl rfl (by first | exact ld_own Tryz.underlying3 rfl (by repeat (first | exact List.Mem.head _ | apply List.Mem.tail)) (by first | exact cellsOf_get rfl | rfl) | exact ld_data Tryz.underlying3 rfl (by first | assumption | exact InA.add (by assumption) | exact InA.add (InA.add (by assumption))) (by assumption)) ?_ | refine so_skip rfl rfl rfl ?_
    first | refine so_fieldO (o' := 1) rfl rfl rfl Tryz.underlying27 rfl inf3 rfl rfl ?_ | refine so_skip rfl rfl rfl ?_
    first | refine so_load rfl rfl rfl (by first | exact ld_own Tryz.underlying3 rfl (by repeat (first | exact List.Mem.head _ | apply List.Mem.tail)) (by first | exact cellsOf_get rfl | rfl) | exact ld_data Tryz.underlying3 rfl (by first | assumption | exact InA.add (by assumption) | exact InA.add (InA.add (by assumption))) (by assumption)) ?_ | refine so_skip rfl rfl rfl ?_
    first | refine so_bin rfl rfl rfl rfl (by first | exact bin_mul (wrap64 (by omega) (by omega))) ?_ | refine so_skip rfl rfl rfl ?_
    first | refine so_bin rfl rfl rfl rfl (by first | exact bin_neq_f (by first | rfl | assumption | omega) | exact bin_neq_t (by first | rfl | assumption | omega)) ?_ | refine so_skip rfl rfl rfl ?_
    first | refine so_pick_t rfl rfl rfl rfl ?_ | refine so_pick_f rfl rfl rfl rfl ?_
    refine so_then ?_
    refine sx_true rfl ?_
    refine sx_seq ?_
    refine sx_region (E := E) ?_
    refine so_assign rfl rfl rfl ?_
    refine so_then ?_
    refine sx_ret ?_
    refine sk_then_ret ?_
    refine sk_return1 (.tmp rfl .nil) ?_
    exact fun H hH => ⟨by rw [imgE_a hs], hH.kept⟩
  · skip
    refine sx_region (E := E) ?_
    refine so_fieldO (o' := 0) rfl rfl rfl Tryz.underlying27 rfl inf3 rfl rfl ?_
    refine so_load rfl rfl rfl (by first | exact ld_own Tryz.underlying3 rfl (by repeat (first | exact List.Mem.head _ | apply List.Mem.tail)) (by first | exact cellsOf_get rfl | rfl) | exact ld_data Tryz.underlying3 rfl (by first | assumption | exact InA.add (by assumption) | exact InA.add (InA.add (by assumption))) (by assumption)) ?_
    refine so_fieldO (o' := 1) rfl rfl rfl Tryz.underlying27 rfl inf3 rfl rfl ?_
    refine so_load rfl rfl rfl (by first | exact ld_own Tryz.underlying3 rfl (by repeat (first | exact List.Mem.head _ | apply List.Mem.tail)) (by first | exact cellsOf_get rfl | rfl) | exact ld_data Tryz.underlying3 rfl (by first | assumption | exact InA.add (by assumption) | exact InA.add (InA.add (by assumption))) (by assumption)) ?_
    refine so_call rfl rfl (fun h => nomatch h) rfl has40 (by repeat (first | exact Opvs.nil | apply Opvs.cons rfl)) (fun H hH => (sized_ok w h).b hs) ?_
    refine so_not rfl rfl rfl rfl ?_
    refine so_move rfl rfl rfl ?_
    first | refine so_fieldO (o' := 2) rfl rfl rfl Tryz.underlying27 rfl inf25 rfl rfl ?_ | refine so_skip rfl rfl rfl ?_
    first | refine so_load rfl rfl rfl (by first | exact ld_own Tryz.underlying25 rfl (by repeat (first | exact List.Mem.head _ | apply List.Mem.tail)) (by first | exact cellsOf_get rfl | rfl) | exact ld_data Tryz.underlying25 rfl (by first | assumption | exact InA.add (by assumption) | exact InA.add (InA.add (by assumption))) (by assumption)) ?_ | refine so_skip rfl rfl rfl ?_
    first | refine so_lenL rfl rfl rfl rfl rfl rfl Tryz.underlying25 ?_ | refine so_skip rfl rfl rfl ?_
    first | refine so_fieldO (o' := 0) rfl rfl rfl Tryz.underlying27 rfl inf3 rfl rfl ?_ | refine so_skip rfl rfl rfl ?_
    first | refine so_load rfl rfl rfl (by first | exact ld_own Tryz.underlying3 rfl (by repeat (first | exact List.Mem.head _ | apply List.Mem.tail)) (by first | exact cellsOf_get rfl | rfl) | exact ld_data Tryz.underlying3 rfl (by first | assumption | exact InA.add (by assumption) | exact InA.add (InA.add (by assumption))) (by assumption)) ?_ | refine so_skip rfl rfl rfl ?_
    first | refine so_fieldO (o' := 1) rfl rfl rfl Tryz.underlying27 rfl inf3 rfl rfl ?_ | refine so_skip rfl rfl rfl ?_
    first | refine so_load rfl rfl rfl (by first | exact ld_own Tryz.underlying3 rfl (by repeat (first | exact List.Mem.head _ | apply List.Mem.tail)) (by first | exact cellsOf_get rfl | rfl) | exact ld_data Tryz.underlying3 rfl (by first | assumption | exact InA.add (by assumption) | exact InA.add (InA.add (by assumption))) (by assumption)) ?_ | refine so_skip rfl rfl rfl ?_
    first | refine so_bin rfl rfl rfl rfl (by first | exact bin_mul (wrap64 (by omega) (by omega))) ?_ | refine so_skip rfl rfl rfl ?_
    first | refine so_bin rfl rfl rfl rfl (by first | exact bin_neq_f (by first | rfl | assumption | omega) | exact bin_neq_t (by first | rfl | assumption | omega)) ?_ | refine so_skip rfl rfl rfl ?_
    first | refine so_pick_t rfl rfl rfl rfl ?_ | refine so_pick_f rfl rfl rfl rfl ?_
    refine so_then ?_
    refine sx_true rfl ?_
    refine sx_seq ?_
    refine sx_region (E := E) ?_
    refine so_assign rfl rfl rfl ?_
    refine so_then ?_
    refine sx_ret ?_
    refine sk_then_ret ?_
    refine sk_return1 (.tmp rfl .nil) ?_
    exact fun H hH => ⟨by rw [imgE_b hm], hH.kept⟩
  · skip
    refine sx_region (E := E) ?_
    refine so_fieldO (o' := 0) rfl rfl rfl Tryz.underlying27 rfl inf3 rfl rfl ?_
    refine so_load rfl rfl rfl (by first | exact ld_own Tryz.underlying3 rfl (by repeat (first | exact List.Mem.head _ | apply List.Mem.tail)) (by first | exact cellsOf_get rfl | rfl) | exact ld_data Tryz.underlying3 rfl (by first | assumption | exact InA.add (by assumption) | exact InA.add (InA.add (by assumption))) (by assumption)) ?_
    refine so_fieldO (o' := 1) rfl rfl rfl Tryz.underlying27 rfl inf3 rfl rfl ?_
    refine so_load rfl rfl rfl (by first | exact ld_own Tryz.underlying3 rfl (by repeat (first | exact List.Mem.head _ | apply List.Mem.tail)) (by first | exact cellsOf_get rfl | rfl) | exact ld_data Tryz.underlying3 rfl (by first | assumption | exact InA.add (by assumption) | exact InA.add (InA.add (by assumption))) (by assumption)) ?_
    refine so_call rfl rfl (fun h => nomatch h) rfl has40 (by repeat (first | exact Opvs.nil | apply Opvs.cons rfl)) (fun H hH => (sized_ok w h).b hs) ?_
    refine so_not rfl rfl rfl rfl ?_
    refine so_move rfl rfl rfl ?_
    first | refine so_fieldO (o' := 2) rfl rfl rfl Tryz.underlying27 rfl inf25 rfl rfl ?_ | refine so_skip rfl rfl rfl ?_
    first | refine so_load rfl rfl rfl (by first | exact ld_own Tryz.underlying25 rfl (by repeat (first | exact List.Mem.head _ | apply List.Mem.tail)) (by first | exact cellsOf_get rfl | rfl) | exact ld_data Tryz.underlying25 rfl (by first | assumption | exact InA.add (by assumption) | exact InA.add (InA.add (by assumption))) (by assumption)) ?_ | refine so_skip rfl rfl rfl ?_
    first | refine so_lenL rfl rfl rfl rfl rfl rfl Tryz.underlying25 ?_ | refine so_skip rfl rfl rfl ?_
    first | refine so_fieldO (o' := 0) rfl rfl rfl Tryz.underlying27 rfl inf3 rfl rfl ?_ | refine so_skip rfl rfl rfl ?_
    first | refine so_load rfl rfl rfl (by first | exact ld_own Tryz.underlying3 rfl (by repeat (first | exact List.Mem.head _ | apply List.Mem.tail)) (by first | exact cellsOf_get rfl | rfl) | exact ld_data Tryz.underlying3 rfl (by first | assumption | exact InA.add (by assumption) | exact InA.add (InA.add (by assumption))) (by assumption)) ?_ | refine so_skip rfl rfl rfl ?_
    first | refine so_fieldO (o' := 1) rfl rfl rfl Tryz.underlying27 rfl inf3 rfl rfl ?_ | refine so_skip rfl rfl rfl ?_
    first | refine so_load rfl rfl rfl (by first | exact ld_own Tryz.underlying3 rfl (by repeat (first | exact List.Mem.head _ | apply List.Mem.tail)) (by first | exact cellsOf_get rfl | rfl) | exact ld_data Tryz.underlying3 rfl (by first | assumption | exact InA.add (by assumption) | exact InA.add (InA.add (by assumption))) (by assumption)) ?_ | refine so_skip rfl rfl rfl ?_
    first | refine so_bin rfl rfl rfl rfl (by first | exact bin_mul (wrap64 (by omega) (by omega))) ?_ | refine so_skip rfl rfl rfl ?_
    first | refine so_bin rfl rfl rfl rfl (by first | exact bin_neq_f (by first | rfl | assumption | omega) | exact bin_neq_t (by first | rfl | assumption | omega)) ?_ | refine so_skip rfl rfl rfl ?_
    first | refine so_pick_t rfl rfl rfl rfl ?_ | refine so_pick_f rfl rfl rfl rfl ?_
    refine so_then ?_
    refine sx_false rfl ?_
    refine sx_skip ?_
    refine sk_then ?_
    refine sx_seq ?_
    refine sx_seq ?_
    refine sx_region (E := E) ?_
    refine so_fieldO (o' := 2) rfl rfl rfl Tryz.underlying27 rfl inf25 rfl rfl ?_
    refine so_load rfl rfl rfl (by first | exact ld_own Tryz.underlying25 rfl (by repeat (first | exact List.Mem.head _ | apply List.Mem.tail)) (by first | exact cellsOf_get rfl | rfl) | exact ld_data Tryz.underlying25 rfl (by first | assumption | exact InA.add (by assumption) | exact InA.add (InA.add (by assumption))) (by assumption)) ?_
    refine so_lenL rfl rfl rfl rfl rfl rfl Tryz.underlying25 ?_
    refine so_move rfl rfl rfl ?_
    refine so_then ?_
    refine sx_block ?_
    refine sx_loop (σ := Nat) (fun k => l.length - k) (fun k => [(23, .slice ax l.length cx), (24, .int .i64 ((l.length : Nat) : Int)), (25, .int .i64 ((k : Nat) : Int))]) (fun _ => S) (fun _ => A) (fun _ => []) (fun k => k ≤ l.length ∧ (∀ j d, j < k → l[j]? = some d → pixC d = true)) (0) (⟨Nat.zero_le _, fun j d h => absurd h (Nat.not_lt_zero _)⟩) (by repeat (first | exact .nil | refine .cons rfl ?_)) rfl rfl (by repeat (first | exact List.nil_sublist _ | apply List.Sublist.cons_cons | apply List.Sublist.cons)) ?_
    intro s hJ t1
    obtain ⟨hJ, hg⟩ := hJ
    refine sx_seq ?_
    rcases Nat.lt_or_ge s l.length with hk | hk
    · skip
      obtain ⟨qx, us, d, eqx, ix, hc, lx, kx⟩ := rx.at' s hk
      cases eqx
      obtain ⟨r, g, b, a, rfl, rfl, _, _, _, _⟩ := pix4 kx
      refine sx_region (E := E) ?_
      refine so_bin rfl rfl rfl rfl (by first | exact bin_lss_t (by omega) | exact bin_lss_f (by omega)) ?_
      refine so_then ?_
      refine sx_seq ?_
      refine sx_true rfl ?_
      refine sx_skip ?_
      refine sk_then ?_
      refine sx_seq ?_
      refine sx_block ?_
      refine sx_seq ?_
      refine sx_region (E := E) ?_
      first | refine so_indexO rfl rfl rfl rfl Tryz.underlying25 inf35 rfl (by omega) rfl ?_ | refine so_index rfl rfl rfl rfl Tryz.underlying25 inf35 rfl (by omega) ?_
      refine so_load rfl rfl rfl (by first | exact ld_dataA Tryz.underlying35 rfl inf35 rfl (InA.add ix) lx | exact ld_ownA Tryz.underlying35 rfl inf35 rfl (by repeat (first | exact List.Mem.head _ | apply List.Mem.tail)) (by first | exact cellsOf_le rfl | exact Nat.le_of_ble_eq_true rfl | decide | omega) (by first | exact cellsOf_all | exact take_all rfl | exact cellsOf_part rfl | rfl) | exact ld_dataA Tryz.underlying35 rfl inf35 rfl (by first | assumption | exact InA.add (by assumption) | exact InA.add (InA.add (by assumption))) (by assumption)) ?_
      refine so_alloc (cs := (.int .i64 0 :: .int .i64 0 :: .int .i64 0 :: .int .i64 0 :: [])) rfl rfl (fun h => nomatch h) inf35 rfl rfl ?_
      intro N4
      refine so_storeA rfl (fun h => nomatch h) rfl rfl inf35 (by first | exact cellsOf_length _ _ | rfl) rfl (by repeat (first | exact .zero | apply Upd.succ)) (by first | exact cellsOf_set rfl | exact cellsOf_setr rfl | exact cellsOf_store rfl | exact store_all rfl | rfl) (by first | exact cellsOf_in rfl rfl | exact cellsOf_in rfl (cellsOf_length _ _) | exact cellsOf_le rfl | exact Nat.le_of_ble_eq_true rfl | omega) (fun h => nomatch h) ?_
      refine so_then ?_
      refine sx_seq ?_
      cases hp : pixOk r g b a
      · skip
        refine sx_region (E := E) ?_
        refine so_load rfl rfl rfl (by first | exact ld_ownA Tryz.underlying35 rfl inf35 rfl (by repeat (first | exact List.Mem.head _ | apply List.Mem.tail)) (by first | exact cellsOf_le rfl | exact Nat.le_of_ble_eq_true rfl | decide | omega) (by first | exact cellsOf_all | exact take_all rfl | exact cellsOf_part rfl | rfl) | exact ld_dataA Tryz.underlying35 rfl inf35 rfl (by first | assumption | exact InA.add (by assumption) | exact InA.add (InA.add (by assumption))) (by assumption)) ?_
        refine so_call rfl rfl (fun h => nomatch h) rfl has41 (by repeat (first | exact Opvs.nil | apply Opvs.cons rfl)) (fun H hH => (valid_ok r g b a).b hp) ?_
        refine so_not rfl rfl rfl rfl ?_
        refine so_then ?_
        refine sx_true rfl ?_
        refine sx_seq ?_
        refine sx_region (E := E) ?_
        refine so_assign rfl rfl rfl ?_
        refine so_then ?_
        refine sx_ret ?_
        refine sk_block_ret ?_
        refine sk_then_ret ?_
        refine sk_loop_ret ?_
        refine sk_block_ret ?_
        refine sk_then_ret ?_
        refine sk_return1 (.tmp rfl .nil) ?_
        exact fun H hH => ⟨by rw [imgE_2 hs hm hc hp], hH.kept⟩
      · skip
        refine sx_region (E := E) ?_
        refine so_load rfl rfl rfl (by first | exact ld_ownA Tryz.underlying35 rfl inf35 rfl (by repeat (first | exact List.Mem.head _ | apply List.Mem.tail)) (by first | exact cellsOf_le rfl | exact Nat.le_of_ble_eq_true rfl | decide | omega) (by first | exact cellsOf_all | exact take_all rfl | exact cellsOf_part rfl | rfl) | exact ld_dataA Tryz.underlying35 rfl inf35 rfl (by first | assumption | exact InA.add (by assumption) | exact InA.add (InA.add (by assumption))) (by assumption)) ?_
        refine so_call rfl rfl (fun h => nomatch h) rfl has41 (by repeat (first | exact Opvs.nil | apply Opvs.cons rfl)) (fun H hH => (valid_ok r g b a).b hp) ?_
        refine so_not rfl rfl rfl rfl ?_
        refine so_then ?_
        refine sx_false rfl ?_
        refine sx_skip ?_
        refine sk_block ?_
        refine sk_then ?_
        refine sx_region (E := E) ?_
        refine so_bin rfl rfl rfl rfl (by first | exact bin_incr (by omega) | exact bin_add (wrap64 (by omega) (by omega)) | exact bin_add rfl) ?_
        refine so_move rfl rfl rfl ?_
        refine so_nil ?_
        refine sk_round (s + 1) (show l.length - (s + 1) < l.length - s by omega) ⟨by omega, fun j d2 hj hd2 => ?_⟩ (by repeat (first | exact .nil | refine .cons rfl ?_)) rfl rfl (by repeat (first | exact List.nil_sublist _ | apply List.Sublist.cons_cons | apply List.Sublist.cons))
        by_cases e : j = s
        · subst e; rw [hc] at hd2; cases hd2; exact hp
        · exact hg j d2 (by omega) hd2
    · skip
      refine sx_region (E := E) ?_
      refine so_bin rfl rfl rfl rfl (by first | exact bin_lss_t (by omega) | exact bin_lss_f (by omega)) ?_
      refine so_then ?_
      refine sx_seq ?_
      refine sx_false rfl ?_
      refine sx_exit ?_
      refine sk_then_exit ?_
      refine sk_loop_exit ?_
      refine sk_block_exit ?_
      refine sk_then ?_
      refine sx_seq ?_
      refine sx_region (E := E) ?_
      refine so_assign rfl rfl rfl ?_
      refine so_then ?_
      refine sx_ret ?_
      refine sk_return1 (.tmp rfl .nil) ?_
      exact fun H hH => ⟨by rw [imgE_0 hs hm fun j d h1 h2 => hg j d (by omega) h2], hH.kept⟩

theorem rcheck_ok {S : AH} {A : Nat → Prop} (hA : ∀ j, A j → j < S.nx) {w h : Int} {x : Value} {l : List (List CT)} (hx : CellA A S (.row 32 k35) x (.row l)) : XCall Tryz.prog 25 [.agg ⟨[.int .i64 w, .int .i64 h, x]⟩] S fun v H' => v = .int .i64 (imgE w h l) ∧ Kept S.nx S H' := by
  obtain ⟨l2, ax, cx, e2, rfl, rx⟩ := hx.rowD
  cases e2
  have hb := rx.len
  refine x_enter (E := E) (n := 54) (rs := [.tmp 2]) (l := [(0, _)]) (fn_own Tryz.func25 rfl rfl rfl) hA rfl ?_
  refine sx_seq ?_
  refine sx_region (E := E) ?_
  refine so_boxA rfl rfl (fun h => nomatch h) rfl ?_
  intro N1
  refine so_assign rfl rfl rfl ?_
  refine so_then ?_
  refine sx_seq ?_
  refine sx_seq ?_
  rcases rng5 w h with q | q | q | q | q
  · skip
    refine sx_region (E := E) ?_
    refine so_fieldO (o' := 0) rfl rfl rfl Tryz.underlying27 rfl inf3 rfl rfl ?_
    refine so_load rfl rfl rfl (by first | exact ld_own Tryz.underlying3 rfl (by repeat (first | exact List.Mem.head _ | apply List.Mem.tail)) (by first | exact cellsOf_get rfl | rfl) | exact ld_data Tryz.underlying3 rfl (by first | assumption | exact InA.add (by assumption) | exact InA.add (InA.add (by assumption))) (by assumption)) ?_
    refine so_bin rfl rfl rfl rfl (by first | exact bin_lss_t (by omega) | exact bin_lss_f (by omega)) ?_
    refine so_move rfl rfl rfl ?_
    first | refine so_fieldO (o' := 0) rfl rfl rfl Tryz.underlying27 rfl inf3 rfl rfl ?_ | refine so_skip rfl rfl rfl ?_
    first | refine so_load rfl rfl rfl (by first | exact ld_own Tryz.underlying3 rfl (by repeat (first | exact List.Mem.head _ | apply List.Mem.tail)) (by first | exact cellsOf_get rfl | rfl) | exact ld_data Tryz.underlying3 rfl (by first | assumption | exact InA.add (by assumption) | exact InA.add (InA.add (by assumption))) (by assumption)) ?_ | refine so_skip rfl rfl rfl ?_
    first | refine so_bin rfl rfl rfl rfl (by first | exact bin_gtr_t (by omega) | exact bin_gtr_f (by omega)) ?_ | refine so_skip rfl rfl rfl ?_
    first | refine so_pick_t rfl rfl rfl rfl ?_ | refine so_pick_f rfl rfl rfl rfl ?_
    refine so_move rfl rfl rfl ?_
    first | refine so_fieldO (o' := 1) rfl rfl rfl Tryz.underlying27 rfl inf3 rfl rfl ?_ | refine so_skip rfl rfl rfl ?_
    first | refine so_load rfl rfl rfl (by first | exact ld_own Tryz.underlying3 rfl (by repeat (first | exact List.Mem.head _ | apply List.Mem.tail)) (by first | exact cellsOf_get rfl | rfl) | exact ld_data Tryz.underlying3 rfl (by first | assumption | exact InA.add (by assumption) | exact InA.add (InA.add (by assumption))) (by assumption)) ?_ | refine so_skip rfl rfl rfl ?_
    first | refine so_bin rfl rfl rfl rfl (by first | exact bin_lss_t (by omega) | exact bin_lss_f (by omega)) ?_ | refine so_skip rfl rfl rfl ?_
    first | refine so_pick_t rfl rfl rfl rfl ?_ | refine so_pick_f rfl rfl rfl rfl ?_
    refine so_move rfl rfl rfl ?_
    first | refine so_fieldO (o' := 1) rfl rfl rfl Tryz.underlying27 rfl inf3 rfl rfl ?_ | refine so_skip rfl rfl rfl ?_
    first | refine so_load rfl rfl rfl (by first | exact ld_own Tryz.underlying3 rfl (by repeat (first | exact List.Mem.head _ | apply List.Mem.tail)) (by first | exact cellsOf_get rfl | rfl) | exact ld_data Tryz.underlying3 rfl (by first | assumption | exact InA.add (by assumption) | exact InA.add (InA.add (by assumption))) (by assumption)) ?_ | refine so_skip rfl rfl rfl ?_
    first | refine so_bin rfl rfl rfl rfl (by first | exact bin_gtr_t (by omega) | exact bin_gtr_f (by omega)) ?_ | refine so_skip rfl rfl rfl ?_
    first | refine so_pick_t rfl rfl rfl rfl ?_ | refine so_pick_f rfl rfl rfl rfl ?_
    refine so_then ?_
    refine sx_true rfl ?_
    refine sx_seq ?_
    refine sx_region (E := E) ?_
    refine so_assign rfl rfl rfl ?_
    refine so_then ?_
    refine sx_ret ?_
    refine sk_then_ret ?_
    refine sk_return1 (.tmp rfl .nil) ?_
    exact fun H hH => ⟨by rw [imgE_a (sizeOk_f (by omega))], hH.kept⟩
  · skip
    refine sx_region (E := E) ?_
    refine so_fieldO (o' := 0) rfl rfl rfl Tryz.underlying27 rfl inf3 rfl rfl ?_
    refine so_load rfl rfl rfl (by first | exact ld_own Tryz.underlying3 rfl (by repeat (first | exact List.Mem.head _ | apply List.Mem.tail)) (by first | exact cellsOf_get rfl | rfl) | exact ld_data Tryz.underlying3 rfl (by first | assumption | exact InA.add (by assumption) | exact InA.add (InA.add (by assumption))) (by assumption)) ?_
    refine so_bin rfl rfl rfl rfl (by first | exact bin_lss_t (by omega) | exact bin_lss_f (by omega)) ?_
    refine so_move rfl rfl rfl ?_
    first | refine so_fieldO (o' := 0) rfl rfl rfl Tryz.underlying27 rfl inf3 rfl rfl ?_ | refine so_skip rfl rfl rfl ?_
    first | refine so_load rfl rfl rfl (by first | exact ld_own Tryz.underlying3 rfl (by repeat (first | exact List.Mem.head _ | apply List.Mem.tail)) (by first | exact cellsOf_get rfl | rfl) | exact ld_data Tryz.underlying3 rfl (by first | assumption | exact InA.add (by assumption) | exact InA.add (InA.add (by assumption))) (by assumption)) ?_ | refine so_skip rfl rfl rfl ?_
    first | refine so_bin rfl rfl rfl rfl (by first | exact bin_gtr_t (by omega) | exact bin_gtr_f (by omega)) ?_ | refine so_skip rfl rfl rfl ?_
    first | refine so_pick_t rfl rfl rfl rfl ?_ | refine so_pick_f rfl rfl rfl rfl ?_
    refine so_move rfl rfl rfl ?_
    first | refine so_fieldO (o' := 1) rfl rfl rfl Tryz.underlying27 rfl inf3 rfl rfl ?_ | refine so_skip rfl rfl rfl ?_
    first | refine so_load rfl rfl rfl (by first | exact ld_own Tryz.underlying3 rfl (by repeat (first | exact List.Mem.head _ | apply List.Mem.tail)) (by first | exact cellsOf_get rfl | rfl) | exact ld_data Tryz.underlying3 rfl (by first | assumption | exact InA.add (by assumption) | exact InA.add (InA.add (by assumption))) (by assumption)) ?_ | refine so_skip rfl rfl rfl ?_
    first | refine so_bin rfl rfl rfl rfl (by first | exact bin_lss_t (by omega) | exact bin_lss_f (by omega)) ?_ | refine so_skip rfl rfl rfl ?_
    first | refine so_pick_t rfl rfl rfl rfl ?_ | refine so_pick_f rfl rfl rfl rfl ?_
    refine so_move rfl rfl rfl ?_
    first | refine so_fieldO (o' := 1) rfl rfl rfl Tryz.underlying27 rfl inf3 rfl rfl ?_ | refine so_skip rfl rfl rfl ?_
    first | refine so_load rfl rfl rfl (by first | exact ld_own Tryz.underlying3 rfl (by repeat (first | exact List.Mem.head _ | apply List.Mem.tail)) (by first | exact cellsOf_get rfl | rfl) | exact ld_data Tryz.underlying3 rfl (by first | assumption | exact InA.add (by assumption) | exact InA.add (InA.add (by assumption))) (by assumption)) ?_ | refine so_skip rfl rfl rfl ?_
    first | refine so_bin rfl rfl rfl rfl (by first | exact bin_gtr_t (by omega) | exact bin_gtr_f (by omega)) ?_ | refine so_skip rfl rfl rfl ?_
    first | refine so_pick_t rfl rfl rfl rfl ?_ | refine so_pick_f rfl rfl rfl rfl ?_
    refine so_then ?_
    refine sx_true rfl ?_
    refine sx_seq ?_
    refine sx_region (E := E) ?_
    refine so_assign rfl rfl rfl ?_
    refine so_then ?_
    refine sx_ret ?_
    refine sk_then_ret ?_
    refine sk_return1 (.tmp rfl .nil) ?_
    exact fun H hH => ⟨by rw [imgE_a (sizeOk_f (by omega))], hH.kept⟩
  · skip
    refine sx_region (E := E) ?_
    refine so_fieldO (o' := 0) rfl rfl rfl Tryz.underlying27 rfl inf3 rfl rfl ?_
    refine so_load rfl rfl rfl (by first | exact ld_own Tryz.underlying3 rfl (by repeat (first | exact List.Mem.head _ | apply List.Mem.tail)) (by first | exact cellsOf_get rfl | rfl) | exact ld_data Tryz.underlying3 rfl (by first | assumption | exact InA.add (by assumption) | exact InA.add (InA.add (by assumption))) (by assumption)) ?_
    refine so_bin rfl rfl rfl rfl (by first | exact bin_lss_t (by omega) | exact bin_lss_f (by omega)) ?_
    refine so_move rfl rfl rfl ?_
    first | refine so_fieldO (o' := 0) rfl rfl rfl Tryz.underlying27 rfl inf3 rfl rfl ?_ | refine so_skip rfl rfl rfl ?_
    first | refine so_load rfl rfl rfl (by first | exact ld_own Tryz.underlying3 rfl (by repeat (first | exact List.Mem.head _ | apply List.Mem.tail)) (by first | exact cellsOf_get rfl | rfl) | exact ld_data Tryz.underlying3 rfl (by first | assumption | exact InA.add (by assumption) | exact InA.add (InA.add (by assumption))) (by assumption)) ?_ | refine so_skip rfl rfl rfl ?_
    first | refine so_bin rfl rfl rfl rfl (by first | exact bin_gtr_t (by omega) | exact bin_gtr_f (by omega)) ?_ | refine so_skip rfl rfl rfl ?_
    first | refine so_pick_t rfl rfl rfl rfl ?_ | refine so_pick_f rfl rfl rfl rfl ?_
    refine so_move rfl rfl rfl ?_
    first | refine so_fieldO (o' := 1) rfl rfl rfl Tryz.underlying27 rfl inf3 rfl rfl ?_ | refine so_skip rfl rfl rfl ?_
    first | refine so_load rfl rfl rfl (by first | exact ld_own Tryz.underlying3 rfl (by repeat (first | exact List.Mem.head _ | apply List.Mem.tail)) (by first | exact cellsOf_get rfl | rfl) | exact ld_data Tryz.underlying3 rfl (by first | assumption | exact InA.add (by assumption) | exact InA.add (InA.add (by assumption))) (by assumption)) ?_ | refine so_skip rfl rfl rfl ?_
    first | refine so_bin rfl rfl rfl rfl (by first | exact bin_lss_t (by omega) | exact bin_lss_f (by omega)) ?_ | refine so_skip rfl rfl rfl ?_
    first | refine so_pick_t rfl rfl rfl rfl ?_ | refine so_pick_f rfl rfl rfl rfl ?_
    refine so_move rfl rfl rfl ?_
    first | refine so_fieldO (o' := 1) rfl rfl rfl Tryz.underlying27 rfl inf3 rfl rfl ?_ | refine so_skip rfl rfl rfl ?_
    first | refine so_load rfl rfl rfl (by first | exact ld_own Tryz.underlying3 rfl (by repeat (first | exact List.Mem.head _ | apply List.Mem.tail)) (by first | exact cellsOf_get rfl | rfl) | exact ld_data Tryz.underlying3 rfl (by first | assumption | exact InA.add (by assumption) | exact InA.add (InA.add (by assumption))) (by assumption)) ?_ | refine so_skip rfl rfl rfl ?_
    first | refine so_bin rfl rfl rfl rfl (by first | exact bin_gtr_t (by omega) | exact bin_gtr_f (by omega)) ?_ | refine so_skip rfl rfl rfl ?_
    first | refine so_pick_t rfl rfl rfl rfl ?_ | refine so_pick_f rfl rfl rfl rfl ?_
    refine so_then ?_
    refine sx_true rfl ?_
    refine sx_seq ?_
    refine sx_region (E := E) ?_
    refine so_assign rfl rfl rfl ?_
    refine so_then ?_
    refine sx_ret ?_
    refine sk_then_ret ?_
    refine sk_return1 (.tmp rfl .nil) ?_
    exact fun H hH => ⟨by rw [imgE_a (sizeOk_f (by omega))], hH.kept⟩
  · skip
    refine sx_region (E := E) ?_
    refine so_fieldO (o' := 0) rfl rfl rfl Tryz.underlying27 rfl inf3 rfl rfl ?_
    refine so_load rfl rfl rfl (by first | exact ld_own Tryz.underlying3 rfl (by repeat (first | exact List.Mem.head _ | apply List.Mem.tail)) (by first | exact cellsOf_get rfl | rfl) | exact ld_data Tryz.underlying3 rfl (by first | assumption | exact InA.add (by assumption) | exact InA.add (InA.add (by assumption))) (by assumption)) ?_
    refine so_bin rfl rfl rfl rfl (by first | exact bin_lss_t (by omega) | exact bin_lss_f (by omega)) ?_
    refine so_move rfl rfl rfl ?_
    first | refine so_fieldO (o' := 0) rfl rfl rfl Tryz.underlying27 rfl inf3 rfl rfl ?_ | refine so_skip rfl rfl rfl ?_
    first | refine so_load rfl rfl rfl (by first | exact ld_own Tryz.underlying3 rfl (by repeat (first | exact List.Mem.head _ | apply List.Mem.tail)) (by first | exact cellsOf_get rfl | rfl) | exact ld_data Tryz.underlying3 rfl (by first | assumption | exact InA.add (by assumption) | exact InA.add (InA.add (by assumption))) (by assumption)) ?_ | refine so_skip rfl rfl rfl ?_
    first | refine so_bin rfl rfl rfl rfl (by first | exact bin_gtr_t (by omega) | exact bin_gtr_f (by omega)) ?_ | refine so_skip rfl rfl rfl ?_
    first | refine so_pick_t rfl rfl rfl rfl ?_ | refine so_pick_f rfl rfl rfl rfl ?_
    refine so_move rfl rfl rfl ?_
    first | refine so_fieldO (o' := 1) rfl rfl rfl Tryz.underlying27 rfl inf3 rfl rfl ?_ | refine so_skip rfl rfl rfl ?_
    first | refine so_load rfl rfl rfl (by first | exact ld_own Tryz.underlying3 rfl (by repeat (first | exact List.Mem.head _ | apply List.Mem.tail)) (by first | exact cellsOf_get rfl | rfl) | exact ld_data Tryz.underlying3 rfl (by first | assumption | exact InA.add (by assumption) | exact InA.add (InA.add (by assumption))) (by assumption)) ?_ | refine so_skip rfl rfl rfl ?_
    first | refine so_bin rfl rfl rfl rfl (by first | exact bin_lss_t (by omega) | exact bin_lss_f (by omega)) ?_ | refine so_skip rfl rfl rfl ?_
    first | refine so_pick_t rfl rfl rfl rfl ?_ | refine so_pick_f rfl rfl rfl rfl ?_
    refine so_move rfl rfl rfl ?_
    first | refine so_fieldO (o' := 1) rfl rfl rfl Tryz.underlying27 rfl inf3 rfl rfl ?_ | refine so_skip rfl rfl rfl ?_
    first | refine so_load rfl rfl rfl (by first | exact ld_own Tryz.underlying3 rfl (by repeat (first | exact List.Mem.head _ | apply List.Mem.tail)) (by first | exact cellsOf_get rfl | rfl) | exact ld_data Tryz.underlying3 rfl (by first | assumption | exact InA.add (by assumption) | exact InA.add (InA.add (by assumption))) (by assumption)) ?_ | refine so_skip rfl rfl rfl ?_
    first | refine so_bin rfl rfl rfl rfl (by first | exact bin_gtr_t (by omega) | exact bin_gtr_f (by omega)) ?_ | refine so_skip rfl rfl rfl ?_
    first | refine so_pick_t rfl rfl rfl rfl ?_ | refine so_pick_f rfl rfl rfl rfl ?_
    refine so_then ?_
    refine sx_true rfl ?_
    refine sx_seq ?_
    refine sx_region (E := E) ?_
    refine so_assign rfl rfl rfl ?_
    refine so_then ?_
    refine sx_ret ?_
    refine sk_then_ret ?_
    refine sk_return1 (.tmp rfl .nil) ?_
    exact fun H hH => ⟨by rw [imgE_a (sizeOk_f (by omega))], hH.kept⟩
  · skip
    refine sx_region (E := E) ?_
    refine so_fieldO (o' := 0) rfl rfl rfl Tryz.underlying27 rfl inf3 rfl rfl ?_
    refine so_load rfl rfl rfl (by first | exact ld_own Tryz.underlying3 rfl (by repeat (first | exact List.Mem.head _ | apply List.Mem.tail)) (by first | exact cellsOf_get rfl | rfl) | exact ld_data Tryz.underlying3 rfl (by first | assumption | exact InA.add (by assumption) | exact InA.add (InA.add (by assumption))) (by assumption)) ?_
    refine so_bin rfl rfl rfl rfl (by first | exact bin_lss_t (by omega) | exact bin_lss_f (by omega)) ?_
    refine so_move rfl rfl rfl ?_
    first | refine so_fieldO (o' := 0) rfl rfl rfl Tryz.underlying27 rfl inf3 rfl rfl ?_ | refine so_skip rfl rfl rfl ?_
    first | refine so_load rfl rfl rfl (by first | exact ld_own Tryz.underlying3 rfl (by repeat (first | exact List.Mem.head _ | apply List.Mem.tail)) (by first | exact cellsOf_get rfl | rfl) | exact ld_data Tryz.underlying3 rfl (by first | assumption | exact InA.add (by assumption) | exact InA.add (InA.add (by assumption))) (by assumption)) ?_ | refine so_skip rfl rfl rfl ?_
    first | refine so_bin rfl rfl rfl rfl (by first | exact bin_gtr_t (by omega) | exact bin_gtr_f (by omega)) ?_ | refine so_skip rfl rfl rfl ?_
    first | refine so_pick_t rfl rfl rfl rfl ?_ | refine so_pick_f rfl rfl rfl rfl ?_
    refine so_move rfl rfl rfl ?_
    first | refine so_fieldO (o' := 1) rfl rfl rfl Tryz.underlying27 rfl inf3 rfl rfl ?_ | refine so_skip rfl rfl rfl ?_
    first | refine so_load rfl rfl rfl (by first | exact ld_own Tryz.underlying3 rfl (by repeat (first | exact List.Mem.head _ | apply List.Mem.tail)) (by first | exact cellsOf_get rfl | rfl) | exact ld_data Tryz.underlying3 rfl (by first | assumption | exact InA.add (by assumption) | exact InA.add (InA.add (by assumption))) (by assumption)) ?_ | refine so_skip rfl rfl rfl ?_
    first | refine so_bin rfl rfl rfl rfl (by first | exact bin_lss_t (by omega) | exact bin_lss_f (by omega)) ?_ | refine so_skip rfl rfl rfl ?_
    first | refine so_pick_t rfl rfl rfl rfl ?_ | refine so_pick_f rfl rfl rfl rfl ?_
    refine so_move rfl rfl rfl ?_
    first | refine so_fieldO (o' := 1) rfl rfl rfl Tryz.underlying27 rfl inf3 rfl rfl ?_ | refine so_skip rfl rfl rfl ?_
    first | refine so_load rfl rfl rfl (by first | exact ld_own Tryz.underlying3 rfl (by repeat (first | exact List.Mem.head _ | apply List.Mem.tail)) (by first | exact cellsOf_get rfl | rfl) | exact ld_data Tryz.underlying3 rfl (by first | assumption | exact InA.add (by assumption) | exact InA.add (InA.add (by assumption))) (by assumption)) ?_ | refine so_skip rfl rfl rfl ?_
    first | refine so_bin rfl rfl rfl rfl (by first | exact bin_gtr_t (by omega) | exact bin_gtr_f (by omega)) ?_ | refine so_skip rfl rfl rfl ?_
    first | refine so_pick_t rfl rfl rfl rfl ?_ | refine so_pick_f rfl rfl rfl rfl ?_
    refine so_then ?_
    refine sx_false rfl ?_
    refine sx_skip ?_
    refine sk_then ?_
    refine sx_seq ?_
    refine sx_seq ?_
    rcases rng4 w h with q2 | q2 | q2 | q2
    · skip
      refine sx_region (E := E) ?_
      refine so_fieldO (o' := 0) rfl rfl rfl Tryz.underlying27 rfl inf3 rfl rfl ?_
      refine so_load rfl rfl rfl (by first | exact ld_own Tryz.underlying3 rfl (by repeat (first | exact List.Mem.head _ | apply List.Mem.tail)) (by first | exact cellsOf_get rfl | rfl) | exact ld_data Tryz.underlying3 rfl (by first | assumption | exact InA.add (by assumption) | exact InA.add (InA.add (by assumption))) (by assumption)) ?_
      refine so_bin rfl rfl rfl rfl (by first | exact bin_eql_t (by first | rfl | assumption | omega) | exact bin_eql_f (by first | rfl | assumption | omega)) ?_
      refine so_fieldO (o' := 1) rfl rfl rfl Tryz.underlying27 rfl inf3 rfl rfl ?_
      refine so_load rfl rfl rfl (by first | exact ld_own Tryz.underlying3 rfl (by repeat (first | exact List.Mem.head _ | apply List.Mem.tail)) (by first | exact cellsOf_get rfl | rfl) | exact ld_data Tryz.underlying3 rfl (by first | assumption | exact InA.add (by assumption) | exact InA.add (InA.add (by assumption))) (by assumption)) ?_
      refine so_bin rfl rfl rfl rfl (by first | exact bin_eql_t (by first | rfl | assumption | omega) | exact bin_eql_f (by first | rfl | assumption | omega)) ?_
      refine so_bin rfl rfl rfl rfl (by first | exact bin_bneq Tryz.underlying4) ?_
      refine so_move rfl rfl rfl ?_
      first | refine so_fieldO (o' := 2) rfl rfl rfl Tryz.underlying27 rfl inf25 rfl rfl ?_ | refine so_skip rfl rfl rfl ?_
      first | refine so_load rfl rfl rfl (by first | exact ld_own Tryz.underlying25 rfl (by repeat (first | exact List.Mem.head _ | apply List.Mem.tail)) (by first | exact cellsOf_get rfl | rfl) | exact ld_data Tryz.underlying25 rfl (by first | assumption | exact InA.add (by assumption) | exact InA.add (InA.add (by assumption))) (by assumption)) ?_ | refine so_skip rfl rfl rfl ?_
      first | refine so_lenL rfl rfl rfl rfl rfl rfl Tryz.underlying25 ?_ | refine so_skip rfl rfl rfl ?_
      first | refine so_fieldO (o' := 0) rfl rfl rfl Tryz.underlying27 rfl inf3 rfl rfl ?_ | refine so_skip rfl rfl rfl ?_
      first | refine so_load rfl rfl rfl (by first | exact ld_own Tryz.underlying3 rfl (by repeat (first | exact List.Mem.head _ | apply List.Mem.tail)) (by first | exact cellsOf_get rfl | rfl) | exact ld_data Tryz.underlying3 rfl (by first | assumption | exact InA.add (by assumption) | exact InA.add (InA.add (by assumption))) (by assumption)) ?_ | refine so_skip rfl rfl rfl ?_
      first | refine so_fieldO (o' := 1) rfl rfl rfl Tryz.underlying27 rfl inf3 rfl rfl ?_ | refine so_skip rfl rfl rfl ?_
      first | refine so_load rfl rfl rfl (by first | exact ld_own Tryz.underlying3 rfl (by repeat (first | exact List.Mem.head _ | apply List.Mem.tail)) (by first | exact cellsOf_get rfl | rfl) | exact ld_data Tryz.underlying3 rfl (by first | assumption | exact InA.add (by assumption) | exact InA.add (InA.add (by assumption))) (by assumption)) ?_ | refine so_skip rfl rfl rfl ?_
      try (have hs : sizeOk w h = true := sizeOk_t (by omega))
      first | refine so_bin rfl rfl rfl rfl (by first | exact bin_mul (wrap64 (by have := size_le hs; omega) (by have := size_le hs; omega))) ?_ | refine so_skip rfl rfl rfl ?_
      rcases Decidable.em ((l.length : Int) = w * h) with hm | hm
      · skip
        first | refine so_bin rfl rfl rfl rfl (by first | exact bin_neq_f (by first | rfl | assumption | omega) | exact bin_neq_t (by first | rfl | assumption | omega)) ?_ | refine so_skip rfl rfl rfl ?_
        first | refine so_pick_t rfl rfl rfl rfl ?_ | refine so_pick_f rfl rfl rfl rfl ?_
        refine so_then ?_
        refine sx_false rfl ?_
        refine sx_skip ?_
        refine sk_then ?_
        refine sx_seq ?_
        refine sx_seq ?_
        refine sx_region (E := E) ?_
        refine so_assign rfl rfl rfl ?_
        refine so_then ?_
        refine sx_block ?_
        refine sx_loop (σ := Nat) (fun k => l.length - k) (fun k => [(1, .pointer (some ⟨2 * N1 + 1, 0, none⟩)), (3, .int .i64 ((k : Nat) : Int))]) (fun _ => S) (fun _ => A) (fun _ => [(N1, .cells [.int .i64 w, .int .i64 h, .slice ax l.length cx] (boxsz E 27) true)]) (fun k => k ≤ l.length ∧ (∀ j d, j < k → l[j]? = some d → pixC d = true)) (0) (⟨Nat.zero_le _, fun j d h => absurd h (Nat.not_lt_zero _)⟩) (by repeat (first | exact .nil | refine .cons rfl ?_)) rfl rfl (by repeat (first | exact List.nil_sublist _ | apply List.Sublist.cons_cons | apply List.Sublist.cons)) ?_
        intro s hJ t1
        obtain ⟨hJ, hg⟩ := hJ
        refine sx_seq ?_
        refine sx_seq ?_
        rcases Nat.lt_or_ge s l.length with hk | hk
        · skip
          obtain ⟨qx, us, d, eqx, ix, hc, lx, kx⟩ := rx.at' s hk
          cases eqx
          obtain ⟨r, g, b, a, rfl, rfl, _, _, _, _⟩ := pix4 kx
          refine sx_region (E := E) ?_
          refine so_move rfl rfl rfl ?_
          refine so_fieldO (o' := 2) rfl rfl rfl Tryz.underlying27 rfl inf25 rfl rfl ?_
          refine so_load rfl rfl rfl (by first | exact ld_own Tryz.underlying25 rfl (by repeat (first | exact List.Mem.head _ | apply List.Mem.tail)) (by first | exact cellsOf_get rfl | rfl) | exact ld_data Tryz.underlying25 rfl (by first | assumption | exact InA.add (by assumption) | exact InA.add (InA.add (by assumption))) (by assumption)) ?_
          refine so_lenL rfl rfl rfl rfl rfl rfl Tryz.underlying25 ?_
          refine so_bin rfl rfl rfl rfl (by first | exact bin_lss_t (by omega) | exact bin_lss_f (by omega)) ?_
          refine so_then ?_
          refine sx_true rfl ?_
          refine sx_skip ?_
          refine sk_then ?_
          refine sx_seq ?_
          refine sx_block ?_
          refine sx_seq ?_
          cases hp : pixOk r g b a
          · skip
            refine sx_region (E := E) ?_
            refine so_fieldO (o' := 2) rfl rfl rfl Tryz.underlying27 rfl inf25 rfl rfl ?_
            refine so_load rfl rfl rfl (by first | exact ld_own Tryz.underlying25 rfl (by repeat (first | exact List.Mem.head _ | apply List.Mem.tail)) (by first | exact cellsOf_get rfl | rfl) | exact ld_data Tryz.underlying25 rfl (by first | assumption | exact InA.add (by assumption) | exact InA.add (InA.add (by assumption))) (by assumption)) ?_
            refine so_move rfl rfl rfl ?_
            first | refine so_indexO rfl rfl rfl rfl Tryz.underlying25 inf35 rfl (by omega) rfl ?_ | refine so_index rfl rfl rfl rfl Tryz.underlying25 inf35 rfl (by omega) ?_
            refine so_load rfl rfl rfl (by first | exact ld_dataA Tryz.underlying35 rfl inf35 rfl (InA.add ix) lx | exact ld_ownA Tryz.underlying35 rfl inf35 rfl (by repeat (first | exact List.Mem.head _ | apply List.Mem.tail)) (by first | exact cellsOf_le rfl | exact Nat.le_of_ble_eq_true rfl | decide | omega) (by first | exact cellsOf_all | exact take_all rfl | exact cellsOf_part rfl | rfl) | exact ld_dataA Tryz.underlying35 rfl inf35 rfl (by first | assumption | exact InA.add (by assumption) | exact InA.add (InA.add (by assumption))) (by assumption)) ?_
            refine so_call rfl rfl (fun h => nomatch h) rfl has45 (by repeat (first | exact Opvs.nil | apply Opvs.cons rfl)) (fun H hH => (rvalid_ok r g b a).b hp) ?_
            refine so_not rfl rfl rfl rfl ?_
            refine so_then ?_
            refine sx_true rfl ?_
            refine sx_seq ?_
            refine sx_region (E := E) ?_
            refine so_assign rfl rfl rfl ?_
            refine so_then ?_
            refine sx_ret ?_
            refine sk_block_ret ?_
            refine sk_then_ret ?_
            refine sk_loop_ret ?_
            refine sk_block_ret ?_
            refine sk_then_ret ?_
            refine sk_return1 (.tmp rfl .nil) ?_
            exact fun H hH => ⟨by rw [imgE_2 hs hm hc hp], hH.kept⟩
          · skip
            refine sx_region (E := E) ?_
            refine so_fieldO (o' := 2) rfl rfl rfl Tryz.underlying27 rfl inf25 rfl rfl ?_
            refine so_load rfl rfl rfl (by first | exact ld_own Tryz.underlying25 rfl (by repeat (first | exact List.Mem.head _ | apply List.Mem.tail)) (by first | exact cellsOf_get rfl | rfl) | exact ld_data Tryz.underlying25 rfl (by first | assumption | exact InA.add (by assumption) | exact InA.add (InA.add (by assumption))) (by assumption)) ?_
            refine so_move rfl rfl rfl ?_
            first | refine so_indexO rfl rfl rfl rfl Tryz.underlying25 inf35 rfl (by omega) rfl ?_ | refine so_index rfl rfl rfl rfl Tryz.underlying25 inf35 rfl (by omega) ?_
            refine so_load rfl rfl rfl (by first | exact ld_dataA Tryz.underlying35 rfl inf35 rfl (InA.add ix) lx | exact ld_ownA Tryz.underlying35 rfl inf35 rfl (by repeat (first | exact List.Mem.head _ | apply List.Mem.tail)) (by first | exact cellsOf_le rfl | exact Nat.le_of_ble_eq_true rfl | decide | omega) (by first | exact cellsOf_all | exact take_all rfl | exact cellsOf_part rfl | rfl) | exact ld_dataA Tryz.underlying35 rfl inf35 rfl (by first | assumption | exact InA.add (by assumption) | exact InA.add (InA.add (by assumption))) (by assumption)) ?_
            refine so_call rfl rfl (fun h => nomatch h) rfl has45 (by repeat (first | exact Opvs.nil | apply Opvs.cons rfl)) (fun H hH => (rvalid_ok r g b a).b hp) ?_
            refine so_not rfl rfl rfl rfl ?_
            refine so_then ?_
            refine sx_false rfl ?_
            refine sx_skip ?_
            refine sk_block ?_
            refine sk_then ?_
            refine sx_region (E := E) ?_
            refine so_move rfl rfl rfl ?_
            refine so_bin rfl rfl rfl rfl (by first | exact bin_incr (by omega) | exact bin_add (wrap64 (by omega) (by omega)) | exact bin_add rfl) ?_
            refine so_assign rfl rfl rfl ?_
            refine so_nil ?_
            refine sk_round (s + 1) (show l.length - (s + 1) < l.length - s by omega) ⟨by omega, fun j d2 hj hd2 => ?_⟩ (by repeat (first | exact .nil | refine .cons rfl ?_)) rfl rfl (by repeat (first | exact List.nil_sublist _ | apply List.Sublist.cons_cons | apply List.Sublist.cons))
            by_cases e : j = s
            · subst e; rw [hc] at hd2; cases hd2; exact hp
            · exact hg j d2 (by omega) hd2
        · skip
          refine sx_region (E := E) ?_
          refine so_move rfl rfl rfl ?_
          refine so_fieldO (o' := 2) rfl rfl rfl Tryz.underlying27 rfl inf25 rfl rfl ?_
          refine so_load rfl rfl rfl (by first | exact ld_own Tryz.underlying25 rfl (by repeat (first | exact List.Mem.head _ | apply List.Mem.tail)) (by first | exact cellsOf_get rfl | rfl) | exact ld_data Tryz.underlying25 rfl (by first | assumption | exact InA.add (by assumption) | exact InA.add (InA.add (by assumption))) (by assumption)) ?_
          refine so_lenL rfl rfl rfl rfl rfl rfl Tryz.underlying25 ?_
          refine so_bin rfl rfl rfl rfl (by first | exact bin_lss_t (by omega) | exact bin_lss_f (by omega)) ?_
          refine so_then ?_
          refine sx_false rfl ?_
          refine sx_exit ?_
          refine sk_then_exit ?_
          refine sk_loop_exit ?_
          refine sk_block_exit ?_
          refine sk_then ?_
          refine sx_seq ?_
          refine sx_region (E := E) ?_
          refine so_assign rfl rfl rfl ?_
          refine so_then ?_
          refine sx_ret ?_
          refine sk_return1 (.tmp rfl .nil) ?_
          exact fun H hH => ⟨by rw [imgE_0 hs hm fun j d h1 h2 => hg j d (by omega) h2], hH.kept⟩
      · skip
        first | refine so_bin rfl rfl rfl rfl (by first | exact bin_neq_f (by first | rfl | assumption | omega) | exact bin_neq_t (by first | rfl | assumption | omega)) ?_ | refine so_skip rfl rfl rfl ?_
        first | refine so_pick_t rfl rfl rfl rfl ?_ | refine so_pick_f rfl rfl rfl rfl ?_
        refine so_then ?_
        refine sx_true rfl ?_
        refine sx_seq ?_
        refine sx_region (E := E) ?_
        refine so_assign rfl rfl rfl ?_
        refine so_then ?_
        refine sx_ret ?_
        refine sk_then_ret ?_
        refine sk_return1 (.tmp rfl .nil) ?_
        exact fun H hH => ⟨by rw [imgE_b hm], hH.kept⟩
    · skip
      refine sx_region (E := E) ?_
      refine so_fieldO (o' := 0) rfl rfl rfl Tryz.underlying27 rfl inf3 rfl rfl ?_
      refine so_load rfl rfl rfl (by first | exact ld_own Tryz.underlying3 rfl (by repeat (first | exact List.Mem.head _ | apply List.Mem.tail)) (by first | exact cellsOf_get rfl | rfl) | exact ld_data Tryz.underlying3 rfl (by first | assumption | exact InA.add (by assumption) | exact InA.add (InA.add (by assumption))) (by assumption)) ?_
      refine so_bin rfl rfl rfl rfl (by first | exact bin_eql_t (by first | rfl | assumption | omega) | exact bin_eql_f (by first | rfl | assumption | omega)) ?_
      refine so_fieldO (o' := 1) rfl rfl rfl Tryz.underlying27 rfl inf3 rfl rfl ?_
      refine so_load rfl rfl rfl (by first | exact ld_own Tryz.underlying3 rfl (by repeat (first | exact List.Mem.head _ | apply List.Mem.tail)) (by first | exact cellsOf_get rfl | rfl) | exact ld_data Tryz.underlying3 rfl (by first | assumption | exact InA.add (by assumption) | exact InA.add (InA.add (by assumption))) (by assumption)) ?_
      refine so_bin rfl rfl rfl rfl (by first | exact bin_eql_t (by first | rfl | assumption | omega) | exact bin_eql_f (by first | rfl | assumption | omega)) ?_
      refine so_bin rfl rfl rfl rfl (by first | exact bin_bneq Tryz.underlying4) ?_
      refine so_move rfl rfl rfl ?_
      first | refine so_fieldO (o' := 2) rfl rfl rfl Tryz.underlying27 rfl inf25 rfl rfl ?_ | refine so_skip rfl rfl rfl ?_
      first | refine so_load rfl rfl rfl (by first | exact ld_own Tryz.underlying25 rfl (by repeat (first | exact List.Mem.head _ | apply List.Mem.tail)) (by first | exact cellsOf_get rfl | rfl) | exact ld_data Tryz.underlying25 rfl (by first | assumption | exact InA.add (by assumption) | exact InA.add (InA.add (by assumption))) (by assumption)) ?_ | refine so_skip rfl rfl rfl ?_
      first | refine so_lenL rfl rfl rfl rfl rfl rfl Tryz.underlying25 ?_ | refine so_skip rfl rfl rfl ?_
      first | refine so_fieldO (o' := 0) rfl rfl rfl Tryz.underlying27 rfl inf3 rfl rfl ?_ | refine so_skip rfl rfl rfl ?_
      first | refine so_load rfl rfl rfl (by first | exact ld_own Tryz.underlying3 rfl (by repeat (first | exact List.Mem.head _ | apply List.Mem.tail)) (by first | exact cellsOf_get rfl | rfl) | exact ld_data Tryz.underlying3 rfl (by first | assumption | exact InA.add (by assumption) | exact InA.add (InA.add (by assumption))) (by assumption)) ?_ | refine so_skip rfl rfl rfl ?_
      first | refine so_fieldO (o' := 1) rfl rfl rfl Tryz.underlying27 rfl inf3 rfl rfl ?_ | refine so_skip rfl rfl rfl ?_
      first | refine so_load rfl rfl rfl (by first | exact ld_own Tryz.underlying3 rfl (by repeat (first | exact List.Mem.head _ | apply List.Mem.tail)) (by first | exact cellsOf_get rfl | rfl) | exact ld_data Tryz.underlying3 rfl (by first | assumption | exact InA.add (by assumption) | exact InA.add (InA.add (by assumption))) (by assumption)) ?_ | refine so_skip rfl rfl rfl ?_
      try (have hs : sizeOk w h = true := sizeOk_t (by omega))
      first | refine so_bin rfl rfl rfl rfl (by first | exact bin_mul (wrap64 (by have := size_le hs; omega) (by have := size_le hs; omega))) ?_ | refine so_skip rfl rfl rfl ?_
      first | refine so_bin rfl rfl rfl rfl (by first | exact bin_neq_f (by first | rfl | assumption | omega) | exact bin_neq_t (by first | rfl | assumption | omega)) ?_ | refine so_skip rfl rfl rfl ?_
      first | refine so_pick_t rfl rfl rfl rfl ?_ | refine so_pick_f rfl rfl rfl rfl ?_
      refine so_then ?_
      refine sx_true rfl ?_
      refine sx_seq ?_
      refine sx_region (E := E) ?_
      refine so_assign rfl rfl rfl ?_
      refine so_then ?_
      refine sx_ret ?_
      refine sk_then_ret ?_
      refine sk_return1 (.tmp rfl .nil) ?_
      exact fun H hH => ⟨by rw [imgE_a (sizeOk_f (by omega))], hH.kept⟩
    · skip
      refine sx_region (E := E) ?_
      refine so_fieldO (o' := 0) rfl rfl rfl Tryz.underlying27 rfl inf3 rfl rfl ?_
      refine so_load rfl rfl rfl (by first | exact ld_own Tryz.underlying3 rfl (by repeat (first | exact List.Mem.head _ | apply List.Mem.tail)) (by first | exact cellsOf_get rfl | rfl) | exact ld_data Tryz.underlying3 rfl (by first | assumption | exact InA.add (by assumption) | exact InA.add (InA.add (by assumption))) (by assumption)) ?_
      refine so_bin rfl rfl rfl rfl (by first | exact bin_eql_t (by first | rfl | assumption | omega) | exact bin_eql_f (by first | rfl | assumption | omega)) ?_
      refine so_fieldO (o' := 1) rfl rfl rfl Tryz.underlying27 rfl inf3 rfl rfl ?_
      refine so_load rfl rfl rfl (by first | exact ld_own Tryz.underlying3 rfl (by repeat (first | exact List.Mem.head _ | apply List.Mem.tail)) (by first | exact cellsOf_get rfl | rfl) | exact ld_data Tryz.underlying3 rfl (by first | assumption | exact InA.add (by assumption) | exact InA.add (InA.add (by assumption))) (by assumption)) ?_
      refine so_bin rfl rfl rfl rfl (by first | exact bin_eql_t (by first | rfl | assumption | omega) | exact bin_eql_f (by first | rfl | assumption | omega)) ?_
      refine so_bin rfl rfl rfl rfl (by first | exact bin_bneq Tryz.underlying4) ?_
      refine so_move rfl rfl rfl ?_
      first | refine so_fieldO (o' := 2) rfl rfl rfl Tryz.underlying27 rfl inf25 rfl rfl ?_ | refine so_skip rfl rfl rfl ?_
      first | refine so_load rfl rfl rfl (by first | exact ld_own Tryz.underlying25 rfl (by repeat (first | exact List.Mem.head _ | apply List.Mem.tail)) (by first | exact cellsOf_get rfl | rfl) | exact ld_data Tryz.underlying25 rfl (by first | assumption | exact InA.add (by assumption) | exact InA.add (InA.add (by assumption))) (by assumption)) ?_ | refine so_skip rfl rfl rfl ?_
      first | refine so_lenL rfl rfl rfl rfl rfl rfl Tryz.underlying25 ?_ | refine so_skip rfl rfl rfl ?_
      first | refine so_fieldO (o' := 0) rfl rfl rfl Tryz.underlying27 rfl inf3 rfl rfl ?_ | refine so_skip rfl rfl rfl ?_
      first | refine so_load rfl rfl rfl (by first | exact ld_own Tryz.underlying3 rfl (by repeat (first | exact List.Mem.head _ | apply List.Mem.tail)) (by first | exact cellsOf_get rfl | rfl) | exact ld_data Tryz.underlying3 rfl (by first | assumption | exact InA.add (by assumption) | exact InA.add (InA.add (by assumption))) (by assumption)) ?_ | refine so_skip rfl rfl rfl ?_
      first | refine so_fieldO (o' := 1) rfl rfl rfl Tryz.underlying27 rfl inf3 rfl rfl ?_ | refine so_skip rfl rfl rfl ?_
      first | refine so_load rfl rfl rfl (by first | exact ld_own Tryz.underlying3 rfl (by repeat (first | exact List.Mem.head _ | apply List.Mem.tail)) (by first | exact cellsOf_get rfl | rfl) | exact ld_data Tryz.underlying3 rfl (by first | assumption | exact InA.add (by assumption) | exact InA.add (InA.add (by assumption))) (by assumption)) ?_ | refine so_skip rfl rfl rfl ?_
      try (have hs : sizeOk w h = true := sizeOk_t (by omega))
      first | refine so_bin rfl rfl rfl rfl (by first | exact bin_mul (wrap64 (by have := size_le hs; omega) (by have := size_le hs; omega))) ?_ | refine so_skip rfl rfl rfl ?_
      first | refine so_bin rfl rfl rfl rfl (by first | exact bin_neq_f (by first | rfl | assumption | omega) | exact bin_neq_t (by first | rfl | assumption | omega)) ?_ | refine so_skip rfl rfl rfl ?_
      first | refine so_pick_t rfl rfl rfl rfl ?_ | refine so_pick_f rfl rfl rfl rfl ?_
      refine so_then ?_
      refine sx_true rfl ?_
      refine sx_seq ?_
      refine sx_region (E := E) ?_
      refine so_assign rfl rfl rfl ?_
      refine so_then ?_
      refine sx_ret ?_
      refine sk_then_ret ?_
      refine sk_return1 (.tmp rfl .nil) ?_
      exact fun H hH => ⟨by rw [imgE_a (sizeOk_f (by omega))], hH.kept⟩
    · skip
      refine sx_region (E := E) ?_
      refine so_fieldO (o' := 0) rfl rfl rfl Tryz.underlying27 rfl inf3 rfl rfl ?_
      refine so_load rfl rfl rfl (by first | exact ld_own Tryz.underlying3 rfl (by repeat (first | exact List.Mem.head _ | apply List.Mem.tail)) (by first | exact cellsOf_get rfl | rfl) | exact ld_data Tryz.underlying3 rfl (by first | assumption | exact InA.add (by assumption) | exact InA.add (InA.add (by assumption))) (by assumption)) ?_
      refine so_bin rfl rfl rfl rfl (by first | exact bin_eql_t (by first | rfl | assumption | omega) | exact bin_eql_f (by first | rfl | assumption | omega)) ?_
      refine so_fieldO (o' := 1) rfl rfl rfl Tryz.underlying27 rfl inf3 rfl rfl ?_
      refine so_load rfl rfl rfl (by first | exact ld_own Tryz.underlying3 rfl (by repeat (first | exact List.Mem.head _ | apply List.Mem.tail)) (by first | exact cellsOf_get rfl | rfl) | exact ld_data Tryz.underlying3 rfl (by first | assumption | exact InA.add (by assumption) | exact InA.add (InA.add (by assumption))) (by assumption)) ?_
      refine so_bin rfl rfl rfl rfl (by first | exact bin_eql_t (by first | rfl | assumption | omega) | exact bin_eql_f (by first | rfl | assumption | omega)) ?_
      refine so_bin rfl rfl rfl rfl (by first | exact bin_bneq Tryz.underlying4) ?_
      refine so_move rfl rfl rfl ?_
      first | refine so_fieldO (o' := 2) rfl rfl rfl Tryz.underlying27 rfl inf25 rfl rfl ?_ | refine so_skip rfl rfl rfl ?_
      first | refine so_load rfl rfl rfl (by first | exact ld_own Tryz.underlying25 rfl (by repeat (first | exact List.Mem.head _ | apply List.Mem.tail)) (by first | exact cellsOf_get rfl | rfl) | exact ld_data Tryz.underlying25 rfl (by first | assumption | exact InA.add (by assumption) | exact InA.add (InA.add (by assumption))) (by assumption)) ?_ | refine so_skip rfl rfl rfl ?_
      first | refine so_lenL rfl rfl rfl rfl rfl rfl Tryz.underlying25 ?_ | refine so_skip rfl rfl rfl ?_
      first | refine so_fieldO (o' := 0) rfl rfl rfl Tryz.underlying27 rfl inf3 rfl rfl ?_ | refine so_skip rfl rfl rfl ?_
      first | refine so_load rfl rfl rfl (by first | exact ld_own Tryz.underlying3 rfl (by repeat (first | exact List.Mem.head _ | apply List.Mem.tail)) (by first | exact cellsOf_get rfl | rfl) | exact ld_data Tryz.underlying3 rfl (by first | assumption | exact InA.add (by assumption) | exact InA.add (InA.add (by assumption))) (by assumption)) ?_ | refine so_skip rfl rfl rfl ?_
      first | refine so_fieldO (o' := 1) rfl rfl rfl Tryz.underlying27 rfl inf3 rfl rfl ?_ | refine so_skip rfl rfl rfl ?_
      first | refine so_load rfl rfl rfl (by first | exact ld_own Tryz.underlying3 rfl (by repeat (first | exact List.Mem.head _ | apply List.Mem.tail)) (by first | exact cellsOf_get rfl | rfl) | exact ld_data Tryz.underlying3 rfl (by first | assumption | exact InA.add (by assumption) | exact InA.add (InA.add (by assumption))) (by assumption)) ?_ | refine so_skip rfl rfl rfl ?_
      try (have hs : sizeOk w h = true := sizeOk_t (by omega))
      first | refine so_bin rfl rfl rfl rfl (by first | exact bin_mul (wrap64 (by have := size_le hs; omega) (by have := size_le hs; omega))) ?_ | refine so_skip rfl rfl rfl ?_
      rcases Decidable.em ((l.length : Int) = w * h) with hm | hm
      · skip
        first | refine so_bin rfl rfl rfl rfl (by first | exact bin_neq_f (by first | rfl | assumption | omega) | exact bin_neq_t (by first | rfl | assumption | omega)) ?_ | refine so_skip rfl rfl rfl ?_
        first | refine so_pick_t rfl rfl rfl rfl ?_ | refine so_pick_f rfl rfl rfl rfl ?_
        refine so_then ?_
        refine sx_false rfl ?_
        refine sx_skip ?_
        refine sk_then ?_
        refine sx_seq ?_
        refine sx_seq ?_
        refine sx_region (E := E) ?_
        refine so_assign rfl rfl rfl ?_
        refine so_then ?_
        refine sx_block ?_
        refine sx_loop (σ := Nat) (fun k => l.length - k) (fun k => [(1, .pointer (some ⟨2 * N1 + 1, 0, none⟩)), (3, .int .i64 ((k : Nat) : Int))]) (fun _ => S) (fun _ => A) (fun _ => [(N1, .cells [.int .i64 w, .int .i64 h, .slice ax l.length cx] (boxsz E 27) true)]) (fun k => k ≤ l.length ∧ (∀ j d, j < k → l[j]? = some d → pixC d = true)) (0) (⟨Nat.zero_le _, fun j d h => absurd h (Nat.not_lt_zero _)⟩) (by repeat (first | exact .nil | refine .cons rfl ?_)) rfl rfl (by repeat (first | exact List.nil_sublist _ | apply List.Sublist.cons_cons | apply List.Sublist.cons)) ?_
        intro s hJ t1
        obtain ⟨hJ, hg⟩ := hJ
        refine sx_seq ?_
        refine sx_seq ?_
        rcases Nat.lt_or_ge s l.length with hk | hk
        · skip
          obtain ⟨qx, us, d, eqx, ix, hc, lx, kx⟩ := rx.at' s hk
          cases eqx
          obtain ⟨r, g, b, a, rfl, rfl, _, _, _, _⟩ := pix4 kx
          refine sx_region (E := E) ?_
          refine so_move rfl rfl rfl ?_
          refine so_fieldO (o' := 2) rfl rfl rfl Tryz.underlying27 rfl inf25 rfl rfl ?_
          refine so_load rfl rfl rfl (by first | exact ld_own Tryz.underlying25 rfl (by repeat (first | exact List.Mem.head _ | apply List.Mem.tail)) (by first | exact cellsOf_get rfl | rfl) | exact ld_data Tryz.underlying25 rfl (by first | assumption | exact InA.add (by assumption) | exact InA.add (InA.add (by assumption))) (by assumption)) ?_
          refine so_lenL rfl rfl rfl rfl rfl rfl Tryz.underlying25 ?_
          refine so_bin rfl rfl rfl rfl (by first | exact bin_lss_t (by omega) | exact bin_lss_f (by omega)) ?_
          refine so_then ?_
          refine sx_true rfl ?_
          refine sx_skip ?_
          refine sk_then ?_
          refine sx_seq ?_
          refine sx_block ?_
          refine sx_seq ?_
          cases hp : pixOk r g b a
          · skip
            refine sx_region (E := E) ?_
            refine so_fieldO (o' := 2) rfl rfl rfl Tryz.underlying27 rfl inf25 rfl rfl ?_
            refine so_load rfl rfl rfl (by first | exact ld_own Tryz.underlying25 rfl (by repeat (first | exact List.Mem.head _ | apply List.Mem.tail)) (by first | exact cellsOf_get rfl | rfl) | exact ld_data Tryz.underlying25 rfl (by first | assumption | exact InA.add (by assumption) | exact InA.add (InA.add (by assumption))) (by assumption)) ?_
            refine so_move rfl rfl rfl ?_
            first | refine so_indexO rfl rfl rfl rfl Tryz.underlying25 inf35 rfl (by omega) rfl ?_ | refine so_index rfl rfl rfl rfl Tryz.underlying25 inf35 rfl (by omega) ?_
            refine so_load rfl rfl rfl (by first | exact ld_dataA Tryz.underlying35 rfl inf35 rfl (InA.add ix) lx | exact ld_ownA Tryz.underlying35 rfl inf35 rfl (by repeat (first | exact List.Mem.head _ | apply List.Mem.tail)) (by first | exact cellsOf_le rfl | exact Nat.le_of_ble_eq_true rfl | decide | omega) (by first | exact cellsOf_all | exact take_all rfl | exact cellsOf_part rfl | rfl) | exact ld_dataA Tryz.underlying35 rfl inf35 rfl (by first | assumption | exact InA.add (by assumption) | exact InA.add (InA.add (by assumption))) (by assumption)) ?_
            refine so_call rfl rfl (fun h => nomatch h) rfl has45 (by repeat (first | exact Opvs.nil | apply Opvs.cons rfl)) (fun H hH => (rvalid_ok r g b a).b hp) ?_
            refine so_not rfl rfl rfl rfl ?_
            refine so_then ?_
            refine sx_true rfl ?_
            refine sx_seq ?_
            refine sx_region (E := E) ?_
            refine so_assign rfl rfl rfl ?_
            refine so_then ?_
            refine sx_ret ?_
            refine sk_block_ret ?_
            refine sk_then_ret ?_
            refine sk_loop_ret ?_
            refine sk_block_ret ?_
            refine sk_then_ret ?_
            refine sk_return1 (.tmp rfl .nil) ?_
            exact fun H hH => ⟨by rw [imgE_2 hs hm hc hp], hH.kept⟩
          · skip
            refine sx_region (E := E) ?_
            refine so_fieldO (o' := 2) rfl rfl rfl Tryz.underlying27 rfl inf25 rfl rfl ?_
            refine so_load rfl rfl rfl (by first | exact ld_own Tryz.underlying25 rfl (by repeat (first | exact List.Mem.head _ | apply List.Mem.tail)) (by first | exact cellsOf_get rfl | rfl) | exact ld_data Tryz.underlying25 rfl (by first | assumption | exact InA.add (by assumption) | exact InA.add (InA.add (by assumption))) (by assumption)) ?_
            refine so_move rfl rfl rfl ?_
            first | refine so_indexO rfl rfl rfl rfl Tryz.underlying25 inf35 rfl (by omega) rfl ?_ | refine so_index rfl rfl rfl rfl Tryz.underlying25 inf35 rfl (by omega) ?_
            refine so_load rfl rfl rfl (by first | exact ld_dataA Tryz.underlying35 rfl inf35 rfl (InA.add ix) lx | exact ld_ownA Tryz.underlying35 rfl inf35 rfl (by repeat (first | exact List.Mem.head _ | apply List.Mem.tail)) (by first | exact cellsOf_le rfl | exact Nat.le_of_ble_eq_true rfl | decide | omega) (by first | exact cellsOf_all | exact take_all rfl | exact cellsOf_part rfl | rfl) | exact ld_dataA Tryz.underlying35 rfl inf35 rfl (by first | assumption | exact InA.add (by assumption) | exact InA.add (InA.add (by assumption))) (by assumption)) ?_
            refine so_call rfl rfl (fun h => nomatch h) rfl has45 (by repeat (first | exact Opvs.nil | apply Opvs.cons rfl)) (fun H hH => (rvalid_ok r g b a).b hp) ?_
            refine so_not rfl rfl rfl rfl ?_
            refine so_then ?_
            refine sx_false rfl ?_
            refine sx_skip ?_
            refine sk_block ?_
            refine sk_then ?_
            refine sx_region (E := E) ?_
            refine so_move rfl rfl rfl ?_
            refine so_bin rfl rfl rfl rfl (by first | exact bin_incr (by omega) | exact bin_add (wrap64 (by omega) (by omega)) | exact bin_add rfl) ?_
            refine so_assign rfl rfl rfl ?_
            refine so_nil ?_
            refine sk_round (s + 1) (show l.length - (s + 1) < l.length - s by omega) ⟨by omega, fun j d2 hj hd2 => ?_⟩ (by repeat (first | exact .nil | refine .cons rfl ?_)) rfl rfl (by repeat (first | exact List.nil_sublist _ | apply List.Sublist.cons_cons | apply List.Sublist.cons))
            by_cases e : j = s
            · subst e; rw [hc] at hd2; cases hd2; exact hp
            · exact hg j d2 (by omega) hd2
        · skip
          refine sx_region (E := E) ?_
          refine so_move rfl rfl rfl ?_
          refine so_fieldO (o' := 2) rfl rfl rfl Tryz.underlying27 rfl inf25 rfl rfl ?_
          refine so_load rfl rfl rfl (by first | exact ld_own Tryz.underlying25 rfl (by repeat (first | exact List.Mem.head _ | apply List.Mem.tail)) (by first | exact cellsOf_get rfl | rfl) | exact ld_data Tryz.underlying25 rfl (by first | assumption | exact InA.add (by assumption) | exact InA.add (InA.add (by assumption))) (by assumption)) ?_
          refine so_lenL rfl rfl rfl rfl rfl rfl Tryz.underlying25 ?_
          refine so_bin rfl rfl rfl rfl (by first | exact bin_lss_t (by omega) | exact bin_lss_f (by omega)) ?_
          refine so_then ?_
          refine sx_false rfl ?_
          refine sx_exit ?_
          refine sk_then_exit ?_
          refine sk_loop_exit ?_
          refine sk_block_exit ?_
          refine sk_then ?_
          refine sx_seq ?_
          refine sx_region (E := E) ?_
          refine so_assign rfl rfl rfl ?_
          refine so_then ?_
          refine sx_ret ?_
          refine sk_return1 (.tmp rfl .nil) ?_
          exact fun H hH => ⟨by rw [imgE_0 hs hm fun j d h1 h2 => hg j d (by omega) h2], hH.kept⟩
      · skip
        first | refine so_bin rfl rfl rfl rfl (by first | exact bin_neq_f (by first | rfl | assumption | omega) | exact bin_neq_t (by first | rfl | assumption | omega)) ?_ | refine so_skip rfl rfl rfl ?_
        first | refine so_pick_t rfl rfl rfl rfl ?_ | refine so_pick_f rfl rfl rfl rfl ?_
        refine so_then ?_
        refine sx_true rfl ?_
        refine sx_seq ?_
        refine sx_region (E := E) ?_
        refine so_assign rfl rfl rfl ?_
        refine so_then ?_
        refine sx_ret ?_
        refine sk_then_ret ?_
        refine sk_return1 (.tmp rfl .nil) ?_
        exact fun H hH => ⟨by rw [imgE_b hm], hH.kept⟩

end Go.Proofs.YtljakaaebljiiaaGreatDoor
