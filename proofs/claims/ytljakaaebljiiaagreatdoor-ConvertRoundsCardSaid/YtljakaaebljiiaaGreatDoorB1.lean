/-
  Walks, laid by program.
-/
import Derived.Test.YtljakaaebljiiaaGreatDoorB0
set_option linter.unusedVariables false
set_option linter.unusedSimpArgs false
set_option maxRecDepth 100000
namespace Go.Proofs.YtljakaaebljiiaaGreatDoor
open Go Go.AM

/-- a text begins with another one -/
def preB (s t : List UInt8) : Bool := decide (s.take t.length = t)
theorem pre3 (s t : List UInt8) : (t.length ≤ s.length ∧ s.take t.length = t) ∨ (t.length ≤ s.length ∧ s.take t.length ≠ t) ∨ s.length < t.length := by
  rcases Nat.lt_or_ge s.length t.length with h | h
  · exact .inr (.inr h)
  · by_cases e : s.take t.length = t
    · exact .inl ⟨h, e⟩
    · exact .inr (.inl ⟨h, e⟩)
theorem preB_t {s t : List UInt8} (h : s.take t.length = t) : preB s t = true := decide_eq_true h
theorem preB_f {s t : List UInt8} (h : s.take t.length ≠ t) : preB s t = false := decide_eq_false h
theorem preB_s {s t : List UInt8} (h : s.length < t.length) : preB s t = false := decide_eq_false fun e => by
  have := congrArg List.length e
  rw [List.length_take] at this
  omega
def txOf : List CT → List UInt8
  | [.v (.string u)] => u.data.toList
  | _ => []
def idxF (P : List UInt8 → Bool) (l : List (List CT)) : Int := match l.findIdx? (fun c => P (txOf c)) with
  | some i => (i : Int)
  | none => -1
def anyF (P : List UInt8 → Bool) (l : List (List CT)) : Bool := l.any fun c => P (txOf c)
theorem idxF_at {P : List UInt8 → Bool} {l : List (List CT)} {k : Nat} {c : List CT} (hc : l[k]? = some c) (hp : P (txOf c) = true) (hg : ∀ j d, j < k → l[j]? = some d → P (txOf d) = false) : idxF P l = (k : Int) := by
  have : l.findIdx? (fun c => P (txOf c)) = some k := by
    rw [List.findIdx?_eq_some_iff_getElem]
    obtain ⟨hk, rfl⟩ := List.getElem?_eq_some_iff.1 hc
    refine ⟨hk, hp, fun j hj => ?_⟩
    have := hg j _ hj (List.getElem?_eq_getElem (by omega))
    simp [this]
  rw [idxF, this]
theorem idxF_none {P : List UInt8 → Bool} {l : List (List CT)} (hg : ∀ j d, j < l.length → l[j]? = some d → P (txOf d) = false) : idxF P l = -1 := by
  have : l.findIdx? (fun c => P (txOf c)) = none := by
    rw [List.findIdx?_eq_none_iff]
    intro d hd
    obtain ⟨j, hj⟩ := List.getElem?_of_mem hd
    exact hg j d (lt_of_getElem? hj) hj
  rw [idxF, this]
theorem idx2 (P : List UInt8 → Bool) (l : List (List CT)) : (idxF P l = -1 ∧ anyF P l = false) ∨ (0 ≤ idxF P l ∧ anyF P l = true) := by
  unfold idxF anyF
  cases h : l.findIdx? (fun c => P (txOf c)) with
  | none =>
    refine .inl ⟨rfl, ?_⟩
    rw [List.findIdx?_eq_none_iff] at h
    rw [List.any_eq_false]
    intro x hx
    simp [h x hx]
  | some i =>
    refine .inr ⟨by simp, ?_⟩
    rw [List.findIdx?_eq_some_iff_getElem] at h
    obtain ⟨h1, h2, _⟩ := h
    exact List.any_eq_true.2 ⟨_, List.getElem_mem h1, h2⟩
theorem begins_ok {S : AH} (s t : ByteArray) : XCall Tryz.prog 19 [.string s, .string t] S fun v H' => v = .bool (preB s.data.toList t.data.toList) ∧ Kept S.nx S H' := by
  refine x_enter (E := E) (n := 18) (rs := [.tmp 4]) (l := [(1, _), (0, _)]) (fn_own Tryz.func19 rfl rfl rfl) (A0 := fun _ => False) (fun j h => h.elim) rfl ?_
  refine sx_seq ?_
  refine sx_region (E := E) ?_
  refine so_assign rfl rfl rfl ?_
  refine so_then ?_
  refine sx_seq ?_
  rcases pre3 s.data.toList t.data.toList with ⟨h1, h2⟩ | ⟨h1, h2⟩ | h1
  · skip
    refine sx_region (E := E) ?_
    refine so_move rfl rfl rfl ?_
    refine so_lenS rfl rfl rfl rfl rfl rfl Tryz.underlying9 ?_
    refine so_move rfl rfl rfl ?_
    refine so_lenS rfl rfl rfl rfl rfl rfl Tryz.underlying9 ?_
    refine so_bin rfl rfl rfl rfl (by first | exact bin_geq_t (by omega) | exact bin_geq_f (by omega)) ?_
    refine so_move rfl rfl rfl ?_
    first | refine so_move rfl rfl rfl ?_ | refine so_skip rfl rfl rfl ?_
    first | refine so_move rfl rfl rfl ?_ | refine so_skip rfl rfl rfl ?_
    first | refine so_lenS rfl rfl rfl rfl rfl rfl Tryz.underlying9 ?_ | refine so_skip rfl rfl rfl ?_
    refine so_cutS rfl rfl rfl Tryz.underlying9 .none (.some rfl) (abounds_h h1) ?_
    first | refine so_move rfl rfl rfl ?_ | refine so_skip rfl rfl rfl ?_
    first | refine so_bin rfl rfl rfl rfl (by first | exact bin_seql_t h2 | exact bin_seql_f h2 | exact bin_seql_t (by first | rfl | assumption | decide) | exact bin_seql_f (by first | rfl | assumption | decide)) ?_ | refine so_skip rfl rfl rfl ?_
    first | refine so_pick_t rfl rfl rfl rfl ?_ | refine so_pick_f rfl rfl rfl rfl ?_
    refine so_assign rfl rfl rfl ?_
    refine so_then ?_
    refine sx_ret ?_
    refine sk_return1 (.tmp rfl .nil) ?_
    exact fun H hH => ⟨by rw [preB_t h2], hH.kept⟩
  · skip
    refine sx_region (E := E) ?_
    refine so_move rfl rfl rfl ?_
    refine so_lenS rfl rfl rfl rfl rfl rfl Tryz.underlying9 ?_
    refine so_move rfl rfl rfl ?_
    refine so_lenS rfl rfl rfl rfl rfl rfl Tryz.underlying9 ?_
    refine so_bin rfl rfl rfl rfl (by first | exact bin_geq_t (by omega) | exact bin_geq_f (by omega)) ?_
    refine so_move rfl rfl rfl ?_
    first | refine so_move rfl rfl rfl ?_ | refine so_skip rfl rfl rfl ?_
    first | refine so_move rfl rfl rfl ?_ | refine so_skip rfl rfl rfl ?_
    first | refine so_lenS rfl rfl rfl rfl rfl rfl Tryz.underlying9 ?_ | refine so_skip rfl rfl rfl ?_
    refine so_cutS rfl rfl rfl Tryz.underlying9 .none (.some rfl) (abounds_h h1) ?_
    first | refine so_move rfl rfl rfl ?_ | refine so_skip rfl rfl rfl ?_
    first | refine so_bin rfl rfl rfl rfl (by first | exact bin_seql_t h2 | exact bin_seql_f h2 | exact bin_seql_t (by first | rfl | assumption | decide) | exact bin_seql_f (by first | rfl | assumption | decide)) ?_ | refine so_skip rfl rfl rfl ?_
    first | refine so_pick_t rfl rfl rfl rfl ?_ | refine so_pick_f rfl rfl rfl rfl ?_
    refine so_assign rfl rfl rfl ?_
    refine so_then ?_
    refine sx_ret ?_
    refine sk_return1 (.tmp rfl .nil) ?_
    exact fun H hH => ⟨by rw [preB_f h2], hH.kept⟩
  · skip
    refine sx_region (E := E) ?_
    refine so_move rfl rfl rfl ?_
    refine so_lenS rfl rfl rfl rfl rfl rfl Tryz.underlying9 ?_
    refine so_move rfl rfl rfl ?_
    refine so_lenS rfl rfl rfl rfl rfl rfl Tryz.underlying9 ?_
    refine so_bin rfl rfl rfl rfl (by first | exact bin_geq_t (by omega) | exact bin_geq_f (by omega)) ?_
    refine so_move rfl rfl rfl ?_
    first | refine so_move rfl rfl rfl ?_ | refine so_skip rfl rfl rfl ?_
    first | refine so_move rfl rfl rfl ?_ | refine so_skip rfl rfl rfl ?_
    first | refine so_lenS rfl rfl rfl rfl rfl rfl Tryz.underlying9 ?_ | refine so_skip rfl rfl rfl ?_
    refine so_skip rfl rfl rfl ?_
    first | refine so_move rfl rfl rfl ?_ | refine so_skip rfl rfl rfl ?_
    first | refine so_bin rfl rfl rfl rfl (by first | exact bin_seql_t h2 | exact bin_seql_f h2 | exact bin_seql_t (by first | rfl | assumption | decide) | exact bin_seql_f (by first | rfl | assumption | decide)) ?_ | refine so_skip rfl rfl rfl ?_
    first | refine so_pick_t rfl rfl rfl rfl ?_ | refine so_pick_f rfl rfl rfl rfl ?_
    refine so_assign rfl rfl rfl ?_
    refine so_then ?_
    refine sx_ret ?_
    refine sk_return1 (.tmp rfl .nil) ?_
    exact fun H hH => ⟨by rw [preB_s h1], hH.kept⟩

theorem pre39_ok {S : AH} (s t : ByteArray) : XCall Tryz.prog 39 [.string s, .string t] S fun v H' => v = .bool (preB s.data.toList t.data.toList) ∧ Kept S.nx S H' := by
  refine x_enter (E := E) (n := 18) (rs := [.tmp 4]) (l := [(1, _), (0, _)]) (fn_own Tryz.func39 rfl rfl rfl) (A0 := fun _ => False) (fun j h => h.elim) rfl ?_
  refine sx_seq ?_
  refine sx_region (E := E) ?_
  refine so_assign rfl rfl rfl ?_
  refine so_then ?_
  refine sx_seq ?_
  rcases pre3 s.data.toList t.data.toList with ⟨h1, h2⟩ | ⟨h1, h2⟩ | h1
  · skip
    refine sx_region (E := E) ?_
    refine so_move rfl rfl rfl ?_
    refine so_lenS rfl rfl rfl rfl rfl rfl Tryz.underlying9 ?_
    refine so_move rfl rfl rfl ?_
    refine so_lenS rfl rfl rfl rfl rfl rfl Tryz.underlying9 ?_
    refine so_bin rfl rfl rfl rfl (by first | exact bin_geq_t (by omega) | exact bin_geq_f (by omega)) ?_
    refine so_move rfl rfl rfl ?_
    first | refine so_move rfl rfl rfl ?_ | refine so_skip rfl rfl rfl ?_
    first | refine so_move rfl rfl rfl ?_ | refine so_skip rfl rfl rfl ?_
    first | refine so_lenS rfl rfl rfl rfl rfl rfl Tryz.underlying9 ?_ | refine so_skip rfl rfl rfl ?_
    refine so_cutS rfl rfl rfl Tryz.underlying9 .none (.some rfl) (abounds_h h1) ?_
    first | refine so_move rfl rfl rfl ?_ | refine so_skip rfl rfl rfl ?_
    first | refine so_bin rfl rfl rfl rfl (by first | exact bin_seql_t h2 | exact bin_seql_f h2 | exact bin_seql_t (by first | rfl | assumption | decide) | exact bin_seql_f (by first | rfl | assumption | decide)) ?_ | refine so_skip rfl rfl rfl ?_
    first | refine so_pick_t rfl rfl rfl rfl ?_ | refine so_pick_f rfl rfl rfl rfl ?_
    refine so_assign rfl rfl rfl ?_
    refine so_then ?_
    refine sx_ret ?_
    refine sk_return1 (.tmp rfl .nil) ?_
    exact fun H hH => ⟨by rw [preB_t h2], hH.kept⟩
  · skip
    refine sx_region (E := E) ?_
    refine so_move rfl rfl rfl ?_
    refine so_lenS rfl rfl rfl rfl rfl rfl Tryz.underlying9 ?_
    refine so_move rfl rfl rfl ?_
    refine so_lenS rfl rfl rfl rfl rfl rfl Tryz.underlying9 ?_
    refine so_bin rfl rfl rfl rfl (by first | exact bin_geq_t (by omega) | exact bin_geq_f (by omega)) ?_
    refine so_move rfl rfl rfl ?_
    first | refine so_move rfl rfl rfl ?_ | refine so_skip rfl rfl rfl ?_
    first | refine so_move rfl rfl rfl ?_ | refine so_skip rfl rfl rfl ?_
    first | refine so_lenS rfl rfl rfl rfl rfl rfl Tryz.underlying9 ?_ | refine so_skip rfl rfl rfl ?_
    refine so_cutS rfl rfl rfl Tryz.underlying9 .none (.some rfl) (abounds_h h1) ?_
    first | refine so_move rfl rfl rfl ?_ | refine so_skip rfl rfl rfl ?_
    first | refine so_bin rfl rfl rfl rfl (by first | exact bin_seql_t h2 | exact bin_seql_f h2 | exact bin_seql_t (by first | rfl | assumption | decide) | exact bin_seql_f (by first | rfl | assumption | decide)) ?_ | refine so_skip rfl rfl rfl ?_
    first | refine so_pick_t rfl rfl rfl rfl ?_ | refine so_pick_f rfl rfl rfl rfl ?_
    refine so_assign rfl rfl rfl ?_
    refine so_then ?_
    refine sx_ret ?_
    refine sk_return1 (.tmp rfl .nil) ?_
    exact fun H hH => ⟨by rw [preB_f h2], hH.kept⟩
  · skip
    refine sx_region (E := E) ?_
    refine so_move rfl rfl rfl ?_
    refine so_lenS rfl rfl rfl rfl rfl rfl Tryz.underlying9 ?_
    refine so_move rfl rfl rfl ?_
    refine so_lenS rfl rfl rfl rfl rfl rfl Tryz.underlying9 ?_
    refine so_bin rfl rfl rfl rfl (by first | exact bin_geq_t (by omega) | exact bin_geq_f (by omega)) ?_
    refine so_move rfl rfl rfl ?_
    first | refine so_move rfl rfl rfl ?_ | refine so_skip rfl rfl rfl ?_
    first | refine so_move rfl rfl rfl ?_ | refine so_skip rfl rfl rfl ?_
    first | refine so_lenS rfl rfl rfl rfl rfl rfl Tryz.underlying9 ?_ | refine so_skip rfl rfl rfl ?_
    refine so_skip rfl rfl rfl ?_
    first | refine so_move rfl rfl rfl ?_ | refine so_skip rfl rfl rfl ?_
    first | refine so_bin rfl rfl rfl rfl (by first | exact bin_seql_t h2 | exact bin_seql_f h2 | exact bin_seql_t (by first | rfl | assumption | decide) | exact bin_seql_f (by first | rfl | assumption | decide)) ?_ | refine so_skip rfl rfl rfl ?_
    first | refine so_pick_t rfl rfl rfl rfl ?_ | refine so_pick_f rfl rfl rfl rfl ?_
    refine so_assign rfl rfl rfl ?_
    refine so_then ?_
    refine sx_ret ?_
    refine sk_return1 (.tmp rfl .nil) ?_
    exact fun H hH => ⟨by rw [preB_s h1], hH.kept⟩

end Go.Proofs.YtljakaaebljiiaaGreatDoor
