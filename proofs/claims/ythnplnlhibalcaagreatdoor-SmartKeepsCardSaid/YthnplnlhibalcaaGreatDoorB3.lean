/-
  Walks, laid by program.
-/
import Derived.Test.YthnplnlhibalcaaGreatDoorB2
set_option linter.unusedVariables false
set_option linter.unusedSimpArgs false
set_option maxRecDepth 100000
namespace Go.Proofs.YthnplnlhibalcaaGreatDoor
open Go Go.AM

section
variable {P : Program} {E : Env P} {t : TypeId} {k : IntKind} {a b c : Int}
theorem bin_quo (hb : b ≠ 0) (h : k.wrap (a.tdiv b) = c) : abin E .quo t (.int k a) (.int k b) = some (.int k c) := by simp only [abin, abinInt]; rw [if_neg hb, h, if_pos trivial]
theorem bin_rem (hb : b ≠ 0) (h : a.tmod b = c) : abin E .rem t (.int k a) (.int k b) = some (.int k c) := by simp only [abin, abinInt]; rw [if_neg hb, h, if_pos trivial]
theorem bin_bneq {x y : Bool} (hu : E.und t = some .bool) : abin E .neq t (.bool x) (.bool y) = some (.bool (x != y)) := by cases x <;> cases y <;> simp [abin, hu, aeq, eqAs]
theorem bin_beql {x y : Bool} (hu : E.und t = some .bool) : abin E .eql t (.bool x) (.bool y) = some (.bool (x == y)) := by cases x <;> cases y <;> simp [abin, hu, aeq, eqAs]
end
theorem wf64 {n : Int} (h : (Lit.int .i64 n).wf = true) : -9223372036854775808 ≤ n ∧ n ≤ 9223372036854775807 := by
  simp only [Lit.wf, Bool.and_eq_true, decide_eq_true_eq] at h
  exact h
theorem floor3 (n : Int) : ∃ q r, n.tdiv 100 = q ∧ n.tmod 100 = r ∧ ((0 ≤ n ∧ q = n / 100 ∧ r = 0) ∨ (0 ≤ n ∧ q = n / 100 ∧ 0 < r) ∨ (n < 0 ∧ q = n / 100 ∧ r = 0) ∨ (n < 0 ∧ q - 1 = n / 100 ∧ r < 0)) := by
  refine ⟨_, _, rfl, rfl, ?_⟩
  by_cases h : n < 0
  · have e1 : n.tdiv 100 = -((-n) / 100) := by
      rw [show n = -(-n) by omega, Int.neg_tdiv, Int.tdiv_eq_ediv_of_nonneg (by omega)]; simp
    have e2 : n.tmod 100 = -((-n) % 100) := by
      rw [show n = -(-n) by omega, Int.neg_tmod, Int.tmod_eq_emod_of_nonneg (by omega)]; simp
    rw [e1, e2]
    by_cases h0 : (-n) % 100 = 0
    · exact .inr (.inr (.inl ⟨h, by omega, by omega⟩))
    · exact .inr (.inr (.inr ⟨h, by omega, by omega⟩))
  · have h : 0 ≤ n := by omega
    rw [Int.tdiv_eq_ediv_of_nonneg h, Int.tmod_eq_emod_of_nonneg h]
    by_cases h0 : n % 100 = 0
    · exact .inl ⟨h, rfl, h0⟩
    · exact .inr (.inl ⟨h, rfl, by omega⟩)
/-- of this name, and of the same hundred -/
def majP (q : Txt) (r : Int) (c : List CT) : Bool := decide (nmOf c = q) && decide (rvOf c / 100 = r / 100)
theorem majP_val (u p : ByteArray) (n : Int) (q : Txt) (r : Int) : majP q r [.v (.string u), .v (.int .i64 n), .v (.string p)] = (decide (u.data.toList = q) && decide (n / 100 = r / 100)) := rfl
theorem eq3 {α : Type} [DecidableEq α] (a b : α) (c : Prop) [Decidable c] : a ≠ b ∨ (a = b ∧ c) ∨ (a = b ∧ ¬ c) := by
  by_cases h : a = b
  · by_cases h' : c
    · exact .inr (.inl ⟨h, h'⟩)
    · exact .inr (.inr ⟨h, h'⟩)
  · exact .inl h
theorem rule3 (r : Int) : r = 1 ∨ r = 2 ∨ (r ≠ 1 ∧ r ≠ 2) := by omega
theorem lat4 (p : List CT → Bool) (o : Option (List CT)) (c : List CT) : (p c = false) ∨ (p c = true ∧ o = none) ∨ (p c = true ∧ ∃ d, o = some d ∧ rvOf d < rvOf c) ∨ (p c = true ∧ ∃ d, o = some d ∧ ¬ rvOf d < rvOf c) := by
  cases h : p c with
  | false => exact .inl rfl
  | true =>
    cases o with
    | none => exact .inr (.inl ⟨rfl, rfl⟩)
    | some d =>
      by_cases h' : rvOf d < rvOf c
      · exact .inr (.inr (.inl ⟨rfl, d, rfl, h'⟩))
      · exact .inr (.inr (.inr ⟨rfl, d, rfl, h'⟩))
theorem latS_no {p : List CT → Bool} {o : Option (List CT)} {c : List CT} (h : p c = false) : latS p o c = o := by cases o <;> simp [latS, h]
theorem latS_first {p : List CT → Bool} {c : List CT} (h : p c = true) : latS p none c = some c := by simp [latS, h]
theorem latS_more {p : List CT → Bool} {c d : List CT} (h : p c = true) (h' : rvOf d < rvOf c) : latS p (some d) c = some c := by simp [latS, h, h']
theorem latS_less {p : List CT → Bool} {c d : List CT} (h' : ¬ rvOf d < rvOf c) : latS p (some d) c = some d := by simp [latS, h']
theorem fileO_none : FileO none := fun d h => by cases h
theorem fileO_some {u p : ByteArray} {n : Int} (hu : u.size ≤ maxLen) (hn : (Lit.int .i64 n).wf = true) (hp : p.size ≤ maxLen) : FileO (some [.v (.string u), .v (.int .i64 n), .v (.string p)]) := fun d h => by cases h; exact ⟨u, n, p, rfl, hu, hn, hp⟩
section
variable {q : Txt} {r : Int} {l : List (List CT)} {d : List CT}
theorem want1_none (h : lat (nmP q) l = none) : want 1 q r l = (0, false) := by rw [want, want_latest, h]; rfl
theorem want1_le (h : lat (nmP q) l = some d) (h' : rvOf d ≤ r) : want 1 q r l = (0, false) := by rw [want, want_latest, h, wantS, if_pos h']
theorem want1_gt (h : lat (nmP q) l = some d) (h' : ¬ rvOf d ≤ r) : want 1 q r l = (rvOf d, true) := by rw [want, want_latest, h, wantS, if_neg h']
theorem want_major : lat (wantP 2 q r) l = lat (majP q r) l := lat_congr fun c _ => by simp [wantP, majP]
theorem want2_none (h : lat (majP q r) l = none) : want 2 q r l = (0, false) := by rw [want, want_major, h]; rfl
theorem want2_le (h : lat (majP q r) l = some d) (h' : rvOf d ≤ r) : want 2 q r l = (0, false) := by rw [want, want_major, h, wantS, if_pos h']
theorem want2_gt (h : lat (majP q r) l = some d) (h' : ¬ rvOf d ≤ r) : want 2 q r l = (rvOf d, true) := by rw [want, want_major, h, wantS, if_neg h']
end
theorem floor_ok {S : AH} {n : Int} (hn : (Lit.int .i64 n).wf = true) : XCall Tryz.prog 29 [.int .i64 n, .int .i64 100] S fun v H' => v = .int .i64 (n / 100) ∧ Kept S.nx S H' := by
  obtain ⟨hn1, hn2⟩ := wf64 hn
  obtain ⟨q, r, hq, hr, hd⟩ := floor3 n
  refine x_enter (E := E) (n := 31) (rs := [.tmp 4]) (l := [(1, _), (0, _)]) (fn_own Tryz.func29 rfl rfl rfl) (A0 := fun _ => False) (fun j h => h.elim) rfl ?_
  refine sx_seq ?_
  refine sx_region (E := E) ?_
  refine so_assign rfl rfl rfl ?_
  refine so_then ?_
  refine sx_seq ?_
  refine sx_seq ?_
  refine sx_region (E := E) ?_
  refine so_move rfl rfl rfl ?_
  refine so_bin rfl rfl rfl rfl (by first | exact bin_eql_t (by first | rfl | assumption | omega) | exact bin_eql_f (by first | rfl | assumption | omega)) ?_
  refine so_then ?_
  refine sx_false rfl ?_
  refine sx_skip ?_
  refine sk_then ?_
  refine sx_seq ?_
  refine sx_seq ?_
  by_cases hmin : n = -9223372036854775808
  · skip
    refine sx_region (E := E) ?_
    refine so_move rfl rfl rfl ?_
    refine so_bin rfl rfl rfl rfl (by first | exact bin_eql_t (by first | rfl | assumption | omega) | exact bin_eql_f (by first | rfl | assumption | omega)) ?_
    refine so_move rfl rfl rfl ?_
    first | refine so_move rfl rfl rfl ?_ | refine so_skip rfl rfl rfl ?_
    first | refine so_bin rfl rfl rfl rfl (by first | exact bin_eql_t (by first | rfl | assumption | omega) | exact bin_eql_f (by first | rfl | assumption | omega)) ?_ | refine so_skip rfl rfl rfl ?_
    first | refine so_pick_t rfl rfl rfl rfl ?_ | refine so_pick_f rfl rfl rfl rfl ?_
    refine so_then ?_
    refine sx_false rfl ?_
    refine sx_skip ?_
    refine sk_then ?_
    refine sx_seq ?_
    rcases hd with ⟨h0, e, er⟩ | ⟨h0, e, er⟩ | ⟨h0, e, er⟩ | ⟨h0, e, er⟩
    · skip
      refine sx_region (E := E) ?_
      refine so_move rfl rfl rfl ?_
      refine so_move rfl rfl rfl ?_
      refine so_bin rfl rfl rfl rfl (by first | exact bin_quo (c := q) (by decide) (by rw [hq]; exact wrap64 (by omega) (by omega))) ?_
      refine so_assign rfl rfl rfl ?_
      refine so_then ?_
      refine sx_seq ?_
      refine sx_seq ?_
      refine sx_region (E := E) ?_
      refine so_move rfl rfl rfl ?_
      refine so_move rfl rfl rfl ?_
      refine so_bin rfl rfl rfl rfl (by first | exact bin_rem (c := r) (by decide) hr) ?_
      refine so_bin rfl rfl rfl rfl (by first | exact bin_neq_f (by first | rfl | assumption | omega) | exact bin_neq_t (by first | rfl | assumption | omega)) ?_
      refine so_move rfl rfl rfl ?_
      first | refine so_move rfl rfl rfl ?_ | refine so_skip rfl rfl rfl ?_
      first | refine so_bin rfl rfl rfl rfl (by first | exact bin_lss_t (by omega) | exact bin_lss_f (by omega)) ?_ | refine so_skip rfl rfl rfl ?_
      first | refine so_move rfl rfl rfl ?_ | refine so_skip rfl rfl rfl ?_
      first | refine so_bin rfl rfl rfl rfl (by first | exact bin_lss_t (by omega) | exact bin_lss_f (by omega)) ?_ | refine so_skip rfl rfl rfl ?_
      first | refine so_bin rfl rfl rfl rfl (by first | exact bin_bneq Tryz.underlying4) ?_ | refine so_skip rfl rfl rfl ?_
      first | refine so_pick_t rfl rfl rfl rfl ?_ | refine so_pick_f rfl rfl rfl rfl ?_
      refine so_then ?_
      refine sx_false rfl ?_
      refine sx_skip ?_
      refine sk_then ?_
      refine sx_seq ?_
      refine sx_region (E := E) ?_
      refine so_move rfl rfl rfl ?_
      refine so_assign rfl rfl rfl ?_
      refine so_then ?_
      refine sx_ret ?_
      refine sk_return1 (.tmp rfl .nil) ?_
      exact fun H hH => ⟨by rw [e], hH.kept⟩
    · skip
      refine sx_region (E := E) ?_
      refine so_move rfl rfl rfl ?_
      refine so_move rfl rfl rfl ?_
      refine so_bin rfl rfl rfl rfl (by first | exact bin_quo (c := q) (by decide) (by rw [hq]; exact wrap64 (by omega) (by omega))) ?_
      refine so_assign rfl rfl rfl ?_
      refine so_then ?_
      refine sx_seq ?_
      refine sx_seq ?_
      refine sx_region (E := E) ?_
      refine so_move rfl rfl rfl ?_
      refine so_move rfl rfl rfl ?_
      refine so_bin rfl rfl rfl rfl (by first | exact bin_rem (c := r) (by decide) hr) ?_
      refine so_bin rfl rfl rfl rfl (by first | exact bin_neq_f (by first | rfl | assumption | omega) | exact bin_neq_t (by first | rfl | assumption | omega)) ?_
      refine so_move rfl rfl rfl ?_
      first | refine so_move rfl rfl rfl ?_ | refine so_skip rfl rfl rfl ?_
      first | refine so_bin rfl rfl rfl rfl (by first | exact bin_lss_t (by omega) | exact bin_lss_f (by omega)) ?_ | refine so_skip rfl rfl rfl ?_
      first | refine so_move rfl rfl rfl ?_ | refine so_skip rfl rfl rfl ?_
      first | refine so_bin rfl rfl rfl rfl (by first | exact bin_lss_t (by omega) | exact bin_lss_f (by omega)) ?_ | refine so_skip rfl rfl rfl ?_
      first | refine so_bin rfl rfl rfl rfl (by first | exact bin_bneq Tryz.underlying4) ?_ | refine so_skip rfl rfl rfl ?_
      first | refine so_pick_t rfl rfl rfl rfl ?_ | refine so_pick_f rfl rfl rfl rfl ?_
      refine so_then ?_
      refine sx_false rfl ?_
      refine sx_skip ?_
      refine sk_then ?_
      refine sx_seq ?_
      refine sx_region (E := E) ?_
      refine so_move rfl rfl rfl ?_
      refine so_assign rfl rfl rfl ?_
      refine so_then ?_
      refine sx_ret ?_
      refine sk_return1 (.tmp rfl .nil) ?_
      exact fun H hH => ⟨by rw [e], hH.kept⟩
    · skip
      refine sx_region (E := E) ?_
      refine so_move rfl rfl rfl ?_
      refine so_move rfl rfl rfl ?_
      refine so_bin rfl rfl rfl rfl (by first | exact bin_quo (c := q) (by decide) (by rw [hq]; exact wrap64 (by omega) (by omega))) ?_
      refine so_assign rfl rfl rfl ?_
      refine so_then ?_
      refine sx_seq ?_
      refine sx_seq ?_
      refine sx_region (E := E) ?_
      refine so_move rfl rfl rfl ?_
      refine so_move rfl rfl rfl ?_
      refine so_bin rfl rfl rfl rfl (by first | exact bin_rem (c := r) (by decide) hr) ?_
      refine so_bin rfl rfl rfl rfl (by first | exact bin_neq_f (by first | rfl | assumption | omega) | exact bin_neq_t (by first | rfl | assumption | omega)) ?_
      refine so_move rfl rfl rfl ?_
      first | refine so_move rfl rfl rfl ?_ | refine so_skip rfl rfl rfl ?_
      first | refine so_bin rfl rfl rfl rfl (by first | exact bin_lss_t (by omega) | exact bin_lss_f (by omega)) ?_ | refine so_skip rfl rfl rfl ?_
      first | refine so_move rfl rfl rfl ?_ | refine so_skip rfl rfl rfl ?_
      first | refine so_bin rfl rfl rfl rfl (by first | exact bin_lss_t (by omega) | exact bin_lss_f (by omega)) ?_ | refine so_skip rfl rfl rfl ?_
      first | refine so_bin rfl rfl rfl rfl (by first | exact bin_bneq Tryz.underlying4) ?_ | refine so_skip rfl rfl rfl ?_
      first | refine so_pick_t rfl rfl rfl rfl ?_ | refine so_pick_f rfl rfl rfl rfl ?_
      refine so_then ?_
      refine sx_false rfl ?_
      refine sx_skip ?_
      refine sk_then ?_
      refine sx_seq ?_
      refine sx_region (E := E) ?_
      refine so_move rfl rfl rfl ?_
      refine so_assign rfl rfl rfl ?_
      refine so_then ?_
      refine sx_ret ?_
      refine sk_return1 (.tmp rfl .nil) ?_
      exact fun H hH => ⟨by rw [e], hH.kept⟩
    · skip
      refine sx_region (E := E) ?_
      refine so_move rfl rfl rfl ?_
      refine so_move rfl rfl rfl ?_
      refine so_bin rfl rfl rfl rfl (by first | exact bin_quo (c := q) (by decide) (by rw [hq]; exact wrap64 (by omega) (by omega))) ?_
      refine so_assign rfl rfl rfl ?_
      refine so_then ?_
      refine sx_seq ?_
      refine sx_seq ?_
      refine sx_region (E := E) ?_
      refine so_move rfl rfl rfl ?_
      refine so_move rfl rfl rfl ?_
      refine so_bin rfl rfl rfl rfl (by first | exact bin_rem (c := r) (by decide) hr) ?_
      refine so_bin rfl rfl rfl rfl (by first | exact bin_neq_f (by first | rfl | assumption | omega) | exact bin_neq_t (by first | rfl | assumption | omega)) ?_
      refine so_move rfl rfl rfl ?_
      first | refine so_move rfl rfl rfl ?_ | refine so_skip rfl rfl rfl ?_
      first | refine so_bin rfl rfl rfl rfl (by first | exact bin_lss_t (by omega) | exact bin_lss_f (by omega)) ?_ | refine so_skip rfl rfl rfl ?_
      first | refine so_move rfl rfl rfl ?_ | refine so_skip rfl rfl rfl ?_
      first | refine so_bin rfl rfl rfl rfl (by first | exact bin_lss_t (by omega) | exact bin_lss_f (by omega)) ?_ | refine so_skip rfl rfl rfl ?_
      first | refine so_bin rfl rfl rfl rfl (by first | exact bin_bneq Tryz.underlying4) ?_ | refine so_skip rfl rfl rfl ?_
      first | refine so_pick_t rfl rfl rfl rfl ?_ | refine so_pick_f rfl rfl rfl rfl ?_
      refine so_then ?_
      refine sx_true rfl ?_
      refine sx_region (E := E) ?_
      refine so_move rfl rfl rfl ?_
      refine so_bin rfl rfl rfl rfl (by first | exact bin_decr (by omega) | exact bin_sub (wrap64 (by omega) (by omega)) | exact bin_sub rfl) ?_
      refine so_assign rfl rfl rfl ?_
      refine so_then ?_
      refine sx_seq ?_
      refine sx_region (E := E) ?_
      refine so_move rfl rfl rfl ?_
      refine so_assign rfl rfl rfl ?_
      refine so_then ?_
      refine sx_ret ?_
      refine sk_return1 (.tmp rfl .nil) ?_
      exact fun H hH => ⟨by rw [e], hH.kept⟩
  · skip
    refine sx_region (E := E) ?_
    refine so_move rfl rfl rfl ?_
    refine so_bin rfl rfl rfl rfl (by first | exact bin_eql_t (by first | rfl | assumption | omega) | exact bin_eql_f (by first | rfl | assumption | omega)) ?_
    refine so_move rfl rfl rfl ?_
    first | refine so_move rfl rfl rfl ?_ | refine so_skip rfl rfl rfl ?_
    first | refine so_bin rfl rfl rfl rfl (by first | exact bin_eql_t (by first | rfl | assumption | omega) | exact bin_eql_f (by first | rfl | assumption | omega)) ?_ | refine so_skip rfl rfl rfl ?_
    first | refine so_pick_t rfl rfl rfl rfl ?_ | refine so_pick_f rfl rfl rfl rfl ?_
    refine so_then ?_
    refine sx_false rfl ?_
    refine sx_skip ?_
    refine sk_then ?_
    refine sx_seq ?_
    rcases hd with ⟨h0, e, er⟩ | ⟨h0, e, er⟩ | ⟨h0, e, er⟩ | ⟨h0, e, er⟩
    · skip
      refine sx_region (E := E) ?_
      refine so_move rfl rfl rfl ?_
      refine so_move rfl rfl rfl ?_
      refine so_bin rfl rfl rfl rfl (by first | exact bin_quo (c := q) (by decide) (by rw [hq]; exact wrap64 (by omega) (by omega))) ?_
      refine so_assign rfl rfl rfl ?_
      refine so_then ?_
      refine sx_seq ?_
      refine sx_seq ?_
      refine sx_region (E := E) ?_
      refine so_move rfl rfl rfl ?_
      refine so_move rfl rfl rfl ?_
      refine so_bin rfl rfl rfl rfl (by first | exact bin_rem (c := r) (by decide) hr) ?_
      refine so_bin rfl rfl rfl rfl (by first | exact bin_neq_f (by first | rfl | assumption | omega) | exact bin_neq_t (by first | rfl | assumption | omega)) ?_
      refine so_move rfl rfl rfl ?_
      first | refine so_move rfl rfl rfl ?_ | refine so_skip rfl rfl rfl ?_
      first | refine so_bin rfl rfl rfl rfl (by first | exact bin_lss_t (by omega) | exact bin_lss_f (by omega)) ?_ | refine so_skip rfl rfl rfl ?_
      first | refine so_move rfl rfl rfl ?_ | refine so_skip rfl rfl rfl ?_
      first | refine so_bin rfl rfl rfl rfl (by first | exact bin_lss_t (by omega) | exact bin_lss_f (by omega)) ?_ | refine so_skip rfl rfl rfl ?_
      first | refine so_bin rfl rfl rfl rfl (by first | exact bin_bneq Tryz.underlying4) ?_ | refine so_skip rfl rfl rfl ?_
      first | refine so_pick_t rfl rfl rfl rfl ?_ | refine so_pick_f rfl rfl rfl rfl ?_
      refine so_then ?_
      refine sx_false rfl ?_
      refine sx_skip ?_
      refine sk_then ?_
      refine sx_seq ?_
      refine sx_region (E := E) ?_
      refine so_move rfl rfl rfl ?_
      refine so_assign rfl rfl rfl ?_
      refine so_then ?_
      refine sx_ret ?_
      refine sk_return1 (.tmp rfl .nil) ?_
      exact fun H hH => ⟨by rw [e], hH.kept⟩
    · skip
      refine sx_region (E := E) ?_
      refine so_move rfl rfl rfl ?_
      refine so_move rfl rfl rfl ?_
      refine so_bin rfl rfl rfl rfl (by first | exact bin_quo (c := q) (by decide) (by rw [hq]; exact wrap64 (by omega) (by omega))) ?_
      refine so_assign rfl rfl rfl ?_
      refine so_then ?_
      refine sx_seq ?_
      refine sx_seq ?_
      refine sx_region (E := E) ?_
      refine so_move rfl rfl rfl ?_
      refine so_move rfl rfl rfl ?_
      refine so_bin rfl rfl rfl rfl (by first | exact bin_rem (c := r) (by decide) hr) ?_
      refine so_bin rfl rfl rfl rfl (by first | exact bin_neq_f (by first | rfl | assumption | omega) | exact bin_neq_t (by first | rfl | assumption | omega)) ?_
      refine so_move rfl rfl rfl ?_
      first | refine so_move rfl rfl rfl ?_ | refine so_skip rfl rfl rfl ?_
      first | refine so_bin rfl rfl rfl rfl (by first | exact bin_lss_t (by omega) | exact bin_lss_f (by omega)) ?_ | refine so_skip rfl rfl rfl ?_
      first | refine so_move rfl rfl rfl ?_ | refine so_skip rfl rfl rfl ?_
      first | refine so_bin rfl rfl rfl rfl (by first | exact bin_lss_t (by omega) | exact bin_lss_f (by omega)) ?_ | refine so_skip rfl rfl rfl ?_
      first | refine so_bin rfl rfl rfl rfl (by first | exact bin_bneq Tryz.underlying4) ?_ | refine so_skip rfl rfl rfl ?_
      first | refine so_pick_t rfl rfl rfl rfl ?_ | refine so_pick_f rfl rfl rfl rfl ?_
      refine so_then ?_
      refine sx_false rfl ?_
      refine sx_skip ?_
      refine sk_then ?_
      refine sx_seq ?_
      refine sx_region (E := E) ?_
      refine so_move rfl rfl rfl ?_
      refine so_assign rfl rfl rfl ?_
      refine so_then ?_
      refine sx_ret ?_
      refine sk_return1 (.tmp rfl .nil) ?_
      exact fun H hH => ⟨by rw [e], hH.kept⟩
    · skip
      refine sx_region (E := E) ?_
      refine so_move rfl rfl rfl ?_
      refine so_move rfl rfl rfl ?_
      refine so_bin rfl rfl rfl rfl (by first | exact bin_quo (c := q) (by decide) (by rw [hq]; exact wrap64 (by omega) (by omega))) ?_
      refine so_assign rfl rfl rfl ?_
      refine so_then ?_
      refine sx_seq ?_
      refine sx_seq ?_
      refine sx_region (E := E) ?_
      refine so_move rfl rfl rfl ?_
      refine so_move rfl rfl rfl ?_
      refine so_bin rfl rfl rfl rfl (by first | exact bin_rem (c := r) (by decide) hr) ?_
      refine so_bin rfl rfl rfl rfl (by first | exact bin_neq_f (by first | rfl | assumption | omega) | exact bin_neq_t (by first | rfl | assumption | omega)) ?_
      refine so_move rfl rfl rfl ?_
      first | refine so_move rfl rfl rfl ?_ | refine so_skip rfl rfl rfl ?_
      first | refine so_bin rfl rfl rfl rfl (by first | exact bin_lss_t (by omega) | exact bin_lss_f (by omega)) ?_ | refine so_skip rfl rfl rfl ?_
      first | refine so_move rfl rfl rfl ?_ | refine so_skip rfl rfl rfl ?_
      first | refine so_bin rfl rfl rfl rfl (by first | exact bin_lss_t (by omega) | exact bin_lss_f (by omega)) ?_ | refine so_skip rfl rfl rfl ?_
      first | refine so_bin rfl rfl rfl rfl (by first | exact bin_bneq Tryz.underlying4) ?_ | refine so_skip rfl rfl rfl ?_
      first | refine so_pick_t rfl rfl rfl rfl ?_ | refine so_pick_f rfl rfl rfl rfl ?_
      refine so_then ?_
      refine sx_false rfl ?_
      refine sx_skip ?_
      refine sk_then ?_
      refine sx_seq ?_
      refine sx_region (E := E) ?_
      refine so_move rfl rfl rfl ?_
      refine so_assign rfl rfl rfl ?_
      refine so_then ?_
      refine sx_ret ?_
      refine sk_return1 (.tmp rfl .nil) ?_
      exact fun H hH => ⟨by rw [e], hH.kept⟩
    · skip
      refine sx_region (E := E) ?_
      refine so_move rfl rfl rfl ?_
      refine so_move rfl rfl rfl ?_
      refine so_bin rfl rfl rfl rfl (by first | exact bin_quo (c := q) (by decide) (by rw [hq]; exact wrap64 (by omega) (by omega))) ?_
      refine so_assign rfl rfl rfl ?_
      refine so_then ?_
      refine sx_seq ?_
      refine sx_seq ?_
      refine sx_region (E := E) ?_
      refine so_move rfl rfl rfl ?_
      refine so_move rfl rfl rfl ?_
      refine so_bin rfl rfl rfl rfl (by first | exact bin_rem (c := r) (by decide) hr) ?_
      refine so_bin rfl rfl rfl rfl (by first | exact bin_neq_f (by first | rfl | assumption | omega) | exact bin_neq_t (by first | rfl | assumption | omega)) ?_
      refine so_move rfl rfl rfl ?_
      first | refine so_move rfl rfl rfl ?_ | refine so_skip rfl rfl rfl ?_
      first | refine so_bin rfl rfl rfl rfl (by first | exact bin_lss_t (by omega) | exact bin_lss_f (by omega)) ?_ | refine so_skip rfl rfl rfl ?_
      first | refine so_move rfl rfl rfl ?_ | refine so_skip rfl rfl rfl ?_
      first | refine so_bin rfl rfl rfl rfl (by first | exact bin_lss_t (by omega) | exact bin_lss_f (by omega)) ?_ | refine so_skip rfl rfl rfl ?_
      first | refine so_bin rfl rfl rfl rfl (by first | exact bin_bneq Tryz.underlying4) ?_ | refine so_skip rfl rfl rfl ?_
      first | refine so_pick_t rfl rfl rfl rfl ?_ | refine so_pick_f rfl rfl rfl rfl ?_
      refine so_then ?_
      refine sx_true rfl ?_
      refine sx_region (E := E) ?_
      refine so_move rfl rfl rfl ?_
      refine so_bin rfl rfl rfl rfl (by first | exact bin_decr (by omega) | exact bin_sub (wrap64 (by omega) (by omega)) | exact bin_sub rfl) ?_
      refine so_assign rfl rfl rfl ?_
      refine so_then ?_
      refine sx_seq ?_
      refine sx_region (E := E) ?_
      refine so_move rfl rfl rfl ?_
      refine so_assign rfl rfl rfl ?_
      refine so_then ?_
      refine sx_ret ?_
      refine sk_return1 (.tmp rfl .nil) ?_
      exact fun H hH => ⟨by rw [e], hH.kept⟩

theorem hundred_ok {S : AH} {n : Int} (hn : (Lit.int .i64 n).wf = true) : XCall Tryz.prog 30 [.int .i64 n] S fun v H' => v = .int .i64 (n / 100) ∧ Kept S.nx S H' := by
  obtain ⟨hn1, hn2⟩ := wf64 hn
  obtain ⟨q, r, hq, hr, hd⟩ := floor3 n
  refine x_enter (E := E) (n := 12) (rs := [.tmp 2]) (l := [(0, _)]) (fn_own Tryz.func30 rfl rfl rfl) (A0 := fun _ => False) (fun j h => h.elim) rfl ?_
  refine sx_seq ?_
  refine sx_region (E := E) ?_
  refine so_assign rfl rfl rfl ?_
  refine so_then ?_
  refine sx_seq ?_
  rcases hd with ⟨h0, e, er⟩ | ⟨h0, e, er⟩ | ⟨h0, e, er⟩ | ⟨h0, e, er⟩
  · skip
    refine sx_region (E := E) ?_
    refine so_move rfl rfl rfl ?_
    refine so_bin rfl rfl rfl rfl (by first | exact bin_quo (c := q) (by decide) (by rw [hq]; exact wrap64 (by omega) (by omega))) ?_
    refine so_assign rfl rfl rfl ?_
    refine so_then ?_
    refine sx_seq ?_
    refine sx_seq ?_
    refine sx_region (E := E) ?_
    refine so_move rfl rfl rfl ?_
    refine so_bin rfl rfl rfl rfl (by first | exact bin_rem (c := r) (by decide) hr) ?_
    refine so_bin rfl rfl rfl rfl (by first | exact bin_lss_t (by omega) | exact bin_lss_f (by omega)) ?_
    refine so_then ?_
    refine sx_false rfl ?_
    refine sx_skip ?_
    refine sk_then ?_
    refine sx_seq ?_
    refine sx_region (E := E) ?_
    refine so_move rfl rfl rfl ?_
    refine so_assign rfl rfl rfl ?_
    refine so_then ?_
    refine sx_ret ?_
    refine sk_return1 (.tmp rfl .nil) ?_
    exact fun H hH => ⟨by rw [e], hH.kept⟩
  · skip
    refine sx_region (E := E) ?_
    refine so_move rfl rfl rfl ?_
    refine so_bin rfl rfl rfl rfl (by first | exact bin_quo (c := q) (by decide) (by rw [hq]; exact wrap64 (by omega) (by omega))) ?_
    refine so_assign rfl rfl rfl ?_
    refine so_then ?_
    refine sx_seq ?_
    refine sx_seq ?_
    refine sx_region (E := E) ?_
    refine so_move rfl rfl rfl ?_
    refine so_bin rfl rfl rfl rfl (by first | exact bin_rem (c := r) (by decide) hr) ?_
    refine so_bin rfl rfl rfl rfl (by first | exact bin_lss_t (by omega) | exact bin_lss_f (by omega)) ?_
    refine so_then ?_
    refine sx_false rfl ?_
    refine sx_skip ?_
    refine sk_then ?_
    refine sx_seq ?_
    refine sx_region (E := E) ?_
    refine so_move rfl rfl rfl ?_
    refine so_assign rfl rfl rfl ?_
    refine so_then ?_
    refine sx_ret ?_
    refine sk_return1 (.tmp rfl .nil) ?_
    exact fun H hH => ⟨by rw [e], hH.kept⟩
  · skip
    refine sx_region (E := E) ?_
    refine so_move rfl rfl rfl ?_
    refine so_bin rfl rfl rfl rfl (by first | exact bin_quo (c := q) (by decide) (by rw [hq]; exact wrap64 (by omega) (by omega))) ?_
    refine so_assign rfl rfl rfl ?_
    refine so_then ?_
    refine sx_seq ?_
    refine sx_seq ?_
    refine sx_region (E := E) ?_
    refine so_move rfl rfl rfl ?_
    refine so_bin rfl rfl rfl rfl (by first | exact bin_rem (c := r) (by decide) hr) ?_
    refine so_bin rfl rfl rfl rfl (by first | exact bin_lss_t (by omega) | exact bin_lss_f (by omega)) ?_
    refine so_then ?_
    refine sx_false rfl ?_
    refine sx_skip ?_
    refine sk_then ?_
    refine sx_seq ?_
    refine sx_region (E := E) ?_
    refine so_move rfl rfl rfl ?_
    refine so_assign rfl rfl rfl ?_
    refine so_then ?_
    refine sx_ret ?_
    refine sk_return1 (.tmp rfl .nil) ?_
    exact fun H hH => ⟨by rw [e], hH.kept⟩
  · skip
    refine sx_region (E := E) ?_
    refine so_move rfl rfl rfl ?_
    refine so_bin rfl rfl rfl rfl (by first | exact bin_quo (c := q) (by decide) (by rw [hq]; exact wrap64 (by omega) (by omega))) ?_
    refine so_assign rfl rfl rfl ?_
    refine so_then ?_
    refine sx_seq ?_
    refine sx_seq ?_
    refine sx_region (E := E) ?_
    refine so_move rfl rfl rfl ?_
    refine so_bin rfl rfl rfl rfl (by first | exact bin_rem (c := r) (by decide) hr) ?_
    refine so_bin rfl rfl rfl rfl (by first | exact bin_lss_t (by omega) | exact bin_lss_f (by omega)) ?_
    refine so_then ?_
    refine sx_true rfl ?_
    refine sx_region (E := E) ?_
    refine so_move rfl rfl rfl ?_
    refine so_bin rfl rfl rfl rfl (by first | exact bin_decr (by omega) | exact bin_sub (wrap64 (by omega) (by omega)) | exact bin_sub rfl) ?_
    refine so_assign rfl rfl rfl ?_
    refine so_then ?_
    refine sx_seq ?_
    refine sx_region (E := E) ?_
    refine so_move rfl rfl rfl ?_
    refine so_assign rfl rfl rfl ?_
    refine so_then ?_
    refine sx_ret ?_
    refine sk_return1 (.tmp rfl .nil) ?_
    exact fun H hH => ⟨by rw [e], hH.kept⟩

theorem named_ok {S : AH} {N sz : Nat} {cs : List Value} {ex : Bool} {q : ByteArray} (hlt : N < S.nx) (hN : S.tr.get N = some (.cells cs sz ex)) (h0 : cs[0]? = some (.string q)) (u p : ByteArray) (n : Int) : XCall Tryz.prog 27 [.agg ⟨[.string u, .int .i64 n, .string p]⟩, .pointer (some ⟨2 * N + 1, 0, none⟩)] S fun v H' => v = .bool (nmP q.data.toList [.v (.string u), .v (.int .i64 n), .v (.string p)]) ∧ Kept S.nx S H' := by
  refine x_enter (E := E) (n := 8) (rs := [.tmp 3]) (l := [(1, _), (0, _)]) (fn_own Tryz.func27 rfl rfl rfl) (A0 := fun j => j = N) (fun j h => by rw [h]; exact hlt) rfl ?_
  refine sx_seq ?_
  refine sx_region (E := E) ?_
  refine so_boxA rfl rfl (fun h => nomatch h) rfl ?_
  intro N2
  refine so_assign rfl rfl rfl ?_
  refine so_then ?_
  refine sx_seq ?_
  by_cases heq : u.data.toList = q.data.toList
  · skip
    refine sx_region (E := E) ?_
    refine so_fieldO (o' := 0) rfl rfl rfl Tryz.underlying24 rfl inf9 rfl rfl ?_
    refine so_load rfl rfl rfl (by first | exact ld_own Tryz.underlying9 rfl (by repeat (first | exact List.Mem.head _ | apply List.Mem.tail)) (by first | exact cellsOf_get rfl | rfl) | exact ld_data Tryz.underlying9 rfl (by first | assumption | exact InA.add (by assumption) | exact InA.add (InA.add (by assumption))) (by assumption)) ?_
    refine so_load rfl rfl rfl (by first | exact ld_data Tryz.underlying9 rfl (InA.own rfl) ((aload_own hN _ _).trans h0) | exact ld_own Tryz.underlying9 rfl (by repeat (first | exact List.Mem.head _ | apply List.Mem.tail)) (by first | exact cellsOf_get rfl | rfl) | exact ld_data Tryz.underlying9 rfl (by first | assumption | exact InA.add (by assumption) | exact InA.add (InA.add (by assumption))) (by assumption)) ?_
    refine so_bin rfl rfl rfl rfl (by first | exact bin_seql_t (by first | rfl | assumption | decide) | exact bin_seql_f (by first | rfl | assumption | decide)) ?_
    refine so_assign rfl rfl rfl ?_
    refine so_then ?_
    refine sx_ret ?_
    refine sk_return1 (.tmp rfl .nil) ?_
    exact fun H hH => ⟨congrArg Value.bool (decide_eq_true (p := u.data.toList = q.data.toList) heq).symm, hH.kept⟩
  · skip
    refine sx_region (E := E) ?_
    refine so_fieldO (o' := 0) rfl rfl rfl Tryz.underlying24 rfl inf9 rfl rfl ?_
    refine so_load rfl rfl rfl (by first | exact ld_own Tryz.underlying9 rfl (by repeat (first | exact List.Mem.head _ | apply List.Mem.tail)) (by first | exact cellsOf_get rfl | rfl) | exact ld_data Tryz.underlying9 rfl (by first | assumption | exact InA.add (by assumption) | exact InA.add (InA.add (by assumption))) (by assumption)) ?_
    refine so_load rfl rfl rfl (by first | exact ld_data Tryz.underlying9 rfl (InA.own rfl) ((aload_own hN _ _).trans h0) | exact ld_own Tryz.underlying9 rfl (by repeat (first | exact List.Mem.head _ | apply List.Mem.tail)) (by first | exact cellsOf_get rfl | rfl) | exact ld_data Tryz.underlying9 rfl (by first | assumption | exact InA.add (by assumption) | exact InA.add (InA.add (by assumption))) (by assumption)) ?_
    refine so_bin rfl rfl rfl rfl (by first | exact bin_seql_t (by first | rfl | assumption | decide) | exact bin_seql_f (by first | rfl | assumption | decide)) ?_
    refine so_assign rfl rfl rfl ?_
    refine so_then ?_
    refine sx_ret ?_
    refine sk_return1 (.tmp rfl .nil) ?_
    exact fun H hH => ⟨congrArg Value.bool (decide_eq_false (p := u.data.toList = q.data.toList) heq).symm, hH.kept⟩

theorem major_ok {S : AH} {N sz : Nat} {cs : List Value} {ex : Bool} {q : ByteArray} (hlt : N < S.nx) (hN : S.tr.get N = some (.cells cs sz ex)) {r : Int} (h1 : cs[1]? = some (.string q)) (h3 : cs[3]? = some (.int .i64 r)) (hr : (Lit.int .i64 r).wf = true) (u p : ByteArray) {n : Int} (hn : (Lit.int .i64 n).wf = true) : XCall Tryz.prog 28 [.agg ⟨[.string u, .int .i64 n, .string p]⟩, .pointer (some ⟨2 * N + 1, 0, none⟩)] S fun v H' => v = .bool (majP q.data.toList r [.v (.string u), .v (.int .i64 n), .v (.string p)]) ∧ Kept S.nx S H' := by
  refine x_enter (E := E) (n := 18) (rs := [.tmp 3]) (l := [(1, _), (0, _)]) (fn_own Tryz.func28 rfl rfl rfl) (A0 := fun j => j = N) (fun j h => by rw [h]; exact hlt) rfl ?_
  refine sx_seq ?_
  refine sx_region (E := E) ?_
  refine so_boxA rfl rfl (fun h => nomatch h) rfl ?_
  intro N2
  refine so_assign rfl rfl rfl ?_
  refine so_then ?_
  refine sx_seq ?_
  rcases eq3 u.data.toList q.data.toList (n / 100 = r / 100) with heq | ⟨heq, hh⟩ | ⟨heq, hh⟩
  · skip
    refine sx_draw (E := E) mixed [8, 11] _ (List.Sublist.refl _) (by kernel_rfl) (by kernel_rfl) (by decide) ?_
    refine so_fieldO (o' := 0) rfl rfl rfl Tryz.underlying24 rfl inf9 rfl rfl ?_
    refine so_load rfl rfl rfl (by first | exact ld_own Tryz.underlying9 rfl (by repeat (first | exact List.Mem.head _ | apply List.Mem.tail)) (by first | exact cellsOf_get rfl | rfl) | exact ld_data Tryz.underlying9 rfl (by first | assumption | exact InA.add (by assumption) | exact InA.add (InA.add (by assumption))) (by assumption)) ?_
    refine so_fieldO (o' := 1) rfl rfl rfl Tryz.underlying36 rfl inf9 rfl rfl ?_
    refine so_load rfl rfl rfl (by first | exact ld_data Tryz.underlying9 rfl (InA.own rfl) ((aload_own hN _ _).trans h1) | exact ld_own Tryz.underlying9 rfl (by repeat (first | exact List.Mem.head _ | apply List.Mem.tail)) (by first | exact cellsOf_get rfl | rfl) | exact ld_data Tryz.underlying9 rfl (by first | assumption | exact InA.add (by assumption) | exact InA.add (InA.add (by assumption))) (by assumption)) ?_
    refine so_bin rfl rfl rfl rfl (by first | exact bin_seql_t (by first | rfl | assumption | decide) | exact bin_seql_f (by first | rfl | assumption | decide)) ?_
    refine so_move rfl rfl rfl ?_
    first | refine so_fieldO (o' := 1) rfl rfl rfl Tryz.underlying24 rfl inf3 rfl rfl ?_ | refine so_skip rfl rfl rfl ?_
    first | refine so_load rfl rfl rfl (by first | exact ld_own Tryz.underlying3 rfl (by repeat (first | exact List.Mem.head _ | apply List.Mem.tail)) (by first | exact cellsOf_get rfl | rfl) | exact ld_data Tryz.underlying3 rfl (by first | assumption | exact InA.add (by assumption) | exact InA.add (InA.add (by assumption))) (by assumption)) ?_ | refine so_skip rfl rfl rfl ?_
    first | refine so_call rfl rfl (fun _ => (by repeat (first | exact List.Mem.head _ | apply List.Mem.tail))) rfl has29 (by repeat (first | exact Opvs.nil | apply Opvs.cons rfl)) (fun H hH => floor_ok hn) ?_ | refine so_skip rfl rfl rfl ?_
    first | refine so_fieldO (o' := 3) rfl rfl rfl Tryz.underlying36 rfl inf3 rfl rfl ?_ | refine so_skip rfl rfl rfl ?_
    first | refine so_load rfl rfl rfl (by first | exact ld_data Tryz.underlying3 rfl (InA.own rfl) ((aload_own hN _ _).trans h3) | exact ld_own Tryz.underlying3 rfl (by repeat (first | exact List.Mem.head _ | apply List.Mem.tail)) (by first | exact cellsOf_get rfl | rfl) | exact ld_data Tryz.underlying3 rfl (by first | assumption | exact InA.add (by assumption) | exact InA.add (InA.add (by assumption))) (by assumption)) ?_ | refine so_skip rfl rfl rfl ?_
    first | refine so_call rfl rfl (fun _ => (by repeat (first | exact List.Mem.head _ | apply List.Mem.tail))) rfl has29 (by repeat (first | exact Opvs.nil | apply Opvs.cons rfl)) (fun H hH => floor_ok hr) ?_ | refine so_skip rfl rfl rfl ?_
    first | refine so_bin rfl rfl rfl rfl (by first | exact bin_eql_t (by first | rfl | assumption | omega) | exact bin_eql_f (by first | rfl | assumption | omega)) ?_ | refine so_skip rfl rfl rfl ?_
    first | refine so_pick_t rfl rfl rfl rfl ?_ | refine so_pick_f rfl rfl rfl rfl ?_
    refine so_assign rfl rfl rfl ?_
    refine so_then ?_
    refine sx_ret ?_
    refine sk_return1 (.tmp rfl .nil) ?_
    exact fun H hH => ⟨by rw [majP_val, decide_eq_false heq]; rfl, hH.kept⟩
  · skip
    refine sx_draw (E := E) mixed [8, 11] _ (List.Sublist.refl _) (by kernel_rfl) (by kernel_rfl) (by decide) ?_
    refine so_fieldO (o' := 0) rfl rfl rfl Tryz.underlying24 rfl inf9 rfl rfl ?_
    refine so_load rfl rfl rfl (by first | exact ld_own Tryz.underlying9 rfl (by repeat (first | exact List.Mem.head _ | apply List.Mem.tail)) (by first | exact cellsOf_get rfl | rfl) | exact ld_data Tryz.underlying9 rfl (by first | assumption | exact InA.add (by assumption) | exact InA.add (InA.add (by assumption))) (by assumption)) ?_
    refine so_fieldO (o' := 1) rfl rfl rfl Tryz.underlying36 rfl inf9 rfl rfl ?_
    refine so_load rfl rfl rfl (by first | exact ld_data Tryz.underlying9 rfl (InA.own rfl) ((aload_own hN _ _).trans h1) | exact ld_own Tryz.underlying9 rfl (by repeat (first | exact List.Mem.head _ | apply List.Mem.tail)) (by first | exact cellsOf_get rfl | rfl) | exact ld_data Tryz.underlying9 rfl (by first | assumption | exact InA.add (by assumption) | exact InA.add (InA.add (by assumption))) (by assumption)) ?_
    refine so_bin rfl rfl rfl rfl (by first | exact bin_seql_t (by first | rfl | assumption | decide) | exact bin_seql_f (by first | rfl | assumption | decide)) ?_
    refine so_move rfl rfl rfl ?_
    first | refine so_fieldO (o' := 1) rfl rfl rfl Tryz.underlying24 rfl inf3 rfl rfl ?_ | refine so_skip rfl rfl rfl ?_
    first | refine so_load rfl rfl rfl (by first | exact ld_own Tryz.underlying3 rfl (by repeat (first | exact List.Mem.head _ | apply List.Mem.tail)) (by first | exact cellsOf_get rfl | rfl) | exact ld_data Tryz.underlying3 rfl (by first | assumption | exact InA.add (by assumption) | exact InA.add (InA.add (by assumption))) (by assumption)) ?_ | refine so_skip rfl rfl rfl ?_
    first | refine so_call rfl rfl (fun _ => (by repeat (first | exact List.Mem.head _ | apply List.Mem.tail))) rfl has29 (by repeat (first | exact Opvs.nil | apply Opvs.cons rfl)) (fun H hH => floor_ok hn) ?_ | refine so_skip rfl rfl rfl ?_
    first | refine so_fieldO (o' := 3) rfl rfl rfl Tryz.underlying36 rfl inf3 rfl rfl ?_ | refine so_skip rfl rfl rfl ?_
    first | refine so_load rfl rfl rfl (by first | exact ld_data Tryz.underlying3 rfl (InA.own rfl) ((aload_own hN _ _).trans h3) | exact ld_own Tryz.underlying3 rfl (by repeat (first | exact List.Mem.head _ | apply List.Mem.tail)) (by first | exact cellsOf_get rfl | rfl) | exact ld_data Tryz.underlying3 rfl (by first | assumption | exact InA.add (by assumption) | exact InA.add (InA.add (by assumption))) (by assumption)) ?_ | refine so_skip rfl rfl rfl ?_
    first | refine so_call rfl rfl (fun _ => (by repeat (first | exact List.Mem.head _ | apply List.Mem.tail))) rfl has29 (by repeat (first | exact Opvs.nil | apply Opvs.cons rfl)) (fun H hH => floor_ok hr) ?_ | refine so_skip rfl rfl rfl ?_
    first | refine so_bin rfl rfl rfl rfl (by first | exact bin_eql_t (by first | rfl | assumption | omega) | exact bin_eql_f (by first | rfl | assumption | omega)) ?_ | refine so_skip rfl rfl rfl ?_
    first | refine so_pick_t rfl rfl rfl rfl ?_ | refine so_pick_f rfl rfl rfl rfl ?_
    refine so_assign rfl rfl rfl ?_
    refine so_then ?_
    refine sx_ret ?_
    refine sk_return1 (.tmp rfl .nil) ?_
    exact fun H hH => ⟨by rw [majP_val, decide_eq_true heq, decide_eq_true hh]; rfl, hH.kept⟩
  · skip
    refine sx_draw (E := E) mixed [8, 11] _ (List.Sublist.refl _) (by kernel_rfl) (by kernel_rfl) (by decide) ?_
    refine so_fieldO (o' := 0) rfl rfl rfl Tryz.underlying24 rfl inf9 rfl rfl ?_
    refine so_load rfl rfl rfl (by first | exact ld_own Tryz.underlying9 rfl (by repeat (first | exact List.Mem.head _ | apply List.Mem.tail)) (by first | exact cellsOf_get rfl | rfl) | exact ld_data Tryz.underlying9 rfl (by first | assumption | exact InA.add (by assumption) | exact InA.add (InA.add (by assumption))) (by assumption)) ?_
    refine so_fieldO (o' := 1) rfl rfl rfl Tryz.underlying36 rfl inf9 rfl rfl ?_
    refine so_load rfl rfl rfl (by first | exact ld_data Tryz.underlying9 rfl (InA.own rfl) ((aload_own hN _ _).trans h1) | exact ld_own Tryz.underlying9 rfl (by repeat (first | exact List.Mem.head _ | apply List.Mem.tail)) (by first | exact cellsOf_get rfl | rfl) | exact ld_data Tryz.underlying9 rfl (by first | assumption | exact InA.add (by assumption) | exact InA.add (InA.add (by assumption))) (by assumption)) ?_
    refine so_bin rfl rfl rfl rfl (by first | exact bin_seql_t (by first | rfl | assumption | decide) | exact bin_seql_f (by first | rfl | assumption | decide)) ?_
    refine so_move rfl rfl rfl ?_
    first | refine so_fieldO (o' := 1) rfl rfl rfl Tryz.underlying24 rfl inf3 rfl rfl ?_ | refine so_skip rfl rfl rfl ?_
    first | refine so_load rfl rfl rfl (by first | exact ld_own Tryz.underlying3 rfl (by repeat (first | exact List.Mem.head _ | apply List.Mem.tail)) (by first | exact cellsOf_get rfl | rfl) | exact ld_data Tryz.underlying3 rfl (by first | assumption | exact InA.add (by assumption) | exact InA.add (InA.add (by assumption))) (by assumption)) ?_ | refine so_skip rfl rfl rfl ?_
    first | refine so_call rfl rfl (fun _ => (by repeat (first | exact List.Mem.head _ | apply List.Mem.tail))) rfl has29 (by repeat (first | exact Opvs.nil | apply Opvs.cons rfl)) (fun H hH => floor_ok hn) ?_ | refine so_skip rfl rfl rfl ?_
    first | refine so_fieldO (o' := 3) rfl rfl rfl Tryz.underlying36 rfl inf3 rfl rfl ?_ | refine so_skip rfl rfl rfl ?_
    first | refine so_load rfl rfl rfl (by first | exact ld_data Tryz.underlying3 rfl (InA.own rfl) ((aload_own hN _ _).trans h3) | exact ld_own Tryz.underlying3 rfl (by repeat (first | exact List.Mem.head _ | apply List.Mem.tail)) (by first | exact cellsOf_get rfl | rfl) | exact ld_data Tryz.underlying3 rfl (by first | assumption | exact InA.add (by assumption) | exact InA.add (InA.add (by assumption))) (by assumption)) ?_ | refine so_skip rfl rfl rfl ?_
    first | refine so_call rfl rfl (fun _ => (by repeat (first | exact List.Mem.head _ | apply List.Mem.tail))) rfl has29 (by repeat (first | exact Opvs.nil | apply Opvs.cons rfl)) (fun H hH => floor_ok hr) ?_ | refine so_skip rfl rfl rfl ?_
    first | refine so_bin rfl rfl rfl rfl (by first | exact bin_eql_t (by first | rfl | assumption | omega) | exact bin_eql_f (by first | rfl | assumption | omega)) ?_ | refine so_skip rfl rfl rfl ?_
    first | refine so_pick_t rfl rfl rfl rfl ?_ | refine so_pick_f rfl rfl rfl rfl ?_
    refine so_assign rfl rfl rfl ?_
    refine so_then ?_
    refine sx_ret ?_
    refine sk_return1 (.tmp rfl .nil) ?_
    exact fun H hH => ⟨by rw [majP_val, decide_eq_true heq, decide_eq_false hh]; rfl, hH.kept⟩

theorem latest_ok {S : AH} {A : Nat → Prop} (hA : ∀ j, A j → j < S.nx) {x : Value} {l : List (List CT)} (hx : CellA A S (.row 40 k24) x (.row l)) {g : Nat} {fb : List Value} {P : List CT → Bool} (hg : ∃ fn, E.fn g = some fn) (hf : ∀ H, Kept S.nx S H → ∀ (u p : ByteArray) {n : Int}, (Lit.int .i64 n).wf = true → XCall Tryz.prog g (.agg ⟨[.string u, .int .i64 n, .string p]⟩ :: fb) H fun v H' => v = .bool (P [.v (.string u), .v (.int .i64 n), .v (.string p)]) ∧ Kept H.nx H H') : XCall Tryz.prog 26 [x, .func (.func g) ⟨[]⟩ ⟨fb⟩] S fun v H' => v = .tuple ⟨[.agg ⟨latV (lat P l)⟩, .bool (lat P l).isSome]⟩ ∧ Kept S.nx S H' := by
  obtain ⟨l2, ax, cx, e2, rfl, rx⟩ := hx.rowD
  cases e2
  have hb := rx.len
  refine x_enter (E := E) (n := 35) (rs := [.cell 4 24, .tmp 5]) (l := [(1, _), (0, _)]) (fn_own Tryz.func26 rfl rfl rfl) hA rfl ?_
  refine sx_seq ?_
  refine sx_region (E := E) ?_
  refine so_alloc (cs := (.string ⟨#[]⟩ :: .int .i64 0 :: .string ⟨#[]⟩ :: [])) rfl rfl (fun h => nomatch h) inf24 rfl rfl ?_
  intro N4
  refine so_assign rfl rfl rfl ?_
  refine so_then ?_
  refine sx_seq ?_
  refine sx_region (E := E) ?_
  refine so_build rfl rfl (by repeat (first | exact Opps.nil | apply Opps.cons rfl)) (by rfl) ?_
  refine so_alloc (cs := (.string ⟨#[]⟩ :: .int .i64 0 :: .string ⟨#[]⟩ :: [])) rfl rfl (fun h => nomatch h) inf24 rfl rfl ?_
  intro N6
  refine so_storeA rfl (fun h => nomatch h) rfl rfl inf24 (by first | exact cellsOf_length _ _ | rfl) rfl (by repeat (first | exact .zero | apply Upd.succ)) (by first | exact cellsOf_set rfl | exact cellsOf_setr rfl | exact cellsOf_store rfl | exact store_all rfl | rfl) (by first | exact cellsOf_in rfl rfl | exact cellsOf_in rfl (cellsOf_length _ _) | exact cellsOf_le rfl | exact Nat.le_of_ble_eq_true rfl | omega) (fun h => nomatch h) ?_
  refine so_assign rfl rfl rfl ?_
  refine so_then ?_
  refine sx_seq ?_
  refine sx_seq ?_
  refine sx_region (E := E) ?_
  refine so_move rfl rfl rfl ?_
  refine so_lenL rfl rfl rfl rfl rfl rfl Tryz.underlying22 ?_
  refine so_move rfl rfl rfl ?_
  refine so_then ?_
  refine sx_block ?_
  refine sx_loop (σ := Nat × Option (List CT)) (fun z => l.length - z.1) (fun z => [(1, .func (.func g) ⟨[]⟩ ⟨fb⟩), (4, .pointer (some ⟨2 * N4 + 1, 0, none⟩)), (6, .pointer (some ⟨2 * N6 + 1, 0, none⟩)), (7, .bool z.2.isSome), (11, .slice ax l.length cx), (12, .int .i64 ((l.length : Nat) : Int)), (13, .int .i64 ((z.1 : Nat) : Int))]) (fun _ => S) (fun _ => A) (fun z => [(N6, .cells (latV z.2) (boxsz E 24) true), (N4, .cells [.string ⟨#[]⟩, .int .i64 0, .string ⟨#[]⟩] (boxsz E 24) true)]) (fun z => z.1 ≤ l.length ∧ z.2 = lat P (l.take z.1) ∧ FileO z.2) ((0, none)) (⟨Nat.zero_le _, rfl, fileO_none⟩) (by repeat (first | exact .nil | refine .cons rfl ?_)) rfl rfl (by repeat (first | exact List.nil_sublist _ | apply List.Sublist.cons_cons | apply List.Sublist.cons)) ?_
  intro s hJ t1
  obtain ⟨k, o⟩ := s
  obtain ⟨hJ, ho, hfo⟩ := hJ
  dsimp only at hJ ho hfo ⊢
  refine sx_seq ?_
  rcases Nat.lt_or_ge k l.length with hk | hk
  · skip
    obtain ⟨qx, us, d, eqx, ix, hc, lx, kx⟩ := rx.at' k hk
    cases eqx
    obtain ⟨u, n, p, rfl, rfl, hu, hn, hp⟩ := file3 kx
    refine sx_region (E := E) ?_
    refine so_bin rfl rfl rfl rfl (by first | exact bin_lss_t (by omega) | exact bin_lss_f (by omega)) ?_
    refine so_then ?_
    refine sx_seq ?_
    refine sx_true rfl ?_
    refine sx_skip ?_
    refine sk_then ?_
    refine sx_seq ?_
    refine sx_block ?_
    refine sx_seq ?_
    refine sx_region (E := E) ?_
    first | refine so_indexO rfl rfl rfl rfl Tryz.underlying22 inf24 rfl (by omega) rfl ?_ | refine so_index rfl rfl rfl rfl Tryz.underlying22 inf24 rfl (by omega) ?_
    refine so_load rfl rfl rfl (by first | exact ld_ownA Tryz.underlying24 rfl inf24 rfl (by repeat (first | exact List.Mem.head _ | apply List.Mem.tail)) (by first | exact cellsOf_le rfl | exact Nat.le_of_ble_eq_true rfl | decide | omega) (by first | exact cellsOf_all | exact take_all rfl | exact cellsOf_part rfl | rfl) | exact ld_dataA Tryz.underlying24 rfl inf24 rfl (by first | assumption | exact InA.add (by assumption) | exact InA.add (InA.add (by assumption))) (by assumption)) ?_
    refine so_alloc (cs := (.string ⟨#[]⟩ :: .int .i64 0 :: .string ⟨#[]⟩ :: [])) rfl rfl (fun h => nomatch h) inf24 rfl rfl ?_
    intro N9
    refine so_storeA rfl (fun h => nomatch h) rfl rfl inf24 (by first | exact cellsOf_length _ _ | rfl) rfl (by repeat (first | exact .zero | apply Upd.succ)) (by first | exact cellsOf_set rfl | exact cellsOf_setr rfl | exact cellsOf_store rfl | exact store_all rfl | rfl) (by first | exact cellsOf_in rfl rfl | exact cellsOf_in rfl (cellsOf_length _ _) | exact cellsOf_le rfl | exact Nat.le_of_ble_eq_true rfl | omega) (fun h => nomatch h) ?_
    refine so_then ?_
    refine sx_seq ?_
    rcases lat4 P o [.v (.string u), .v (.int .i64 n), .v (.string p)] with hp0 | ⟨hp0, rfl⟩ | ⟨hp0, d, rfl, hlt⟩ | ⟨hp0, d, rfl, hlt⟩
    · skip
      refine sx_region (E := E) ?_
      refine so_move rfl rfl rfl ?_
      refine so_load rfl rfl rfl (by first | exact ld_ownA Tryz.underlying24 rfl inf24 rfl (by repeat (first | exact List.Mem.head _ | apply List.Mem.tail)) (by first | exact cellsOf_le rfl | exact Nat.le_of_ble_eq_true rfl | decide | omega) (by first | exact cellsOf_all | exact take_all rfl | exact cellsOf_part rfl | rfl) | exact ld_dataA Tryz.underlying24 rfl inf24 rfl (by first | assumption | exact InA.add (by assumption) | exact InA.add (InA.add (by assumption))) (by assumption)) ?_
      refine so_callV rfl rfl (fun h => nomatch h) rfl rfl hg (by repeat (first | exact Opvs.nil | apply Opvs.cons rfl)) rfl (fun H hH => (hf H hH.kept u p hn).b hp0) ?_
      refine so_move rfl rfl rfl ?_
      first | refine so_move rfl rfl rfl ?_ | refine so_skip rfl rfl rfl ?_
      first | refine so_not rfl rfl rfl rfl ?_ | refine so_skip rfl rfl rfl ?_
      first | refine so_move rfl rfl rfl ?_ | refine so_skip rfl rfl rfl ?_
      first | refine so_fieldO (o' := 1) rfl rfl rfl Tryz.underlying24 rfl inf3 rfl rfl ?_ | refine so_skip rfl rfl rfl ?_
      first | refine so_load rfl rfl rfl (by first | exact ld_own Tryz.underlying3 rfl (by repeat (first | exact List.Mem.head _ | apply List.Mem.tail)) (by first | exact cellsOf_get rfl | rfl) | exact ld_data Tryz.underlying3 rfl (by first | assumption | exact InA.add (by assumption) | exact InA.add (InA.add (by assumption))) (by assumption)) ?_ | refine so_skip rfl rfl rfl ?_
      first | refine so_fieldO (o' := 1) rfl rfl rfl Tryz.underlying24 rfl inf3 rfl rfl ?_ | refine so_skip rfl rfl rfl ?_
      first | refine so_load rfl rfl rfl (by first | exact ld_own Tryz.underlying3 rfl (by repeat (first | exact List.Mem.head _ | apply List.Mem.tail)) (by first | exact cellsOf_get rfl | rfl) | exact ld_data Tryz.underlying3 rfl (by first | assumption | exact InA.add (by assumption) | exact InA.add (InA.add (by assumption))) (by assumption)) ?_ | refine so_skip rfl rfl rfl ?_
      first | refine so_bin rfl rfl rfl rfl (by first | exact bin_gtr_t (by omega) | exact bin_gtr_f (by omega)) ?_ | refine so_skip rfl rfl rfl ?_
      first | refine so_pick_t rfl rfl rfl rfl ?_ | refine so_pick_f rfl rfl rfl rfl ?_ | refine so_skip rfl rfl rfl ?_
      first | refine so_pick_t rfl rfl rfl rfl ?_ | refine so_pick_f rfl rfl rfl rfl ?_
      refine so_then ?_
      refine sx_false rfl ?_
      refine sx_skip ?_
      refine sk_block ?_
      refine sk_then ?_
      refine sx_region (E := E) ?_
      refine so_bin rfl rfl rfl rfl (by first | exact bin_incr (by omega) | exact bin_add (wrap64 (by omega) (by omega)) | exact bin_add rfl) ?_
      refine so_move rfl rfl rfl ?_
      refine so_nil ?_
      exact sk_round (k + 1, o) (show l.length - (k + 1) < l.length - k by omega) ⟨show k + 1 ≤ l.length by omega, by rw [lat_step hc, ← ho, latS_no hp0], hfo⟩ (by repeat (first | exact .nil | refine .cons rfl ?_)) rfl rfl (by repeat (first | exact List.nil_sublist _ | apply List.Sublist.cons_cons | apply List.Sublist.cons))
    · skip
      refine sx_region (E := E) ?_
      refine so_move rfl rfl rfl ?_
      refine so_load rfl rfl rfl (by first | exact ld_ownA Tryz.underlying24 rfl inf24 rfl (by repeat (first | exact List.Mem.head _ | apply List.Mem.tail)) (by first | exact cellsOf_le rfl | exact Nat.le_of_ble_eq_true rfl | decide | omega) (by first | exact cellsOf_all | exact take_all rfl | exact cellsOf_part rfl | rfl) | exact ld_dataA Tryz.underlying24 rfl inf24 rfl (by first | assumption | exact InA.add (by assumption) | exact InA.add (InA.add (by assumption))) (by assumption)) ?_
      refine so_callV rfl rfl (fun h => nomatch h) rfl rfl hg (by repeat (first | exact Opvs.nil | apply Opvs.cons rfl)) rfl (fun H hH => (hf H hH.kept u p hn).b hp0) ?_
      refine so_move rfl rfl rfl ?_
      first | refine so_move rfl rfl rfl ?_ | refine so_skip rfl rfl rfl ?_
      first | refine so_not rfl rfl rfl rfl ?_ | refine so_skip rfl rfl rfl ?_
      first | refine so_move rfl rfl rfl ?_ | refine so_skip rfl rfl rfl ?_
      first | refine so_fieldO (o' := 1) rfl rfl rfl Tryz.underlying24 rfl inf3 rfl rfl ?_ | refine so_skip rfl rfl rfl ?_
      first | refine so_load rfl rfl rfl (by first | exact ld_own Tryz.underlying3 rfl (by repeat (first | exact List.Mem.head _ | apply List.Mem.tail)) (by first | exact cellsOf_get rfl | rfl) | exact ld_data Tryz.underlying3 rfl (by first | assumption | exact InA.add (by assumption) | exact InA.add (InA.add (by assumption))) (by assumption)) ?_ | refine so_skip rfl rfl rfl ?_
      first | refine so_fieldO (o' := 1) rfl rfl rfl Tryz.underlying24 rfl inf3 rfl rfl ?_ | refine so_skip rfl rfl rfl ?_
      first | refine so_load rfl rfl rfl (by first | exact ld_own Tryz.underlying3 rfl (by repeat (first | exact List.Mem.head _ | apply List.Mem.tail)) (by first | exact cellsOf_get rfl | rfl) | exact ld_data Tryz.underlying3 rfl (by first | assumption | exact InA.add (by assumption) | exact InA.add (InA.add (by assumption))) (by assumption)) ?_ | refine so_skip rfl rfl rfl ?_
      first | refine so_bin rfl rfl rfl rfl (by first | exact bin_gtr_t (by omega) | exact bin_gtr_f (by omega)) ?_ | refine so_skip rfl rfl rfl ?_
      first | refine so_pick_t rfl rfl rfl rfl ?_ | refine so_pick_f rfl rfl rfl rfl ?_ | refine so_skip rfl rfl rfl ?_
      first | refine so_pick_t rfl rfl rfl rfl ?_ | refine so_pick_f rfl rfl rfl rfl ?_
      refine so_then ?_
      refine sx_true rfl ?_
      refine sx_region (E := E) ?_
      refine so_load rfl rfl rfl (by first | exact ld_ownA Tryz.underlying24 rfl inf24 rfl (by repeat (first | exact List.Mem.head _ | apply List.Mem.tail)) (by first | exact cellsOf_le rfl | exact Nat.le_of_ble_eq_true rfl | decide | omega) (by first | exact cellsOf_all | exact take_all rfl | exact cellsOf_part rfl | rfl) | exact ld_dataA Tryz.underlying24 rfl inf24 rfl (by first | assumption | exact InA.add (by assumption) | exact InA.add (InA.add (by assumption))) (by assumption)) ?_
      refine so_storeA rfl (fun h => nomatch h) rfl rfl inf24 (by first | exact cellsOf_length _ _ | rfl) rfl (by repeat (first | exact .zero | apply Upd.succ)) (by first | exact cellsOf_set rfl | exact cellsOf_setr rfl | exact cellsOf_store rfl | exact store_all rfl | rfl) (by first | exact cellsOf_in rfl rfl | exact cellsOf_in rfl (cellsOf_length _ _) | exact cellsOf_le rfl | exact Nat.le_of_ble_eq_true rfl | omega) (fun h => nomatch h) ?_
      refine so_assign rfl rfl rfl ?_
      refine so_nil ?_
      refine sk_block ?_
      refine sk_then ?_
      refine sx_region (E := E) ?_
      refine so_bin rfl rfl rfl rfl (by first | exact bin_incr (by omega) | exact bin_add (wrap64 (by omega) (by omega)) | exact bin_add rfl) ?_
      refine so_move rfl rfl rfl ?_
      refine so_nil ?_
      exact sk_round (k + 1, some [.v (.string u), .v (.int .i64 n), .v (.string p)]) (show l.length - (k + 1) < l.length - k by omega) ⟨show k + 1 ≤ l.length by omega, by rw [lat_step hc, ← ho, latS_first hp0], fileO_some hu hn hp⟩ (by repeat (first | exact .nil | refine .cons rfl ?_)) rfl rfl (by repeat (first | exact List.nil_sublist _ | apply List.Sublist.cons_cons | apply List.Sublist.cons))
    · skip
      obtain ⟨du, dn, dp, rfl, hdu, hdn, hdp⟩ := hfo d rfl
      have hlt2 : dn < n := hlt
      refine sx_region (E := E) ?_
      refine so_move rfl rfl rfl ?_
      refine so_load rfl rfl rfl (by first | exact ld_ownA Tryz.underlying24 rfl inf24 rfl (by repeat (first | exact List.Mem.head _ | apply List.Mem.tail)) (by first | exact cellsOf_le rfl | exact Nat.le_of_ble_eq_true rfl | decide | omega) (by first | exact cellsOf_all | exact take_all rfl | exact cellsOf_part rfl | rfl) | exact ld_dataA Tryz.underlying24 rfl inf24 rfl (by first | assumption | exact InA.add (by assumption) | exact InA.add (InA.add (by assumption))) (by assumption)) ?_
      refine so_callV rfl rfl (fun h => nomatch h) rfl rfl hg (by repeat (first | exact Opvs.nil | apply Opvs.cons rfl)) rfl (fun H hH => (hf H hH.kept u p hn).b hp0) ?_
      refine so_move rfl rfl rfl ?_
      first | refine so_move rfl rfl rfl ?_ | refine so_skip rfl rfl rfl ?_
      first | refine so_not rfl rfl rfl rfl ?_ | refine so_skip rfl rfl rfl ?_
      first | refine so_move rfl rfl rfl ?_ | refine so_skip rfl rfl rfl ?_
      first | refine so_fieldO (o' := 1) rfl rfl rfl Tryz.underlying24 rfl inf3 rfl rfl ?_ | refine so_skip rfl rfl rfl ?_
      first | refine so_load rfl rfl rfl (by first | exact ld_own Tryz.underlying3 rfl (by repeat (first | exact List.Mem.head _ | apply List.Mem.tail)) (by first | exact cellsOf_get rfl | rfl) | exact ld_data Tryz.underlying3 rfl (by first | assumption | exact InA.add (by assumption) | exact InA.add (InA.add (by assumption))) (by assumption)) ?_ | refine so_skip rfl rfl rfl ?_
      first | refine so_fieldO (o' := 1) rfl rfl rfl Tryz.underlying24 rfl inf3 rfl rfl ?_ | refine so_skip rfl rfl rfl ?_
      first | refine so_load rfl rfl rfl (by first | exact ld_own Tryz.underlying3 rfl (by repeat (first | exact List.Mem.head _ | apply List.Mem.tail)) (by first | exact cellsOf_get rfl | rfl) | exact ld_data Tryz.underlying3 rfl (by first | assumption | exact InA.add (by assumption) | exact InA.add (InA.add (by assumption))) (by assumption)) ?_ | refine so_skip rfl rfl rfl ?_
      first | refine so_bin rfl rfl rfl rfl (by first | exact bin_gtr_t (by omega) | exact bin_gtr_f (by omega)) ?_ | refine so_skip rfl rfl rfl ?_
      first | refine so_pick_t rfl rfl rfl rfl ?_ | refine so_pick_f rfl rfl rfl rfl ?_ | refine so_skip rfl rfl rfl ?_
      first | refine so_pick_t rfl rfl rfl rfl ?_ | refine so_pick_f rfl rfl rfl rfl ?_
      refine so_then ?_
      refine sx_true rfl ?_
      refine sx_region (E := E) ?_
      refine so_load rfl rfl rfl (by first | exact ld_ownA Tryz.underlying24 rfl inf24 rfl (by repeat (first | exact List.Mem.head _ | apply List.Mem.tail)) (by first | exact cellsOf_le rfl | exact Nat.le_of_ble_eq_true rfl | decide | omega) (by first | exact cellsOf_all | exact take_all rfl | exact cellsOf_part rfl | rfl) | exact ld_dataA Tryz.underlying24 rfl inf24 rfl (by first | assumption | exact InA.add (by assumption) | exact InA.add (InA.add (by assumption))) (by assumption)) ?_
      refine so_storeA rfl (fun h => nomatch h) rfl rfl inf24 (by first | exact cellsOf_length _ _ | rfl) rfl (by repeat (first | exact .zero | apply Upd.succ)) (by first | exact cellsOf_set rfl | exact cellsOf_setr rfl | exact cellsOf_store rfl | exact store_all rfl | rfl) (by first | exact cellsOf_in rfl rfl | exact cellsOf_in rfl (cellsOf_length _ _) | exact cellsOf_le rfl | exact Nat.le_of_ble_eq_true rfl | omega) (fun h => nomatch h) ?_
      refine so_assign rfl rfl rfl ?_
      refine so_nil ?_
      refine sk_block ?_
      refine sk_then ?_
      refine sx_region (E := E) ?_
      refine so_bin rfl rfl rfl rfl (by first | exact bin_incr (by omega) | exact bin_add (wrap64 (by omega) (by omega)) | exact bin_add rfl) ?_
      refine so_move rfl rfl rfl ?_
      refine so_nil ?_
      exact sk_round (k + 1, some [.v (.string u), .v (.int .i64 n), .v (.string p)]) (show l.length - (k + 1) < l.length - k by omega) ⟨show k + 1 ≤ l.length by omega, by rw [lat_step hc, ← ho, latS_more hp0 hlt], fileO_some hu hn hp⟩ (by repeat (first | exact .nil | refine .cons rfl ?_)) rfl rfl (by repeat (first | exact List.nil_sublist _ | apply List.Sublist.cons_cons | apply List.Sublist.cons))
    · skip
      obtain ⟨du, dn, dp, rfl, hdu, hdn, hdp⟩ := hfo d rfl
      have hlt2 : ¬ dn < n := hlt
      refine sx_region (E := E) ?_
      refine so_move rfl rfl rfl ?_
      refine so_load rfl rfl rfl (by first | exact ld_ownA Tryz.underlying24 rfl inf24 rfl (by repeat (first | exact List.Mem.head _ | apply List.Mem.tail)) (by first | exact cellsOf_le rfl | exact Nat.le_of_ble_eq_true rfl | decide | omega) (by first | exact cellsOf_all | exact take_all rfl | exact cellsOf_part rfl | rfl) | exact ld_dataA Tryz.underlying24 rfl inf24 rfl (by first | assumption | exact InA.add (by assumption) | exact InA.add (InA.add (by assumption))) (by assumption)) ?_
      refine so_callV rfl rfl (fun h => nomatch h) rfl rfl hg (by repeat (first | exact Opvs.nil | apply Opvs.cons rfl)) rfl (fun H hH => (hf H hH.kept u p hn).b hp0) ?_
      refine so_move rfl rfl rfl ?_
      first | refine so_move rfl rfl rfl ?_ | refine so_skip rfl rfl rfl ?_
      first | refine so_not rfl rfl rfl rfl ?_ | refine so_skip rfl rfl rfl ?_
      first | refine so_move rfl rfl rfl ?_ | refine so_skip rfl rfl rfl ?_
      first | refine so_fieldO (o' := 1) rfl rfl rfl Tryz.underlying24 rfl inf3 rfl rfl ?_ | refine so_skip rfl rfl rfl ?_
      first | refine so_load rfl rfl rfl (by first | exact ld_own Tryz.underlying3 rfl (by repeat (first | exact List.Mem.head _ | apply List.Mem.tail)) (by first | exact cellsOf_get rfl | rfl) | exact ld_data Tryz.underlying3 rfl (by first | assumption | exact InA.add (by assumption) | exact InA.add (InA.add (by assumption))) (by assumption)) ?_ | refine so_skip rfl rfl rfl ?_
      first | refine so_fieldO (o' := 1) rfl rfl rfl Tryz.underlying24 rfl inf3 rfl rfl ?_ | refine so_skip rfl rfl rfl ?_
      first | refine so_load rfl rfl rfl (by first | exact ld_own Tryz.underlying3 rfl (by repeat (first | exact List.Mem.head _ | apply List.Mem.tail)) (by first | exact cellsOf_get rfl | rfl) | exact ld_data Tryz.underlying3 rfl (by first | assumption | exact InA.add (by assumption) | exact InA.add (InA.add (by assumption))) (by assumption)) ?_ | refine so_skip rfl rfl rfl ?_
      first | refine so_bin rfl rfl rfl rfl (by first | exact bin_gtr_t (by omega) | exact bin_gtr_f (by omega)) ?_ | refine so_skip rfl rfl rfl ?_
      first | refine so_pick_t rfl rfl rfl rfl ?_ | refine so_pick_f rfl rfl rfl rfl ?_ | refine so_skip rfl rfl rfl ?_
      first | refine so_pick_t rfl rfl rfl rfl ?_ | refine so_pick_f rfl rfl rfl rfl ?_
      refine so_then ?_
      refine sx_false rfl ?_
      refine sx_skip ?_
      refine sk_block ?_
      refine sk_then ?_
      refine sx_region (E := E) ?_
      refine so_bin rfl rfl rfl rfl (by first | exact bin_incr (by omega) | exact bin_add (wrap64 (by omega) (by omega)) | exact bin_add rfl) ?_
      refine so_move rfl rfl rfl ?_
      refine so_nil ?_
      exact sk_round (k + 1, some [.v (.string du), .v (.int .i64 dn), .v (.string dp)]) (show l.length - (k + 1) < l.length - k by omega) ⟨show k + 1 ≤ l.length by omega, by rw [lat_step hc, ← ho, latS_less hlt], fileO_some hdu hdn hdp⟩ (by repeat (first | exact .nil | refine .cons rfl ?_)) rfl rfl (by repeat (first | exact List.nil_sublist _ | apply List.Sublist.cons_cons | apply List.Sublist.cons))
  · skip
    rw [List.take_of_length_le (by omega)] at ho
    have hlen := latV_len hfo
    have hone := latV_one hfo
    refine sx_region (E := E) ?_
    refine so_bin rfl rfl rfl rfl (by first | exact bin_lss_t (by omega) | exact bin_lss_f (by omega)) ?_
    refine so_then ?_
    refine sx_seq ?_
    refine sx_false rfl ?_
    refine sx_exit ?_
    refine sk_then_exit ?_
    refine sk_loop_exit ?_
    refine sk_block_exit ?_
    refine sk_then ?_
    refine sx_seq ?_
    refine sx_region (E := E) ?_
    refine so_load rfl rfl rfl (by first | exact ld_ownA Tryz.underlying24 rfl inf24 rfl (by repeat (first | exact List.Mem.head _ | apply List.Mem.tail)) (by rw [hlen]; exact Nat.le_refl _) (by rw [List.drop_zero, List.take_of_length_le (by rw [hlen]; exact Nat.le_refl _)]) | exact ld_ownA Tryz.underlying24 rfl inf24 rfl (by repeat (first | exact List.Mem.head _ | apply List.Mem.tail)) (by first | exact cellsOf_le rfl | exact Nat.le_of_ble_eq_true rfl | decide | omega) (by first | exact cellsOf_all | exact take_all rfl | exact cellsOf_part rfl | rfl) | exact ld_dataA Tryz.underlying24 rfl inf24 rfl (by first | assumption | exact InA.add (by assumption) | exact InA.add (InA.add (by assumption))) (by assumption)) ?_
    refine so_move rfl rfl rfl ?_
    refine so_storeA rfl (fun h => nomatch h) rfl rfl inf24 hlen hone (by repeat (first | exact .zero | apply Upd.succ)) (store_all (cs := [.string ⟨#[]⟩, .int .i64 0, .string ⟨#[]⟩]) hlen) (by rw [hlen]; exact Nat.le_refl _) (fun h => nomatch h) ?_
    refine so_assign rfl rfl rfl ?_
    refine so_then ?_
    refine sx_ret ?_
    refine sk_return2 (.cell rfl (by first | exact ld_ownA Tryz.underlying24 rfl inf24 rfl (by repeat (first | exact List.Mem.head _ | apply List.Mem.tail)) (by rw [hlen]; exact Nat.le_refl _) (by rw [List.drop_zero, List.take_of_length_le (by rw [hlen]; exact Nat.le_refl _)]) | exact ld_ownA Tryz.underlying24 rfl inf24 rfl (by repeat (first | exact List.Mem.head _ | apply List.Mem.tail)) (by first | exact cellsOf_le rfl | exact Nat.le_of_ble_eq_true rfl | decide | omega) (by first | exact cellsOf_all | exact take_all rfl | exact cellsOf_part rfl | rfl) | exact ld_dataA Tryz.underlying24 rfl inf24 rfl (by first | assumption | exact InA.add (by assumption) | exact InA.add (InA.add (by assumption))) (by assumption)) (.tmp rfl .nil)) ?_
    exact fun H hH => ⟨by rw [← ho], hH.kept⟩

theorem rlatest_ok {S : AH} {A : Nat → Prop} (hA : ∀ j, A j → j < S.nx) {x : Value} {l : List (List CT)} (hx : CellA A S (.row 40 k24) x (.row l)) (q : ByteArray) : XCall Tryz.prog 14 [x, .string q] S fun v H' => v = .tuple ⟨[.agg ⟨latV (lat (nmP q.data.toList) l)⟩, .bool (lat (nmP q.data.toList) l).isSome]⟩ ∧ Kept S.nx S H' := by
  obtain ⟨l2, ax, cx, e2, rfl, rx⟩ := hx.rowD
  cases e2
  have hb := rx.len
  refine x_enter (E := E) (n := 42) (rs := [.cell 4 24, .tmp 5]) (l := [(1, _), (0, _)]) (fn_own Tryz.func14 rfl rfl rfl) hA rfl ?_
  refine sx_seq ?_
  refine sx_region (E := E) ?_
  refine so_alloc (cs := (.string ⟨#[]⟩ :: .int .i64 0 :: .string ⟨#[]⟩ :: [])) rfl rfl (fun h => nomatch h) inf24 rfl rfl ?_
  intro N4
  refine so_assign rfl rfl rfl ?_
  refine so_then ?_
  refine sx_seq ?_
  refine sx_region (E := E) ?_
  refine so_alloc (cs := (.string ⟨#[]⟩ :: .int .i64 0 :: .string ⟨#[]⟩ :: [])) rfl rfl (fun h => nomatch h) inf24 rfl rfl ?_
  intro N6
  refine so_then ?_
  refine sx_seq ?_
  refine sx_region (E := E) ?_
  refine so_assign rfl rfl rfl ?_
  refine so_then ?_
  refine sx_seq ?_
  refine sx_seq ?_
  refine sx_region (E := E) ?_
  refine so_move rfl rfl rfl ?_
  refine so_lenL rfl rfl rfl rfl rfl rfl Tryz.underlying22 ?_
  refine so_move rfl rfl rfl ?_
  refine so_then ?_
  refine sx_block ?_
  refine sx_loop (σ := Nat × Option (List CT)) (fun z => l.length - z.1) (fun z => [(0, .slice ax l.length cx), (1, .string q), (4, .pointer (some ⟨2 * N4 + 1, 0, none⟩)), (6, .pointer (some ⟨2 * N6 + 1, 0, none⟩)), (7, .bool z.2.isSome), (10, .int .i64 ((l.length : Nat) : Int)), (11, .int .i64 ((z.1 : Nat) : Int))]) (fun _ => S) (fun _ => A) (fun z => [(N6, .cells (latV z.2) (boxsz E 24) true), (N4, .cells [.string ⟨#[]⟩, .int .i64 0, .string ⟨#[]⟩] (boxsz E 24) true)]) (fun z => z.1 ≤ l.length ∧ z.2 = lat (nmP q.data.toList) (l.take z.1) ∧ FileO z.2) ((0, none)) (⟨Nat.zero_le _, rfl, fileO_none⟩) (by repeat (first | exact .nil | refine .cons rfl ?_)) rfl rfl (by repeat (first | exact List.nil_sublist _ | apply List.Sublist.cons_cons | apply List.Sublist.cons)) ?_
  intro s hJ t1
  obtain ⟨k, o⟩ := s
  obtain ⟨hJ, ho, hfo⟩ := hJ
  dsimp only at hJ ho hfo ⊢
  refine sx_seq ?_
  rcases Nat.lt_or_ge k l.length with hk | hk
  · skip
    obtain ⟨qx, us, d, eqx, ix, hc, lx, kx⟩ := rx.at' k hk
    cases eqx
    obtain ⟨u, n, p, rfl, rfl, hu, hn, hp⟩ := file3 kx
    have lx0 : aload S ((qx.add (k * 3)).add 0) = some (.string u) := aloads_at lx (j := 0) (by decide)
    have lx1 : aload S ((qx.add (k * 3)).add 1) = some (.int .i64 n) := aloads_at lx (j := 1) (by decide)
    refine sx_region (E := E) ?_
    refine so_bin rfl rfl rfl rfl (by first | exact bin_lss_t (by omega) | exact bin_lss_f (by omega)) ?_
    refine so_then ?_
    refine sx_seq ?_
    refine sx_true rfl ?_
    refine sx_skip ?_
    refine sk_then ?_
    refine sx_seq ?_
    refine sx_block ?_
    refine sx_seq ?_
    refine sx_region (E := E) ?_
    refine so_move rfl rfl rfl ?_
    refine so_assign rfl rfl rfl ?_
    refine so_then ?_
    refine sx_seq ?_
    rcases lat4 (nmP q.data.toList) o [.v (.string u), .v (.int .i64 n), .v (.string p)] with hp0 | ⟨hp0, rfl⟩ | ⟨hp0, d, rfl, hlt⟩ | ⟨hp0, d, rfl, hlt⟩
    · skip
      have hq0 : u.data.toList ≠ q.data.toList := of_decide_eq_false hp0
      refine sx_draw (E := E) mixed [] _ (List.Sublist.refl _) (by kernel_rfl) (by kernel_rfl) (by decide) ?_
      refine so_move rfl rfl rfl ?_
      refine so_move rfl rfl rfl ?_
      first | refine so_indexO rfl rfl rfl rfl Tryz.underlying22 inf24 rfl (by omega) rfl ?_ | refine so_index rfl rfl rfl rfl Tryz.underlying22 inf24 rfl (by omega) ?_
      first | refine so_fieldO rfl rfl rfl Tryz.underlying24 rfl inf9 rfl rfl ?_ | refine so_fieldC rfl rfl rfl Tryz.underlying24 rfl inf9 rfl rfl ?_
      refine so_load rfl rfl rfl (by first | exact ld_own Tryz.underlying9 rfl (by repeat (first | exact List.Mem.head _ | apply List.Mem.tail)) (by first | exact cellsOf_get rfl | rfl) | exact ld_data Tryz.underlying9 rfl (by first | assumption | exact InA.add (by assumption) | exact InA.add (InA.add (by assumption))) (by assumption)) ?_
      refine so_move rfl rfl rfl ?_
      refine so_bin rfl rfl rfl rfl (by first | exact bin_seql_t (by first | rfl | assumption | decide) | exact bin_seql_f (by first | rfl | assumption | decide)) ?_
      refine so_move rfl rfl rfl ?_
      first | refine so_move rfl rfl rfl ?_ | refine so_skip rfl rfl rfl ?_
      first | refine so_not rfl rfl rfl rfl ?_ | refine so_skip rfl rfl rfl ?_
      first | refine so_move rfl rfl rfl ?_ | refine so_skip rfl rfl rfl ?_
      first | refine so_move rfl rfl rfl ?_ | refine so_skip rfl rfl rfl ?_
      first | refine so_move rfl rfl rfl ?_ | refine so_skip rfl rfl rfl ?_
      first | refine so_indexO rfl rfl rfl rfl Tryz.underlying22 inf24 rfl (by omega) rfl ?_ | refine so_index rfl rfl rfl rfl Tryz.underlying22 inf24 rfl (by omega) ?_ | refine so_skip rfl rfl rfl ?_
      first | refine so_fieldO rfl rfl rfl Tryz.underlying24 rfl inf3 rfl rfl ?_ | refine so_fieldC rfl rfl rfl Tryz.underlying24 rfl inf3 rfl rfl ?_ | refine so_skip rfl rfl rfl ?_
      first | refine so_load rfl rfl rfl (by first | exact ld_own Tryz.underlying3 rfl (by repeat (first | exact List.Mem.head _ | apply List.Mem.tail)) (by first | exact cellsOf_get rfl | rfl) | exact ld_data Tryz.underlying3 rfl (by first | assumption | exact InA.add (by assumption) | exact InA.add (InA.add (by assumption))) (by assumption)) ?_ | refine so_skip rfl rfl rfl ?_
      first | refine so_fieldO (o' := 1) rfl rfl rfl Tryz.underlying24 rfl inf3 rfl rfl ?_ | refine so_skip rfl rfl rfl ?_
      first | refine so_load rfl rfl rfl (by first | exact ld_own Tryz.underlying3 rfl (by repeat (first | exact List.Mem.head _ | apply List.Mem.tail)) (by first | exact cellsOf_get rfl | rfl) | exact ld_data Tryz.underlying3 rfl (by first | assumption | exact InA.add (by assumption) | exact InA.add (InA.add (by assumption))) (by assumption)) ?_ | refine so_skip rfl rfl rfl ?_
      first | refine so_bin rfl rfl rfl rfl (by first | exact bin_gtr_t (by omega) | exact bin_gtr_f (by omega)) ?_ | refine so_skip rfl rfl rfl ?_
      first | refine so_pick_t rfl rfl rfl rfl ?_ | refine so_pick_f rfl rfl rfl rfl ?_ | refine so_skip rfl rfl rfl ?_
      first | refine so_pick_t rfl rfl rfl rfl ?_ | refine so_pick_f rfl rfl rfl rfl ?_
      refine so_then ?_
      refine sx_false rfl ?_
      refine sx_skip ?_
      refine sk_block ?_
      refine sk_then ?_
      refine sx_region (E := E) ?_
      refine so_bin rfl rfl rfl rfl (by first | exact bin_incr (by omega) | exact bin_add (wrap64 (by omega) (by omega)) | exact bin_add rfl) ?_
      refine so_move rfl rfl rfl ?_
      refine so_nil ?_
      exact sk_round (k + 1, o) (show l.length - (k + 1) < l.length - k by omega) ⟨show k + 1 ≤ l.length by omega, by rw [lat_step hc, ← ho, latS_no hp0], hfo⟩ (by repeat (first | exact .nil | refine .cons rfl ?_)) rfl rfl (by repeat (first | exact List.nil_sublist _ | apply List.Sublist.cons_cons | apply List.Sublist.cons))
    · skip
      have hq0 : u.data.toList = q.data.toList := of_decide_eq_true hp0
      refine sx_draw (E := E) mixed [] _ (List.Sublist.refl _) (by kernel_rfl) (by kernel_rfl) (by decide) ?_
      refine so_move rfl rfl rfl ?_
      refine so_move rfl rfl rfl ?_
      first | refine so_indexO rfl rfl rfl rfl Tryz.underlying22 inf24 rfl (by omega) rfl ?_ | refine so_index rfl rfl rfl rfl Tryz.underlying22 inf24 rfl (by omega) ?_
      first | refine so_fieldO rfl rfl rfl Tryz.underlying24 rfl inf9 rfl rfl ?_ | refine so_fieldC rfl rfl rfl Tryz.underlying24 rfl inf9 rfl rfl ?_
      refine so_load rfl rfl rfl (by first | exact ld_own Tryz.underlying9 rfl (by repeat (first | exact List.Mem.head _ | apply List.Mem.tail)) (by first | exact cellsOf_get rfl | rfl) | exact ld_data Tryz.underlying9 rfl (by first | assumption | exact InA.add (by assumption) | exact InA.add (InA.add (by assumption))) (by assumption)) ?_
      refine so_move rfl rfl rfl ?_
      refine so_bin rfl rfl rfl rfl (by first | exact bin_seql_t (by first | rfl | assumption | decide) | exact bin_seql_f (by first | rfl | assumption | decide)) ?_
      refine so_move rfl rfl rfl ?_
      first | refine so_move rfl rfl rfl ?_ | refine so_skip rfl rfl rfl ?_
      first | refine so_not rfl rfl rfl rfl ?_ | refine so_skip rfl rfl rfl ?_
      first | refine so_move rfl rfl rfl ?_ | refine so_skip rfl rfl rfl ?_
      first | refine so_move rfl rfl rfl ?_ | refine so_skip rfl rfl rfl ?_
      first | refine so_move rfl rfl rfl ?_ | refine so_skip rfl rfl rfl ?_
      first | refine so_indexO rfl rfl rfl rfl Tryz.underlying22 inf24 rfl (by omega) rfl ?_ | refine so_index rfl rfl rfl rfl Tryz.underlying22 inf24 rfl (by omega) ?_ | refine so_skip rfl rfl rfl ?_
      first | refine so_fieldO rfl rfl rfl Tryz.underlying24 rfl inf3 rfl rfl ?_ | refine so_fieldC rfl rfl rfl Tryz.underlying24 rfl inf3 rfl rfl ?_ | refine so_skip rfl rfl rfl ?_
      first | refine so_load rfl rfl rfl (by first | exact ld_own Tryz.underlying3 rfl (by repeat (first | exact List.Mem.head _ | apply List.Mem.tail)) (by first | exact cellsOf_get rfl | rfl) | exact ld_data Tryz.underlying3 rfl (by first | assumption | exact InA.add (by assumption) | exact InA.add (InA.add (by assumption))) (by assumption)) ?_ | refine so_skip rfl rfl rfl ?_
      first | refine so_fieldO (o' := 1) rfl rfl rfl Tryz.underlying24 rfl inf3 rfl rfl ?_ | refine so_skip rfl rfl rfl ?_
      first | refine so_load rfl rfl rfl (by first | exact ld_own Tryz.underlying3 rfl (by repeat (first | exact List.Mem.head _ | apply List.Mem.tail)) (by first | exact cellsOf_get rfl | rfl) | exact ld_data Tryz.underlying3 rfl (by first | assumption | exact InA.add (by assumption) | exact InA.add (InA.add (by assumption))) (by assumption)) ?_ | refine so_skip rfl rfl rfl ?_
      first | refine so_bin rfl rfl rfl rfl (by first | exact bin_gtr_t (by omega) | exact bin_gtr_f (by omega)) ?_ | refine so_skip rfl rfl rfl ?_
      first | refine so_pick_t rfl rfl rfl rfl ?_ | refine so_pick_f rfl rfl rfl rfl ?_ | refine so_skip rfl rfl rfl ?_
      first | refine so_pick_t rfl rfl rfl rfl ?_ | refine so_pick_f rfl rfl rfl rfl ?_
      refine so_then ?_
      refine sx_true rfl ?_
      refine sx_region (E := E) ?_
      refine so_move rfl rfl rfl ?_
      refine so_move rfl rfl rfl ?_
      first | refine so_indexO rfl rfl rfl rfl Tryz.underlying22 inf24 rfl (by omega) rfl ?_ | refine so_index rfl rfl rfl rfl Tryz.underlying22 inf24 rfl (by omega) ?_
      refine so_load rfl rfl rfl (by first | exact ld_ownA Tryz.underlying24 rfl inf24 rfl (by repeat (first | exact List.Mem.head _ | apply List.Mem.tail)) (by first | exact cellsOf_le rfl | exact Nat.le_of_ble_eq_true rfl | decide | omega) (by first | exact cellsOf_all | exact take_all rfl | exact cellsOf_part rfl | rfl) | exact ld_dataA Tryz.underlying24 rfl inf24 rfl (by first | assumption | exact InA.add (by assumption) | exact InA.add (InA.add (by assumption))) (by assumption)) ?_
      refine so_storeA rfl (fun h => nomatch h) rfl rfl inf24 (by first | exact cellsOf_length _ _ | rfl) rfl (by repeat (first | exact .zero | apply Upd.succ)) (by first | exact cellsOf_set rfl | exact cellsOf_setr rfl | exact cellsOf_store rfl | exact store_all rfl | rfl) (by first | exact cellsOf_in rfl rfl | exact cellsOf_in rfl (cellsOf_length _ _) | exact cellsOf_le rfl | exact Nat.le_of_ble_eq_true rfl | omega) (fun h => nomatch h) ?_
      refine so_assign rfl rfl rfl ?_
      refine so_nil ?_
      refine sk_block ?_
      refine sk_then ?_
      refine sx_region (E := E) ?_
      refine so_bin rfl rfl rfl rfl (by first | exact bin_incr (by omega) | exact bin_add (wrap64 (by omega) (by omega)) | exact bin_add rfl) ?_
      refine so_move rfl rfl rfl ?_
      refine so_nil ?_
      exact sk_round (k + 1, some [.v (.string u), .v (.int .i64 n), .v (.string p)]) (show l.length - (k + 1) < l.length - k by omega) ⟨show k + 1 ≤ l.length by omega, by rw [lat_step hc, ← ho, latS_first hp0], fileO_some hu hn hp⟩ (by repeat (first | exact .nil | refine .cons rfl ?_)) rfl rfl (by repeat (first | exact List.nil_sublist _ | apply List.Sublist.cons_cons | apply List.Sublist.cons))
    · skip
      have hq0 : u.data.toList = q.data.toList := of_decide_eq_true hp0
      obtain ⟨du, dn, dp, rfl, hdu, hdn, hdp⟩ := hfo d rfl
      have hlt2 : dn < n := hlt
      refine sx_draw (E := E) mixed [] _ (List.Sublist.refl _) (by kernel_rfl) (by kernel_rfl) (by decide) ?_
      refine so_move rfl rfl rfl ?_
      refine so_move rfl rfl rfl ?_
      first | refine so_indexO rfl rfl rfl rfl Tryz.underlying22 inf24 rfl (by omega) rfl ?_ | refine so_index rfl rfl rfl rfl Tryz.underlying22 inf24 rfl (by omega) ?_
      first | refine so_fieldO rfl rfl rfl Tryz.underlying24 rfl inf9 rfl rfl ?_ | refine so_fieldC rfl rfl rfl Tryz.underlying24 rfl inf9 rfl rfl ?_
      refine so_load rfl rfl rfl (by first | exact ld_own Tryz.underlying9 rfl (by repeat (first | exact List.Mem.head _ | apply List.Mem.tail)) (by first | exact cellsOf_get rfl | rfl) | exact ld_data Tryz.underlying9 rfl (by first | assumption | exact InA.add (by assumption) | exact InA.add (InA.add (by assumption))) (by assumption)) ?_
      refine so_move rfl rfl rfl ?_
      refine so_bin rfl rfl rfl rfl (by first | exact bin_seql_t (by first | rfl | assumption | decide) | exact bin_seql_f (by first | rfl | assumption | decide)) ?_
      refine so_move rfl rfl rfl ?_
      first | refine so_move rfl rfl rfl ?_ | refine so_skip rfl rfl rfl ?_
      first | refine so_not rfl rfl rfl rfl ?_ | refine so_skip rfl rfl rfl ?_
      first | refine so_move rfl rfl rfl ?_ | refine so_skip rfl rfl rfl ?_
      first | refine so_move rfl rfl rfl ?_ | refine so_skip rfl rfl rfl ?_
      first | refine so_move rfl rfl rfl ?_ | refine so_skip rfl rfl rfl ?_
      first | refine so_indexO rfl rfl rfl rfl Tryz.underlying22 inf24 rfl (by omega) rfl ?_ | refine so_index rfl rfl rfl rfl Tryz.underlying22 inf24 rfl (by omega) ?_ | refine so_skip rfl rfl rfl ?_
      first | refine so_fieldO rfl rfl rfl Tryz.underlying24 rfl inf3 rfl rfl ?_ | refine so_fieldC rfl rfl rfl Tryz.underlying24 rfl inf3 rfl rfl ?_ | refine so_skip rfl rfl rfl ?_
      first | refine so_load rfl rfl rfl (by first | exact ld_own Tryz.underlying3 rfl (by repeat (first | exact List.Mem.head _ | apply List.Mem.tail)) (by first | exact cellsOf_get rfl | rfl) | exact ld_data Tryz.underlying3 rfl (by first | assumption | exact InA.add (by assumption) | exact InA.add (InA.add (by assumption))) (by assumption)) ?_ | refine so_skip rfl rfl rfl ?_
      first | refine so_fieldO (o' := 1) rfl rfl rfl Tryz.underlying24 rfl inf3 rfl rfl ?_ | refine so_skip rfl rfl rfl ?_
      first | refine so_load rfl rfl rfl (by first | exact ld_own Tryz.underlying3 rfl (by repeat (first | exact List.Mem.head _ | apply List.Mem.tail)) (by first | exact cellsOf_get rfl | rfl) | exact ld_data Tryz.underlying3 rfl (by first | assumption | exact InA.add (by assumption) | exact InA.add (InA.add (by assumption))) (by assumption)) ?_ | refine so_skip rfl rfl rfl ?_
      first | refine so_bin rfl rfl rfl rfl (by first | exact bin_gtr_t (by omega) | exact bin_gtr_f (by omega)) ?_ | refine so_skip rfl rfl rfl ?_
      first | refine so_pick_t rfl rfl rfl rfl ?_ | refine so_pick_f rfl rfl rfl rfl ?_ | refine so_skip rfl rfl rfl ?_
      first | refine so_pick_t rfl rfl rfl rfl ?_ | refine so_pick_f rfl rfl rfl rfl ?_
      refine so_then ?_
      refine sx_true rfl ?_
      refine sx_region (E := E) ?_
      refine so_move rfl rfl rfl ?_
      refine so_move rfl rfl rfl ?_
      first | refine so_indexO rfl rfl rfl rfl Tryz.underlying22 inf24 rfl (by omega) rfl ?_ | refine so_index rfl rfl rfl rfl Tryz.underlying22 inf24 rfl (by omega) ?_
      refine so_load rfl rfl rfl (by first | exact ld_ownA Tryz.underlying24 rfl inf24 rfl (by repeat (first | exact List.Mem.head _ | apply List.Mem.tail)) (by first | exact cellsOf_le rfl | exact Nat.le_of_ble_eq_true rfl | decide | omega) (by first | exact cellsOf_all | exact take_all rfl | exact cellsOf_part rfl | rfl) | exact ld_dataA Tryz.underlying24 rfl inf24 rfl (by first | assumption | exact InA.add (by assumption) | exact InA.add (InA.add (by assumption))) (by assumption)) ?_
      refine so_storeA rfl (fun h => nomatch h) rfl rfl inf24 (by first | exact cellsOf_length _ _ | rfl) rfl (by repeat (first | exact .zero | apply Upd.succ)) (by first | exact cellsOf_set rfl | exact cellsOf_setr rfl | exact cellsOf_store rfl | exact store_all rfl | rfl) (by first | exact cellsOf_in rfl rfl | exact cellsOf_in rfl (cellsOf_length _ _) | exact cellsOf_le rfl | exact Nat.le_of_ble_eq_true rfl | omega) (fun h => nomatch h) ?_
      refine so_assign rfl rfl rfl ?_
      refine so_nil ?_
      refine sk_block ?_
      refine sk_then ?_
      refine sx_region (E := E) ?_
      refine so_bin rfl rfl rfl rfl (by first | exact bin_incr (by omega) | exact bin_add (wrap64 (by omega) (by omega)) | exact bin_add rfl) ?_
      refine so_move rfl rfl rfl ?_
      refine so_nil ?_
      exact sk_round (k + 1, some [.v (.string u), .v (.int .i64 n), .v (.string p)]) (show l.length - (k + 1) < l.length - k by omega) ⟨show k + 1 ≤ l.length by omega, by rw [lat_step hc, ← ho, latS_more hp0 hlt], fileO_some hu hn hp⟩ (by repeat (first | exact .nil | refine .cons rfl ?_)) rfl rfl (by repeat (first | exact List.nil_sublist _ | apply List.Sublist.cons_cons | apply List.Sublist.cons))
    · skip
      have hq0 : u.data.toList = q.data.toList := of_decide_eq_true hp0
      obtain ⟨du, dn, dp, rfl, hdu, hdn, hdp⟩ := hfo d rfl
      have hlt2 : ¬ dn < n := hlt
      refine sx_draw (E := E) mixed [] _ (List.Sublist.refl _) (by kernel_rfl) (by kernel_rfl) (by decide) ?_
      refine so_move rfl rfl rfl ?_
      refine so_move rfl rfl rfl ?_
      first | refine so_indexO rfl rfl rfl rfl Tryz.underlying22 inf24 rfl (by omega) rfl ?_ | refine so_index rfl rfl rfl rfl Tryz.underlying22 inf24 rfl (by omega) ?_
      first | refine so_fieldO rfl rfl rfl Tryz.underlying24 rfl inf9 rfl rfl ?_ | refine so_fieldC rfl rfl rfl Tryz.underlying24 rfl inf9 rfl rfl ?_
      refine so_load rfl rfl rfl (by first | exact ld_own Tryz.underlying9 rfl (by repeat (first | exact List.Mem.head _ | apply List.Mem.tail)) (by first | exact cellsOf_get rfl | rfl) | exact ld_data Tryz.underlying9 rfl (by first | assumption | exact InA.add (by assumption) | exact InA.add (InA.add (by assumption))) (by assumption)) ?_
      refine so_move rfl rfl rfl ?_
      refine so_bin rfl rfl rfl rfl (by first | exact bin_seql_t (by first | rfl | assumption | decide) | exact bin_seql_f (by first | rfl | assumption | decide)) ?_
      refine so_move rfl rfl rfl ?_
      first | refine so_move rfl rfl rfl ?_ | refine so_skip rfl rfl rfl ?_
      first | refine so_not rfl rfl rfl rfl ?_ | refine so_skip rfl rfl rfl ?_
      first | refine so_move rfl rfl rfl ?_ | refine so_skip rfl rfl rfl ?_
      first | refine so_move rfl rfl rfl ?_ | refine so_skip rfl rfl rfl ?_
      first | refine so_move rfl rfl rfl ?_ | refine so_skip rfl rfl rfl ?_
      first | refine so_indexO rfl rfl rfl rfl Tryz.underlying22 inf24 rfl (by omega) rfl ?_ | refine so_index rfl rfl rfl rfl Tryz.underlying22 inf24 rfl (by omega) ?_ | refine so_skip rfl rfl rfl ?_
      first | refine so_fieldO rfl rfl rfl Tryz.underlying24 rfl inf3 rfl rfl ?_ | refine so_fieldC rfl rfl rfl Tryz.underlying24 rfl inf3 rfl rfl ?_ | refine so_skip rfl rfl rfl ?_
      first | refine so_load rfl rfl rfl (by first | exact ld_own Tryz.underlying3 rfl (by repeat (first | exact List.Mem.head _ | apply List.Mem.tail)) (by first | exact cellsOf_get rfl | rfl) | exact ld_data Tryz.underlying3 rfl (by first | assumption | exact InA.add (by assumption) | exact InA.add (InA.add (by assumption))) (by assumption)) ?_ | refine so_skip rfl rfl rfl ?_
      first | refine so_fieldO (o' := 1) rfl rfl rfl Tryz.underlying24 rfl inf3 rfl rfl ?_ | refine so_skip rfl rfl rfl ?_
      first | refine so_load rfl rfl rfl (by first | exact ld_own Tryz.underlying3 rfl (by repeat (first | exact List.Mem.head _ | apply List.Mem.tail)) (by first | exact cellsOf_get rfl | rfl) | exact ld_data Tryz.underlying3 rfl (by first | assumption | exact InA.add (by assumption) | exact InA.add (InA.add (by assumption))) (by assumption)) ?_ | refine so_skip rfl rfl rfl ?_
      first | refine so_bin rfl rfl rfl rfl (by first | exact bin_gtr_t (by omega) | exact bin_gtr_f (by omega)) ?_ | refine so_skip rfl rfl rfl ?_
      first | refine so_pick_t rfl rfl rfl rfl ?_ | refine so_pick_f rfl rfl rfl rfl ?_ | refine so_skip rfl rfl rfl ?_
      first | refine so_pick_t rfl rfl rfl rfl ?_ | refine so_pick_f rfl rfl rfl rfl ?_
      refine so_then ?_
      refine sx_false rfl ?_
      refine sx_skip ?_
      refine sk_block ?_
      refine sk_then ?_
      refine sx_region (E := E) ?_
      refine so_bin rfl rfl rfl rfl (by first | exact bin_incr (by omega) | exact bin_add (wrap64 (by omega) (by omega)) | exact bin_add rfl) ?_
      refine so_move rfl rfl rfl ?_
      refine so_nil ?_
      exact sk_round (k + 1, some [.v (.string du), .v (.int .i64 dn), .v (.string dp)]) (show l.length - (k + 1) < l.length - k by omega) ⟨show k + 1 ≤ l.length by omega, by rw [lat_step hc, ← ho, latS_less hlt], fileO_some hdu hdn hdp⟩ (by repeat (first | exact .nil | refine .cons rfl ?_)) rfl rfl (by repeat (first | exact List.nil_sublist _ | apply List.Sublist.cons_cons | apply List.Sublist.cons))
  · skip
    rw [List.take_of_length_le (by omega)] at ho
    have hlen := latV_len hfo
    have hone := latV_one hfo
    refine sx_region (E := E) ?_
    refine so_bin rfl rfl rfl rfl (by first | exact bin_lss_t (by omega) | exact bin_lss_f (by omega)) ?_
    refine so_then ?_
    refine sx_seq ?_
    refine sx_false rfl ?_
    refine sx_exit ?_
    refine sk_then_exit ?_
    refine sk_loop_exit ?_
    refine sk_block_exit ?_
    refine sk_then ?_
    refine sx_seq ?_
    refine sx_region (E := E) ?_
    refine so_load rfl rfl rfl (by first | exact ld_ownA Tryz.underlying24 rfl inf24 rfl (by repeat (first | exact List.Mem.head _ | apply List.Mem.tail)) (by rw [hlen]; exact Nat.le_refl _) (by rw [List.drop_zero, List.take_of_length_le (by rw [hlen]; exact Nat.le_refl _)]) | exact ld_ownA Tryz.underlying24 rfl inf24 rfl (by repeat (first | exact List.Mem.head _ | apply List.Mem.tail)) (by first | exact cellsOf_le rfl | exact Nat.le_of_ble_eq_true rfl | decide | omega) (by first | exact cellsOf_all | exact take_all rfl | exact cellsOf_part rfl | rfl) | exact ld_dataA Tryz.underlying24 rfl inf24 rfl (by first | assumption | exact InA.add (by assumption) | exact InA.add (InA.add (by assumption))) (by assumption)) ?_
    refine so_move rfl rfl rfl ?_
    refine so_storeA rfl (fun h => nomatch h) rfl rfl inf24 hlen hone (by repeat (first | exact .zero | apply Upd.succ)) (store_all (cs := [.string ⟨#[]⟩, .int .i64 0, .string ⟨#[]⟩]) hlen) (by rw [hlen]; exact Nat.le_refl _) (fun h => nomatch h) ?_
    refine so_assign rfl rfl rfl ?_
    refine so_then ?_
    refine sx_ret ?_
    refine sk_return2 (.cell rfl (by first | exact ld_ownA Tryz.underlying24 rfl inf24 rfl (by repeat (first | exact List.Mem.head _ | apply List.Mem.tail)) (by rw [hlen]; exact Nat.le_refl _) (by rw [List.drop_zero, List.take_of_length_le (by rw [hlen]; exact Nat.le_refl _)]) | exact ld_ownA Tryz.underlying24 rfl inf24 rfl (by repeat (first | exact List.Mem.head _ | apply List.Mem.tail)) (by first | exact cellsOf_le rfl | exact Nat.le_of_ble_eq_true rfl | decide | omega) (by first | exact cellsOf_all | exact take_all rfl | exact cellsOf_part rfl | rfl) | exact ld_dataA Tryz.underlying24 rfl inf24 rfl (by first | assumption | exact InA.add (by assumption) | exact InA.add (InA.add (by assumption))) (by assumption)) (.tmp rfl .nil)) ?_
    exact fun H hH => ⟨by rw [← ho], hH.kept⟩

theorem slatest_ok {S : AH} {A : Nat → Prop} (hA : ∀ j, A j → j < S.nx) {x : Value} {l : List (List CT)} (hx : CellA A S (.row 40 k24) x (.row l)) (q : ByteArray) : XCall Tryz.prog 13 [x, .string q] S fun v H' => v = .tuple ⟨[.agg ⟨latV (lat (nmP q.data.toList) l)⟩, .bool (lat (nmP q.data.toList) l).isSome]⟩ ∧ Kept S.nx S H' := by
  obtain ⟨l2, ax, cx, e2, rfl, rx⟩ := hx.rowD
  cases e2
  have hb := rx.len
  have hfl := row_files rx
  refine x_enter (E := E) (n := 11) (rs := [.cell 4 24, .tmp 5]) (l := [(1, _), (0, _)]) (fn_own Tryz.func13 rfl rfl rfl) hA rfl ?_
  refine sx_seq ?_
  refine sx_region (E := E) ?_
  refine so_boxS rfl rfl (fun h => nomatch h) rfl rfl ?_
  intro N3
  refine so_alloc (cs := (.string ⟨#[]⟩ :: .int .i64 0 :: .string ⟨#[]⟩ :: [])) rfl rfl (fun h => nomatch h) inf24 rfl rfl ?_
  intro N4
  refine so_assign rfl rfl rfl ?_
  refine so_then ?_
  refine sx_seq ?_
  rcases ho : lat (nmP q.data.toList) l with _ | d
  · skip
    refine sx_region (E := E) ?_
    refine so_move rfl rfl rfl ?_
    refine so_makeFunc rfl rfl (by repeat (first | exact Opvs.nil | apply Opvs.cons rfl)) (by repeat (first | exact Opvs.nil | apply Opvs.cons rfl)) ?_
    refine so_call rfl rfl (fun h => nomatch h) rfl has26 (by repeat (first | exact Opvs.nil | apply Opvs.cons rfl)) (fun H hH => (latest_ok hH.lt (CellA.gr hH.gr _ _ _ hx) has27 (fun H2 hk u p n _ => named_ok (Nat.lt_of_lt_of_le (hH.own _ (List.Mem.tail _ (List.Mem.head _))).2.2.1 hk.nx) ((hk.get _ (hH.own _ (List.Mem.tail _ (List.Mem.head _))).2.2.1).trans (hH.own _ (List.Mem.tail _ (List.Mem.head _))).1) rfl u p n)).e (by rw [ho])) ?_
    refine so_extract rfl rfl rfl rfl ?_
    refine so_extract rfl rfl rfl rfl ?_
    refine so_storeA rfl (fun h => nomatch h) rfl rfl inf24 (by first | exact cellsOf_length _ _ | rfl) rfl (by repeat (first | exact .zero | apply Upd.succ)) (by first | exact cellsOf_set rfl | exact cellsOf_setr rfl | exact cellsOf_store rfl | exact store_all rfl | rfl) (by first | exact cellsOf_in rfl rfl | exact cellsOf_in rfl (cellsOf_length _ _) | exact cellsOf_le rfl | exact Nat.le_of_ble_eq_true rfl | omega) (fun h => nomatch h) ?_
    refine so_assign rfl rfl rfl ?_
    refine so_then ?_
    refine sx_ret ?_
    refine sk_return2 (.cell rfl (by first | exact ld_ownA Tryz.underlying24 rfl inf24 rfl (by repeat (first | exact List.Mem.head _ | apply List.Mem.tail)) (by first | exact cellsOf_le rfl | exact Nat.le_of_ble_eq_true rfl | decide | omega) (by first | exact cellsOf_all | exact take_all rfl | exact cellsOf_part rfl | rfl) | exact ld_dataA Tryz.underlying24 rfl inf24 rfl (by first | assumption | exact InA.add (by assumption) | exact InA.add (InA.add (by assumption))) (by assumption)) (.tmp rfl .nil)) ?_
    exact fun H hH => ⟨rfl, hH.kept⟩
  · skip
    obtain ⟨du, dn, dp, rfl, _⟩ := lat_files hfl _ ho
    refine sx_region (E := E) ?_
    refine so_move rfl rfl rfl ?_
    refine so_makeFunc rfl rfl (by repeat (first | exact Opvs.nil | apply Opvs.cons rfl)) (by repeat (first | exact Opvs.nil | apply Opvs.cons rfl)) ?_
    refine so_call rfl rfl (fun h => nomatch h) rfl has26 (by repeat (first | exact Opvs.nil | apply Opvs.cons rfl)) (fun H hH => (latest_ok hH.lt (CellA.gr hH.gr _ _ _ hx) has27 (fun H2 hk u p n _ => named_ok (Nat.lt_of_lt_of_le (hH.own _ (List.Mem.tail _ (List.Mem.head _))).2.2.1 hk.nx) ((hk.get _ (hH.own _ (List.Mem.tail _ (List.Mem.head _))).2.2.1).trans (hH.own _ (List.Mem.tail _ (List.Mem.head _))).1) rfl u p n)).e (by rw [ho])) ?_
    refine so_extract rfl rfl rfl rfl ?_
    refine so_extract rfl rfl rfl rfl ?_
    refine so_storeA rfl (fun h => nomatch h) rfl rfl inf24 (by first | exact cellsOf_length _ _ | rfl) rfl (by repeat (first | exact .zero | apply Upd.succ)) (by first | exact cellsOf_set rfl | exact cellsOf_setr rfl | exact cellsOf_store rfl | exact store_all rfl | rfl) (by first | exact cellsOf_in rfl rfl | exact cellsOf_in rfl (cellsOf_length _ _) | exact cellsOf_le rfl | exact Nat.le_of_ble_eq_true rfl | omega) (fun h => nomatch h) ?_
    refine so_assign rfl rfl rfl ?_
    refine so_then ?_
    refine sx_ret ?_
    refine sk_return2 (.cell rfl (by first | exact ld_ownA Tryz.underlying24 rfl inf24 rfl (by repeat (first | exact List.Mem.head _ | apply List.Mem.tail)) (by first | exact cellsOf_le rfl | exact Nat.le_of_ble_eq_true rfl | decide | omega) (by first | exact cellsOf_all | exact take_all rfl | exact cellsOf_part rfl | rfl) | exact ld_dataA Tryz.underlying24 rfl inf24 rfl (by first | assumption | exact InA.add (by assumption) | exact InA.add (InA.add (by assumption))) (by assumption)) (.tmp rfl .nil)) ?_
    exact fun H hH => ⟨rfl, hH.kept⟩

theorem find_ok {S : AH} {A : Nat → Prop} (hA : ∀ j, A j → j < S.nx) {x : Value} {l : List (List CT)} (hx : CellA A S (.row 40 k24) x (.row l)) (q : ByteArray) (r : Int) : XCall Tryz.prog 18 [x, .string q, .int .i64 r] S fun v H' => v = .tuple ⟨[.agg ⟨latV (fnd l q.data.toList r)⟩, .bool (fnd l q.data.toList r).isSome]⟩ ∧ Kept S.nx S H' := by
  obtain ⟨l2, ax, cx, e2, rfl, rx⟩ := hx.rowD
  cases e2
  have hb := rx.len
  refine x_enter (E := E) (n := 29) (rs := [.cell 6 24, .tmp 7]) (l := [(2, _), (1, _), (0, _)]) (fn_own Tryz.func18 rfl rfl rfl) hA rfl ?_
  refine sx_seq ?_
  refine sx_region (E := E) ?_
  refine so_alloc (cs := (.string ⟨#[]⟩ :: .int .i64 0 :: .string ⟨#[]⟩ :: [])) rfl rfl (fun h => nomatch h) inf24 rfl rfl ?_
  intro N6
  refine so_assign rfl rfl rfl ?_
  refine so_then ?_
  refine sx_seq ?_
  refine sx_seq ?_
  refine sx_region (E := E) ?_
  refine so_move rfl rfl rfl ?_
  refine so_lenL rfl rfl rfl rfl rfl rfl Tryz.underlying22 ?_
  refine so_move rfl rfl rfl ?_
  refine so_then ?_
  refine sx_block ?_
  refine sx_loop (σ := Nat) (fun k => l.length - k) (fun k => [(1, .string q), (2, .int .i64 r), (6, .pointer (some ⟨2 * N6 + 1, 0, none⟩)), (10, .slice ax l.length cx), (11, .int .i64 ((l.length : Nat) : Int)), (12, .int .i64 ((k : Nat) : Int))]) (fun _ => S) (fun _ => A) (fun _ => [(N6, .cells [.string ⟨#[]⟩, .int .i64 0, .string ⟨#[]⟩] (boxsz E 24) true)]) (fun k => k ≤ l.length ∧ (∀ j d, j < k → l[j]? = some d → ¬ (nmOf d = q.data.toList ∧ rvOf d = r))) (0) (⟨Nat.zero_le _, fun j d h => absurd h (Nat.not_lt_zero _)⟩) (by repeat (first | exact .nil | refine .cons rfl ?_)) rfl rfl (by repeat (first | exact List.nil_sublist _ | apply List.Sublist.cons_cons | apply List.Sublist.cons)) ?_
  intro s hJ t1
  obtain ⟨hJ, hg⟩ := hJ
  refine sx_seq ?_
  rcases Nat.lt_or_ge s l.length with hk | hk
  · skip
    obtain ⟨qx, us, d, eqx, ix, hc, lx, kx⟩ := rx.at' s hk
    cases eqx
    obtain ⟨u, n, p, rfl, rfl, hu, hn, hp⟩ := file3 kx
    refine sx_region (E := E) ?_
    refine so_bin rfl rfl rfl rfl (by first | exact bin_lss_t (by omega) | exact bin_lss_f (by omega)) ?_
    refine so_then ?_
    refine sx_seq ?_
    refine sx_true rfl ?_
    refine sx_skip ?_
    refine sk_then ?_
    refine sx_seq ?_
    refine sx_block ?_
    refine sx_seq ?_
    refine sx_region (E := E) ?_
    first | refine so_indexO rfl rfl rfl rfl Tryz.underlying22 inf24 rfl (by omega) rfl ?_ | refine so_index rfl rfl rfl rfl Tryz.underlying22 inf24 rfl (by omega) ?_
    refine so_load rfl rfl rfl (by first | exact ld_ownA Tryz.underlying24 rfl inf24 rfl (by repeat (first | exact List.Mem.head _ | apply List.Mem.tail)) (by first | exact cellsOf_le rfl | exact Nat.le_of_ble_eq_true rfl | decide | omega) (by first | exact cellsOf_all | exact take_all rfl | exact cellsOf_part rfl | rfl) | exact ld_dataA Tryz.underlying24 rfl inf24 rfl (by first | assumption | exact InA.add (by assumption) | exact InA.add (InA.add (by assumption))) (by assumption)) ?_
    refine so_alloc (cs := (.string ⟨#[]⟩ :: .int .i64 0 :: .string ⟨#[]⟩ :: [])) rfl rfl (fun h => nomatch h) inf24 rfl rfl ?_
    intro N9
    refine so_storeA rfl (fun h => nomatch h) rfl rfl inf24 (by first | exact cellsOf_length _ _ | rfl) rfl (by repeat (first | exact .zero | apply Upd.succ)) (by first | exact cellsOf_set rfl | exact cellsOf_setr rfl | exact cellsOf_store rfl | exact store_all rfl | rfl) (by first | exact cellsOf_in rfl rfl | exact cellsOf_in rfl (cellsOf_length _ _) | exact cellsOf_le rfl | exact Nat.le_of_ble_eq_true rfl | omega) (fun h => nomatch h) ?_
    refine so_then ?_
    refine sx_seq ?_
    rcases eq3 u.data.toList q.data.toList (n = r) with heq | ⟨heq, hh⟩ | ⟨heq, hh⟩
    · skip
      have hno : ¬ (nmOf [.v (.string u), .v (.int .i64 n), .v (.string p)] = q.data.toList ∧ rvOf [.v (.string u), .v (.int .i64 n), .v (.string p)] = r) := fun h => heq h.1
      refine sx_region (E := E) ?_
      refine so_fieldO (o' := 0) rfl rfl rfl Tryz.underlying24 rfl inf9 rfl rfl ?_
      refine so_load rfl rfl rfl (by first | exact ld_own Tryz.underlying9 rfl (by repeat (first | exact List.Mem.head _ | apply List.Mem.tail)) (by first | exact cellsOf_get rfl | rfl) | exact ld_data Tryz.underlying9 rfl (by first | assumption | exact InA.add (by assumption) | exact InA.add (InA.add (by assumption))) (by assumption)) ?_
      refine so_move rfl rfl rfl ?_
      refine so_bin rfl rfl rfl rfl (by first | exact bin_seql_t (by first | rfl | assumption | decide) | exact bin_seql_f (by first | rfl | assumption | decide)) ?_
      refine so_move rfl rfl rfl ?_
      first | refine so_fieldO (o' := 1) rfl rfl rfl Tryz.underlying24 rfl inf3 rfl rfl ?_ | refine so_skip rfl rfl rfl ?_
      first | refine so_load rfl rfl rfl (by first | exact ld_own Tryz.underlying3 rfl (by repeat (first | exact List.Mem.head _ | apply List.Mem.tail)) (by first | exact cellsOf_get rfl | rfl) | exact ld_data Tryz.underlying3 rfl (by first | assumption | exact InA.add (by assumption) | exact InA.add (InA.add (by assumption))) (by assumption)) ?_ | refine so_skip rfl rfl rfl ?_
      first | refine so_move rfl rfl rfl ?_ | refine so_skip rfl rfl rfl ?_
      first | refine so_bin rfl rfl rfl rfl (by first | exact bin_eql_t (by first | rfl | assumption | omega) | exact bin_eql_f (by first | rfl | assumption | omega)) ?_ | refine so_skip rfl rfl rfl ?_
      first | refine so_pick_t rfl rfl rfl rfl ?_ | refine so_pick_f rfl rfl rfl rfl ?_
      refine so_then ?_
      refine sx_false rfl ?_
      refine sx_skip ?_
      refine sk_block ?_
      refine sk_then ?_
      refine sx_region (E := E) ?_
      refine so_bin rfl rfl rfl rfl (by first | exact bin_incr (by omega) | exact bin_add (wrap64 (by omega) (by omega)) | exact bin_add rfl) ?_
      refine so_move rfl rfl rfl ?_
      refine so_nil ?_
      refine sk_round (s + 1) (show l.length - (s + 1) < l.length - s by omega) ⟨by omega, fun j d2 hj hd2 => ?_⟩ (by repeat (first | exact .nil | refine .cons rfl ?_)) rfl rfl (by repeat (first | exact List.nil_sublist _ | apply List.Sublist.cons_cons | apply List.Sublist.cons))
      by_cases e : j = s
      · subst e; rw [hc] at hd2; cases hd2; exact hno
      · exact hg j d2 (by omega) hd2
    · skip
      refine sx_region (E := E) ?_
      refine so_fieldO (o' := 0) rfl rfl rfl Tryz.underlying24 rfl inf9 rfl rfl ?_
      refine so_load rfl rfl rfl (by first | exact ld_own Tryz.underlying9 rfl (by repeat (first | exact List.Mem.head _ | apply List.Mem.tail)) (by first | exact cellsOf_get rfl | rfl) | exact ld_data Tryz.underlying9 rfl (by first | assumption | exact InA.add (by assumption) | exact InA.add (InA.add (by assumption))) (by assumption)) ?_
      refine so_move rfl rfl rfl ?_
      refine so_bin rfl rfl rfl rfl (by first | exact bin_seql_t (by first | rfl | assumption | decide) | exact bin_seql_f (by first | rfl | assumption | decide)) ?_
      refine so_move rfl rfl rfl ?_
      first | refine so_fieldO (o' := 1) rfl rfl rfl Tryz.underlying24 rfl inf3 rfl rfl ?_ | refine so_skip rfl rfl rfl ?_
      first | refine so_load rfl rfl rfl (by first | exact ld_own Tryz.underlying3 rfl (by repeat (first | exact List.Mem.head _ | apply List.Mem.tail)) (by first | exact cellsOf_get rfl | rfl) | exact ld_data Tryz.underlying3 rfl (by first | assumption | exact InA.add (by assumption) | exact InA.add (InA.add (by assumption))) (by assumption)) ?_ | refine so_skip rfl rfl rfl ?_
      first | refine so_move rfl rfl rfl ?_ | refine so_skip rfl rfl rfl ?_
      first | refine so_bin rfl rfl rfl rfl (by first | exact bin_eql_t (by first | rfl | assumption | omega) | exact bin_eql_f (by first | rfl | assumption | omega)) ?_ | refine so_skip rfl rfl rfl ?_
      first | refine so_pick_t rfl rfl rfl rfl ?_ | refine so_pick_f rfl rfl rfl rfl ?_
      refine so_then ?_
      refine sx_true rfl ?_
      refine sx_seq ?_
      refine sx_region (E := E) ?_
      refine so_load rfl rfl rfl (by first | exact ld_ownA Tryz.underlying24 rfl inf24 rfl (by repeat (first | exact List.Mem.head _ | apply List.Mem.tail)) (by first | exact cellsOf_le rfl | exact Nat.le_of_ble_eq_true rfl | decide | omega) (by first | exact cellsOf_all | exact take_all rfl | exact cellsOf_part rfl | rfl) | exact ld_dataA Tryz.underlying24 rfl inf24 rfl (by first | assumption | exact InA.add (by assumption) | exact InA.add (InA.add (by assumption))) (by assumption)) ?_
      refine so_storeA rfl (fun h => nomatch h) rfl rfl inf24 (by first | exact cellsOf_length _ _ | rfl) rfl (by repeat (first | exact .zero | apply Upd.succ)) (by first | exact cellsOf_set rfl | exact cellsOf_setr rfl | exact cellsOf_store rfl | exact store_all rfl | rfl) (by first | exact cellsOf_in rfl rfl | exact cellsOf_in rfl (cellsOf_length _ _) | exact cellsOf_le rfl | exact Nat.le_of_ble_eq_true rfl | omega) (fun h => nomatch h) ?_
      refine so_assign rfl rfl rfl ?_
      refine so_then ?_
      refine sx_ret ?_
      refine sk_block_ret ?_
      refine sk_then_ret ?_
      refine sk_loop_ret ?_
      refine sk_block_ret ?_
      refine sk_then_ret ?_
      refine sk_return2 (.cell rfl (by first | exact ld_ownA Tryz.underlying24 rfl inf24 rfl (by repeat (first | exact List.Mem.head _ | apply List.Mem.tail)) (by first | exact cellsOf_le rfl | exact Nat.le_of_ble_eq_true rfl | decide | omega) (by first | exact cellsOf_all | exact take_all rfl | exact cellsOf_part rfl | rfl) | exact ld_dataA Tryz.underlying24 rfl inf24 rfl (by first | assumption | exact InA.add (by assumption) | exact InA.add (InA.add (by assumption))) (by assumption)) (.tmp rfl .nil)) ?_
      exact fun H hH => ⟨by rw [fnd_found hc heq hh hg]; rfl, hH.kept⟩
    · skip
      have hno : ¬ (nmOf [.v (.string u), .v (.int .i64 n), .v (.string p)] = q.data.toList ∧ rvOf [.v (.string u), .v (.int .i64 n), .v (.string p)] = r) := fun h => hh h.2
      refine sx_region (E := E) ?_
      refine so_fieldO (o' := 0) rfl rfl rfl Tryz.underlying24 rfl inf9 rfl rfl ?_
      refine so_load rfl rfl rfl (by first | exact ld_own Tryz.underlying9 rfl (by repeat (first | exact List.Mem.head _ | apply List.Mem.tail)) (by first | exact cellsOf_get rfl | rfl) | exact ld_data Tryz.underlying9 rfl (by first | assumption | exact InA.add (by assumption) | exact InA.add (InA.add (by assumption))) (by assumption)) ?_
      refine so_move rfl rfl rfl ?_
      refine so_bin rfl rfl rfl rfl (by first | exact bin_seql_t (by first | rfl | assumption | decide) | exact bin_seql_f (by first | rfl | assumption | decide)) ?_
      refine so_move rfl rfl rfl ?_
      first | refine so_fieldO (o' := 1) rfl rfl rfl Tryz.underlying24 rfl inf3 rfl rfl ?_ | refine so_skip rfl rfl rfl ?_
      first | refine so_load rfl rfl rfl (by first | exact ld_own Tryz.underlying3 rfl (by repeat (first | exact List.Mem.head _ | apply List.Mem.tail)) (by first | exact cellsOf_get rfl | rfl) | exact ld_data Tryz.underlying3 rfl (by first | assumption | exact InA.add (by assumption) | exact InA.add (InA.add (by assumption))) (by assumption)) ?_ | refine so_skip rfl rfl rfl ?_
      first | refine so_move rfl rfl rfl ?_ | refine so_skip rfl rfl rfl ?_
      first | refine so_bin rfl rfl rfl rfl (by first | exact bin_eql_t (by first | rfl | assumption | omega) | exact bin_eql_f (by first | rfl | assumption | omega)) ?_ | refine so_skip rfl rfl rfl ?_
      first | refine so_pick_t rfl rfl rfl rfl ?_ | refine so_pick_f rfl rfl rfl rfl ?_
      refine so_then ?_
      refine sx_false rfl ?_
      refine sx_skip ?_
      refine sk_block ?_
      refine sk_then ?_
      refine sx_region (E := E) ?_
      refine so_bin rfl rfl rfl rfl (by first | exact bin_incr (by omega) | exact bin_add (wrap64 (by omega) (by omega)) | exact bin_add rfl) ?_
      refine so_move rfl rfl rfl ?_
      refine so_nil ?_
      refine sk_round (s + 1) (show l.length - (s + 1) < l.length - s by omega) ⟨by omega, fun j d2 hj hd2 => ?_⟩ (by repeat (first | exact .nil | refine .cons rfl ?_)) rfl rfl (by repeat (first | exact List.nil_sublist _ | apply List.Sublist.cons_cons | apply List.Sublist.cons))
      by_cases e : j = s
      · subst e; rw [hc] at hd2; cases hd2; exact hno
      · exact hg j d2 (by omega) hd2
  · skip
    refine sx_region (E := E) ?_
    refine so_bin rfl rfl rfl rfl (by first | exact bin_lss_t (by omega) | exact bin_lss_f (by omega)) ?_
    refine so_then ?_
    refine sx_seq ?_
    refine sx_false rfl ?_
    refine sx_exit ?_
    refine sk_then_exit ?_
    refine sk_loop_exit ?_
    refine sk_block_exit ?_
    refine sk_then ?_
    refine sx_seq ?_
    refine sx_region (E := E) ?_
    refine so_build rfl rfl (by repeat (first | exact Opps.nil | apply Opps.cons rfl)) (by rfl) ?_
    refine so_storeA rfl (fun h => nomatch h) rfl rfl inf24 (by first | exact cellsOf_length _ _ | rfl) rfl (by repeat (first | exact .zero | apply Upd.succ)) (by first | exact cellsOf_set rfl | exact cellsOf_setr rfl | exact cellsOf_store rfl | exact store_all rfl | rfl) (by first | exact cellsOf_in rfl rfl | exact cellsOf_in rfl (cellsOf_length _ _) | exact cellsOf_le rfl | exact Nat.le_of_ble_eq_true rfl | omega) (fun h => nomatch h) ?_
    refine so_assign rfl rfl rfl ?_
    refine so_then ?_
    refine sx_ret ?_
    refine sk_return2 (.cell rfl (by first | exact ld_ownA Tryz.underlying24 rfl inf24 rfl (by repeat (first | exact List.Mem.head _ | apply List.Mem.tail)) (by first | exact cellsOf_le rfl | exact Nat.le_of_ble_eq_true rfl | decide | omega) (by first | exact cellsOf_all | exact take_all rfl | exact cellsOf_part rfl | rfl) | exact ld_dataA Tryz.underlying24 rfl inf24 rfl (by first | assumption | exact InA.add (by assumption) | exact InA.add (InA.add (by assumption))) (by assumption)) (.tmp rfl .nil)) ?_
    exact fun H hH => ⟨by rw [fnd_none fun j d h1 h2 => hg j d (by omega) h2]; rfl, hH.kept⟩

end Go.Proofs.YthnplnlhibalcaaGreatDoor
