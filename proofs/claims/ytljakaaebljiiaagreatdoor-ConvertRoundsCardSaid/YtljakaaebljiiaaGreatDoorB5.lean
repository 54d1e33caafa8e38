/-
  Walks, laid by program.
-/
import Derived.Test.YtljakaaebljiiaaGreatDoorB3
import Derived.Test.YtljakaaebljiiaaGreatDoorAM32
set_option linter.unusedVariables false
set_option linter.unusedSimpArgs false
set_option maxRecDepth 100000
namespace Go.Proofs.YtljakaaebljiiaaGreatDoor
open Go Go.AM
theorem has90 : ∃ fn, E.fn 90 = some fn := ⟨_, fn_own Tryz.func90 rfl rfl rfl⟩
theorem has91 : ∃ fn, E.fn 91 = some fn := ⟨_, fn_own Tryz.func91 rfl rfl rfl⟩
theorem has92 : ∃ fn, E.fn 92 = some fn := ⟨_, fn_own Tryz.func92 rfl rfl rfl⟩
theorem has93 : ∃ fn, E.fn 93 = some fn := ⟨_, fn_own Tryz.func93 rfl rfl rfl⟩
theorem has94 : ∃ fn, E.fn 94 = some fn := ⟨_, fn_own Tryz.func94 rfl rfl rfl⟩
theorem has95 : ∃ fn, E.fn 95 = some fn := ⟨_, fn_own Tryz.func95 rfl rfl rfl⟩
theorem has168 : ∃ fn, E.fn 168 = some fn := ⟨_, fn_own Tryz.func168 rfl rfl rfl⟩
theorem has169 : ∃ fn, E.fn 169 = some fn := ⟨_, fn_own Tryz.func169 rfl rfl rfl⟩
theorem inf28 : E.inf 28 = some ⟨1, 8, some (.int .i64 0)⟩ := by kernel_rfl
theorem inf217 : E.inf 217 = some ⟨1, 8, some (.int .u64 0)⟩ := by kernel_rfl

theorem wf64 {n : Int} (h : (Lit.int .i64 n).wf = true) : -9223372036854775808 ≤ n ∧ n ≤ 9223372036854775807 := by
  simp only [Lit.wf, Bool.and_eq_true, decide_eq_true_eq] at h
  exact h
theorem wrapU {n : Int} (h0 : 0 ≤ n) (h1 : n < 18446744073709551616) : IntKind.u64.wrap n = n := by
  have e : IntKind.u64.wrap n = n % 18446744073709551616 := rfl
  rw [e]; omega
/-- a value of 0 to 65535 -/
def unitV (v : Int) : Int := min 65535 (max v 0)
/-- the nearest of 0 to 255 -/
def to8 (v : Int) : Int := (2 * unitV v + 257) / 514
def r8 (v : Int) : Int := 257 * to8 v
theorem unitV_le (v : Int) : 0 ≤ unitV v ∧ unitV v ≤ 65535 := by unfold unitV; omega
theorem to8_le (v : Int) : 0 ≤ to8 v ∧ to8 v ≤ 255 := by have := unitV_le v; unfold to8; omega
theorem clamp_ok {S : AH} (a lo hi : Int) : XCall Tryz.prog 42 [.int .i64 a, .int .i64 lo, .int .i64 hi] S fun v H' => v = .int .i64 (min hi (max a lo)) ∧ Kept S.nx S H' := by
  refine x_enter (E := E) (n := 12) (rs := [.tmp 6]) (l := [(2, _), (1, _), (0, _)]) (fn_own Tryz.func42 rfl rfl rfl) (A0 := fun _ => False) (fun j h => h.elim) rfl ?_
  refine sx_seq ?_
  refine sx_region (E := E) ?_
  refine so_assign rfl rfl rfl ?_
  refine so_then ?_
  refine sx_seq ?_
  refine sx_region (E := E) ?_
  refine so_move rfl rfl rfl ?_
  refine so_move rfl rfl rfl ?_
  refine so_move rfl rfl rfl ?_
  refine so_max2 rfl rfl rfl rfl rfl rfl rfl ?_
  refine so_min2 rfl rfl rfl rfl rfl rfl rfl ?_
  refine so_assign rfl rfl rfl ?_
  refine so_then ?_
  refine sx_ret ?_
  refine sk_return1 (.tmp rfl .nil) ?_
  exact fun H hH => ⟨rfl, hH.kept⟩

theorem rclamp_ok {S : AH} (a lo hi : Int) : XCall Tryz.prog 93 [.int .i64 a, .int .i64 lo, .int .i64 hi] S fun v H' => v = .int .i64 (min hi (max a lo)) ∧ Kept S.nx S H' := by
  refine x_enter (E := E) (n := 12) (rs := [.tmp 6]) (l := [(2, _), (1, _), (0, _)]) (fn_own Tryz.func93 rfl rfl rfl) (A0 := fun _ => False) (fun j h => h.elim) rfl ?_
  refine sx_seq ?_
  refine sx_region (E := E) ?_
  refine so_assign rfl rfl rfl ?_
  refine so_then ?_
  refine sx_seq ?_
  refine sx_region (E := E) ?_
  refine so_move rfl rfl rfl ?_
  refine so_move rfl rfl rfl ?_
  refine so_move rfl rfl rfl ?_
  refine so_max2 rfl rfl rfl rfl rfl rfl rfl ?_
  refine so_min2 rfl rfl rfl rfl rfl rfl rfl ?_
  refine so_assign rfl rfl rfl ?_
  refine so_then ?_
  refine sx_ret ?_
  refine sk_return1 (.tmp rfl .nil) ?_
  exact fun H hH => ⟨rfl, hH.kept⟩

theorem unit_ok {S : AH} (a : Int) : XCall Tryz.prog 44 [.int .i64 a] S fun v H' => v = .int .i64 (unitV a) ∧ Kept S.nx S H' := by
  refine x_enter (E := E) (n := 5) (rs := [.tmp 2]) (l := [(0, _)]) (fn_own Tryz.func44 rfl rfl rfl) (A0 := fun _ => False) (fun j h => h.elim) rfl ?_
  refine sx_seq ?_
  refine sx_region (E := E) ?_
  refine so_assign rfl rfl rfl ?_
  refine so_then ?_
  refine sx_seq ?_
  refine sx_region (E := E) ?_
  refine so_move rfl rfl rfl ?_
  refine so_call rfl rfl (fun h => nomatch h) rfl has42 (by repeat (first | exact Opvs.nil | apply Opvs.cons rfl)) (fun H hH => clamp_ok a 0 65535) ?_
  refine so_assign rfl rfl rfl ?_
  refine so_then ?_
  refine sx_ret ?_
  refine sk_return1 (.tmp rfl .nil) ?_
  exact fun H hH => ⟨rfl, hH.kept⟩

theorem runit_ok {S : AH} (a : Int) : XCall Tryz.prog 95 [.int .i64 a] S fun v H' => v = .int .i64 (unitV a) ∧ Kept S.nx S H' := by
  refine x_enter (E := E) (n := 5) (rs := [.tmp 2]) (l := [(0, _)]) (fn_own Tryz.func95 rfl rfl rfl) (A0 := fun _ => False) (fun j h => h.elim) rfl ?_
  refine sx_seq ?_
  refine sx_region (E := E) ?_
  refine so_assign rfl rfl rfl ?_
  refine so_then ?_
  refine sx_seq ?_
  refine sx_region (E := E) ?_
  refine so_move rfl rfl rfl ?_
  refine so_call rfl rfl (fun h => nomatch h) rfl has93 (by repeat (first | exact Opvs.nil | apply Opvs.cons rfl)) (fun H hH => rclamp_ok a 0 65535) ?_
  refine so_assign rfl rfl rfl ?_
  refine so_then ?_
  refine sx_ret ?_
  refine sk_return1 (.tmp rfl .nil) ?_
  exact fun H hH => ⟨rfl, hH.kept⟩

theorem floor_ok {S : AH} {u : Int} (hu : 0 ≤ u ∧ u ≤ 65535) : XCall Tryz.prog 91 [.int .i64 u, .int .i64 257] S fun v H' => v = .int .i64 (u / 257) ∧ Kept S.nx S H' := by
  refine x_enter (E := E) (n := 31) (rs := [.tmp 4]) (l := [(1, _), (0, _)]) (fn_own Tryz.func91 rfl rfl rfl) (A0 := fun _ => False) (fun j h => h.elim) rfl ?_
  refine sx_seq ?_
  refine sx_region (E := E) ?_
  refine so_assign rfl rfl rfl ?_
  refine so_then ?_
  refine sx_seq ?_
  refine sx_seq ?_
  refine sx_region (E := E) ?_
  refine so_move rfl rfl rfl ?_
  refine so_bin rfl rfl rfl rfl (by first | exact bin_eql_t (by first | rfl | assumption | omega) | exact bin_eql_f (by first | rfl | assumption | omega)) ?_
  refine so_then ?_
  refine sx_false rfl ?_
  refine sx_skip ?_
  refine sk_then ?_
  refine sx_seq ?_
  refine sx_seq ?_
  refine sx_region (E := E) ?_
  refine so_move rfl rfl rfl ?_
  refine so_bin rfl rfl rfl rfl (by first | exact bin_eql_t (by first | rfl | assumption | omega) | exact bin_eql_f (by first | rfl | assumption | omega)) ?_
  refine so_move rfl rfl rfl ?_
  first | refine so_move rfl rfl rfl ?_ | refine so_skip rfl rfl rfl ?_
  first | refine so_bin rfl rfl rfl rfl (by first | exact bin_eql_t (by first | rfl | assumption | omega) | exact bin_eql_f (by first | rfl | assumption | omega)) ?_ | refine so_skip rfl rfl rfl ?_
  first | refine so_pick_t rfl rfl rfl rfl ?_ | refine so_pick_f rfl rfl rfl rfl ?_
  refine so_then ?_
  refine sx_false rfl ?_
  refine sx_skip ?_
  refine sk_then ?_
  refine sx_seq ?_
  refine sx_region (E := E) ?_
  refine so_move rfl rfl rfl ?_
  refine so_move rfl rfl rfl ?_
  refine so_bin rfl rfl rfl rfl (by first | exact bin_quo (c := u / 257) (by decide) (by rw [Int.tdiv_eq_ediv_of_nonneg hu.1]; exact wrap64 (by omega) (by omega))) ?_
  refine so_assign rfl rfl rfl ?_
  refine so_then ?_
  refine sx_seq ?_
  refine sx_seq ?_
  by_cases hr : u % 257 = 0
  · skip
    refine sx_region (E := E) ?_
    refine so_move rfl rfl rfl ?_
    refine so_move rfl rfl rfl ?_
    refine so_bin rfl rfl rfl rfl (by first | exact bin_rem (c := u % 257) (by decide) (Int.tmod_eq_emod_of_nonneg hu.1)) ?_
    refine so_bin rfl rfl rfl rfl (by first | exact bin_neq_f (by first | rfl | assumption | omega) | exact bin_neq_t (by first | rfl | assumption | omega)) ?_
    refine so_move rfl rfl rfl ?_
    first | refine so_move rfl rfl rfl ?_ | refine so_skip rfl rfl rfl ?_
    first | refine so_bin rfl rfl rfl rfl (by first | exact bin_lss_t (by omega) | exact bin_lss_f (by omega)) ?_ | refine so_skip rfl rfl rfl ?_
    first | refine so_move rfl rfl rfl ?_ | refine so_skip rfl rfl rfl ?_
    first | refine so_bin rfl rfl rfl rfl (by first | exact bin_lss_t (by omega) | exact bin_lss_f (by omega)) ?_ | refine so_skip rfl rfl rfl ?_
    first | refine so_bin rfl rfl rfl rfl (by first | exact bin_bneq Tryz.underlying4) ?_ | refine so_skip rfl rfl rfl ?_
    first | refine so_pick_t rfl rfl rfl rfl ?_ | refine so_pick_f rfl rfl rfl rfl ?_
    refine so_then ?_
    refine sx_false rfl ?_
    refine sx_skip ?_
    refine sk_then ?_
    refine sx_seq ?_
    refine sx_region (E := E) ?_
    refine so_move rfl rfl rfl ?_
    refine so_assign rfl rfl rfl ?_
    refine so_then ?_
    refine sx_ret ?_
    refine sk_return1 (.tmp rfl .nil) ?_
    exact fun H hH => ⟨rfl, hH.kept⟩
  · skip
    refine sx_region (E := E) ?_
    refine so_move rfl rfl rfl ?_
    refine so_move rfl rfl rfl ?_
    refine so_bin rfl rfl rfl rfl (by first | exact bin_rem (c := u % 257) (by decide) (Int.tmod_eq_emod_of_nonneg hu.1)) ?_
    refine so_bin rfl rfl rfl rfl (by first | exact bin_neq_f (by first | rfl | assumption | omega) | exact bin_neq_t (by first | rfl | assumption | omega)) ?_
    refine so_move rfl rfl rfl ?_
    first | refine so_move rfl rfl rfl ?_ | refine so_skip rfl rfl rfl ?_
    first | refine so_bin rfl rfl rfl rfl (by first | exact bin_lss_t (by omega) | exact bin_lss_f (by omega)) ?_ | refine so_skip rfl rfl rfl ?_
    first | refine so_move rfl rfl rfl ?_ | refine so_skip rfl rfl rfl ?_
    first | refine so_bin rfl rfl rfl rfl (by first | exact bin_lss_t (by omega) | exact bin_lss_f (by omega)) ?_ | refine so_skip rfl rfl rfl ?_
    first | refine so_bin rfl rfl rfl rfl (by first | exact bin_bneq Tryz.underlying4) ?_ | refine so_skip rfl rfl rfl ?_
    first | refine so_pick_t rfl rfl rfl rfl ?_ | refine so_pick_f rfl rfl rfl rfl ?_
    refine so_then ?_
    refine sx_false rfl ?_
    refine sx_skip ?_
    refine sk_then ?_
    refine sx_seq ?_
    refine sx_region (E := E) ?_
    refine so_move rfl rfl rfl ?_
    refine so_assign rfl rfl rfl ?_
    refine so_then ?_
    refine sx_ret ?_
    refine sk_return1 (.tmp rfl .nil) ?_
    exact fun H hH => ⟨rfl, hH.kept⟩

theorem div_ok {S : AH} {u : Int} (hu : 0 ≤ u ∧ u ≤ 65535) : XCall Tryz.prog 43 [.int .i64 u, .int .i64 257] S fun v H' => v = .int .i64 ((2 * u + 257) / 514) ∧ Kept S.nx S H' := by
  refine x_enter (E := E) (n := 46) (rs := [.tmp 4]) (l := [(1, _), (0, _)]) (fn_own Tryz.func43 rfl rfl rfl) (A0 := fun _ => False) (fun j h => h.elim) rfl ?_
  refine sx_seq ?_
  refine sx_region (E := E) ?_
  refine so_assign rfl rfl rfl ?_
  refine so_then ?_
  refine sx_seq ?_
  refine sx_seq ?_
  refine sx_region (E := E) ?_
  refine so_move rfl rfl rfl ?_
  refine so_bin rfl rfl rfl rfl (by first | exact bin_eql_t (by first | rfl | assumption | omega) | exact bin_eql_f (by first | rfl | assumption | omega)) ?_
  refine so_then ?_
  refine sx_false rfl ?_
  refine sx_skip ?_
  refine sk_then ?_
  refine sx_seq ?_
  refine sx_seq ?_
  refine sx_region (E := E) ?_
  refine so_move rfl rfl rfl ?_
  refine so_bin rfl rfl rfl rfl (by first | exact bin_eql_t (by first | rfl | assumption | omega) | exact bin_eql_f (by first | rfl | assumption | omega)) ?_
  refine so_move rfl rfl rfl ?_
  first | refine so_move rfl rfl rfl ?_ | refine so_skip rfl rfl rfl ?_
  first | refine so_bin rfl rfl rfl rfl (by first | exact bin_eql_t (by first | rfl | assumption | omega) | exact bin_eql_f (by first | rfl | assumption | omega)) ?_ | refine so_skip rfl rfl rfl ?_
  first | refine so_pick_t rfl rfl rfl rfl ?_ | refine so_pick_f rfl rfl rfl rfl ?_
  refine so_then ?_
  refine sx_false rfl ?_
  refine sx_skip ?_
  refine sk_then ?_
  refine sx_seq ?_
  refine sx_region (E := E) ?_
  refine so_move rfl rfl rfl ?_
  refine so_move rfl rfl rfl ?_
  refine so_call rfl rfl (fun h => nomatch h) rfl has91 (by repeat (first | exact Opvs.nil | apply Opvs.cons rfl)) (fun H hH => floor_ok hu) ?_
  refine so_assign rfl rfl rfl ?_
  refine so_then ?_
  refine sx_seq ?_
  refine sx_region (E := E) ?_
  refine so_move rfl rfl rfl ?_
  refine so_move rfl rfl rfl ?_
  refine so_move rfl rfl rfl ?_
  refine so_bin rfl rfl rfl rfl (by first | exact bin_mul (c := 257 * (u / 257)) (wrap64 (by omega) (by omega))) ?_
  refine so_bin rfl rfl rfl rfl (by first | exact bin_decr (by omega) | exact bin_sub (wrap64 (by omega) (by omega)) | exact bin_sub rfl) ?_
  refine so_assign rfl rfl rfl ?_
  refine so_then ?_
  refine sx_seq ?_
  refine sx_seq ?_
  rcases Int.lt_or_le (u - 257 * (u / 257)) (257 - (u - 257 * (u / 257))) with hr | hr
  · skip
    refine sx_region (E := E) ?_
    refine so_move rfl rfl rfl ?_
    refine so_bin rfl rfl rfl rfl (by first | exact bin_gtr_t (by omega) | exact bin_gtr_f (by omega)) ?_
    refine so_move rfl rfl rfl ?_
    first | refine so_move rfl rfl rfl ?_ | refine so_skip rfl rfl rfl ?_
    first | refine so_move rfl rfl rfl ?_ | refine so_skip rfl rfl rfl ?_
    first | refine so_move rfl rfl rfl ?_ | refine so_skip rfl rfl rfl ?_
    first | refine so_bin rfl rfl rfl rfl (by first | exact bin_decr (by omega) | exact bin_sub (wrap64 (by omega) (by omega)) | exact bin_sub rfl) ?_ | refine so_skip rfl rfl rfl ?_
    first | refine so_bin rfl rfl rfl rfl (by first | exact bin_geq_t (by omega) | exact bin_geq_f (by omega)) ?_ | refine so_skip rfl rfl rfl ?_
    first | refine so_pick_t rfl rfl rfl rfl ?_ | refine so_pick_f rfl rfl rfl rfl ?_
    refine so_move rfl rfl rfl ?_
    first | refine so_move rfl rfl rfl ?_ | refine so_skip rfl rfl rfl ?_
    first | refine so_bin rfl rfl rfl rfl (by first | exact bin_lss_t (by omega) | exact bin_lss_f (by omega)) ?_ | refine so_skip rfl rfl rfl ?_
    first | refine so_move rfl rfl rfl ?_ | refine so_skip rfl rfl rfl ?_
    first | refine so_move rfl rfl rfl ?_ | refine so_skip rfl rfl rfl ?_
    first | refine so_move rfl rfl rfl ?_ | refine so_skip rfl rfl rfl ?_
    first | refine so_move rfl rfl rfl ?_ | refine so_skip rfl rfl rfl ?_
    first | refine so_bin rfl rfl rfl rfl (by first | exact bin_decr (by omega) | exact bin_sub (wrap64 (by omega) (by omega)) | exact bin_sub rfl) ?_ | refine so_skip rfl rfl rfl ?_
    first | refine so_bin rfl rfl rfl rfl (by first | exact bin_leq_t (by omega) | exact bin_leq_f (by omega)) ?_ | refine so_skip rfl rfl rfl ?_
    first | refine so_pick_t rfl rfl rfl rfl ?_ | refine so_pick_f rfl rfl rfl rfl ?_ | refine so_skip rfl rfl rfl ?_
    first | refine so_pick_t rfl rfl rfl rfl ?_ | refine so_pick_f rfl rfl rfl rfl ?_
    refine so_then ?_
    refine sx_false rfl ?_
    refine sx_skip ?_
    refine sk_then ?_
    refine sx_seq ?_
    refine sx_region (E := E) ?_
    refine so_move rfl rfl rfl ?_
    refine so_assign rfl rfl rfl ?_
    refine so_then ?_
    refine sx_ret ?_
    refine sk_return1 (.tmp rfl .nil) ?_
    exact fun H hH => ⟨by congr 1; omega, hH.kept⟩
  · skip
    refine sx_region (E := E) ?_
    refine so_move rfl rfl rfl ?_
    refine so_bin rfl rfl rfl rfl (by first | exact bin_gtr_t (by omega) | exact bin_gtr_f (by omega)) ?_
    refine so_move rfl rfl rfl ?_
    first | refine so_move rfl rfl rfl ?_ | refine so_skip rfl rfl rfl ?_
    first | refine so_move rfl rfl rfl ?_ | refine so_skip rfl rfl rfl ?_
    first | refine so_move rfl rfl rfl ?_ | refine so_skip rfl rfl rfl ?_
    first | refine so_bin rfl rfl rfl rfl (by first | exact bin_decr (by omega) | exact bin_sub (wrap64 (by omega) (by omega)) | exact bin_sub rfl) ?_ | refine so_skip rfl rfl rfl ?_
    first | refine so_bin rfl rfl rfl rfl (by first | exact bin_geq_t (by omega) | exact bin_geq_f (by omega)) ?_ | refine so_skip rfl rfl rfl ?_
    first | refine so_pick_t rfl rfl rfl rfl ?_ | refine so_pick_f rfl rfl rfl rfl ?_
    refine so_move rfl rfl rfl ?_
    first | refine so_move rfl rfl rfl ?_ | refine so_skip rfl rfl rfl ?_
    first | refine so_bin rfl rfl rfl rfl (by first | exact bin_lss_t (by omega) | exact bin_lss_f (by omega)) ?_ | refine so_skip rfl rfl rfl ?_
    first | refine so_move rfl rfl rfl ?_ | refine so_skip rfl rfl rfl ?_
    first | refine so_move rfl rfl rfl ?_ | refine so_skip rfl rfl rfl ?_
    first | refine so_move rfl rfl rfl ?_ | refine so_skip rfl rfl rfl ?_
    first | refine so_move rfl rfl rfl ?_ | refine so_skip rfl rfl rfl ?_
    first | refine so_bin rfl rfl rfl rfl (by first | exact bin_decr (by omega) | exact bin_sub (wrap64 (by omega) (by omega)) | exact bin_sub rfl) ?_ | refine so_skip rfl rfl rfl ?_
    first | refine so_bin rfl rfl rfl rfl (by first | exact bin_leq_t (by omega) | exact bin_leq_f (by omega)) ?_ | refine so_skip rfl rfl rfl ?_
    first | refine so_pick_t rfl rfl rfl rfl ?_ | refine so_pick_f rfl rfl rfl rfl ?_ | refine so_skip rfl rfl rfl ?_
    first | refine so_pick_t rfl rfl rfl rfl ?_ | refine so_pick_f rfl rfl rfl rfl ?_
    refine so_then ?_
    refine sx_true rfl ?_
    refine sx_region (E := E) ?_
    refine so_move rfl rfl rfl ?_
    refine so_bin rfl rfl rfl rfl (by first | exact bin_incr (by omega) | exact bin_add (wrap64 (by omega) (by omega)) | exact bin_add rfl) ?_
    refine so_assign rfl rfl rfl ?_
    refine so_then ?_
    refine sx_seq ?_
    refine sx_region (E := E) ?_
    refine so_move rfl rfl rfl ?_
    refine so_assign rfl rfl rfl ?_
    refine so_then ?_
    refine sx_ret ?_
    refine sk_return1 (.tmp rfl .nil) ?_
    exact fun H hH => ⟨by congr 1; omega, hH.kept⟩

theorem rfloor_ok {S : AH} {u : Int} (hu : 0 ≤ u ∧ u ≤ 65535) : XCall Tryz.prog 168 [.int .i64 u, .int .i64 257] S fun v H' => v = .int .i64 (u / 257) ∧ Kept S.nx S H' := by
  refine x_enter (E := E) (n := 33) (rs := [.tmp 4]) (l := [(1, _), (0, _)]) (fn_own Tryz.func168 rfl rfl rfl) (A0 := fun _ => False) (fun j h => h.elim) rfl ?_
  refine sx_seq ?_
  refine sx_region (E := E) ?_
  refine so_assign rfl rfl rfl ?_
  refine so_then ?_
  refine sx_seq ?_
  refine sx_seq ?_
  refine sx_region (E := E) ?_
  refine so_move rfl rfl rfl ?_
  refine so_bin rfl rfl rfl rfl (by first | exact bin_eql_t (by first | rfl | assumption | omega) | exact bin_eql_f (by first | rfl | assumption | omega)) ?_
  refine so_then ?_
  refine sx_false rfl ?_
  refine sx_skip ?_
  refine sk_then ?_
  refine sx_seq ?_
  refine sx_seq ?_
  refine sx_region (E := E) ?_
  refine so_move rfl rfl rfl ?_
  refine so_bin rfl rfl rfl rfl (by first | exact bin_eql_t (by first | rfl | assumption | omega) | exact bin_eql_f (by first | rfl | assumption | omega)) ?_
  refine so_move rfl rfl rfl ?_
  first | refine so_move rfl rfl rfl ?_ | refine so_skip rfl rfl rfl ?_
  first | refine so_bin rfl rfl rfl rfl (by first | exact bin_eql_t (by first | rfl | assumption | omega) | exact bin_eql_f (by first | rfl | assumption | omega)) ?_ | refine so_skip rfl rfl rfl ?_
  first | refine so_pick_t rfl rfl rfl rfl ?_ | refine so_pick_f rfl rfl rfl rfl ?_
  refine so_then ?_
  refine sx_false rfl ?_
  refine sx_skip ?_
  refine sk_then ?_
  refine sx_seq ?_
  refine sx_draw (E := E) mixed [] _ (List.Sublist.refl _) (by kernel_rfl) (by kernel_rfl) (by decide) ?_
  refine so_move rfl rfl rfl ?_
  refine so_move rfl rfl rfl ?_
  refine so_bin rfl rfl rfl rfl (by first | exact bin_quo (c := u / 257) (by decide) (by rw [Int.tdiv_eq_ediv_of_nonneg hu.1]; exact wrap64 (by omega) (by omega))) ?_
  refine so_move rfl rfl rfl ?_
  refine so_move rfl rfl rfl ?_
  refine so_bin rfl rfl rfl rfl (by first | exact bin_rem (c := u % 257) (by decide) (Int.tmod_eq_emod_of_nonneg hu.1)) ?_
  refine so_assign rfl rfl rfl ?_
  refine so_assign rfl rfl rfl ?_
  refine so_then ?_
  refine sx_seq ?_
  refine sx_seq ?_
  by_cases hr : u % 257 = 0
  · skip
    refine sx_region (E := E) ?_
    refine so_move rfl rfl rfl ?_
    refine so_bin rfl rfl rfl rfl (by first | exact bin_neq_f (by first | rfl | assumption | omega) | exact bin_neq_t (by first | rfl | assumption | omega)) ?_
    refine so_move rfl rfl rfl ?_
    first | refine so_move rfl rfl rfl ?_ | refine so_skip rfl rfl rfl ?_
    first | refine so_bin rfl rfl rfl rfl (by first | exact bin_lss_t (by omega) | exact bin_lss_f (by omega)) ?_ | refine so_skip rfl rfl rfl ?_
    first | refine so_move rfl rfl rfl ?_ | refine so_skip rfl rfl rfl ?_
    first | refine so_bin rfl rfl rfl rfl (by first | exact bin_lss_t (by omega) | exact bin_lss_f (by omega)) ?_ | refine so_skip rfl rfl rfl ?_
    first | refine so_bin rfl rfl rfl rfl (by first | exact bin_bneq Tryz.underlying4) ?_ | refine so_skip rfl rfl rfl ?_
    first | refine so_pick_t rfl rfl rfl rfl ?_ | refine so_pick_f rfl rfl rfl rfl ?_
    refine so_then ?_
    refine sx_false rfl ?_
    refine sx_skip ?_
    refine sk_then ?_
    refine sx_seq ?_
    refine sx_region (E := E) ?_
    refine so_move rfl rfl rfl ?_
    refine so_assign rfl rfl rfl ?_
    refine so_then ?_
    refine sx_ret ?_
    refine sk_return1 (.tmp rfl .nil) ?_
    exact fun H hH => ⟨rfl, hH.kept⟩
  · skip
    refine sx_region (E := E) ?_
    refine so_move rfl rfl rfl ?_
    refine so_bin rfl rfl rfl rfl (by first | exact bin_neq_f (by first | rfl | assumption | omega) | exact bin_neq_t (by first | rfl | assumption | omega)) ?_
    refine so_move rfl rfl rfl ?_
    first | refine so_move rfl rfl rfl ?_ | refine so_skip rfl rfl rfl ?_
    first | refine so_bin rfl rfl rfl rfl (by first | exact bin_lss_t (by omega) | exact bin_lss_f (by omega)) ?_ | refine so_skip rfl rfl rfl ?_
    first | refine so_move rfl rfl rfl ?_ | refine so_skip rfl rfl rfl ?_
    first | refine so_bin rfl rfl rfl rfl (by first | exact bin_lss_t (by omega) | exact bin_lss_f (by omega)) ?_ | refine so_skip rfl rfl rfl ?_
    first | refine so_bin rfl rfl rfl rfl (by first | exact bin_bneq Tryz.underlying4) ?_ | refine so_skip rfl rfl rfl ?_
    first | refine so_pick_t rfl rfl rfl rfl ?_ | refine so_pick_f rfl rfl rfl rfl ?_
    refine so_then ?_
    refine sx_false rfl ?_
    refine sx_skip ?_
    refine sk_then ?_
    refine sx_seq ?_
    refine sx_region (E := E) ?_
    refine so_move rfl rfl rfl ?_
    refine so_assign rfl rfl rfl ?_
    refine so_then ?_
    refine sx_ret ?_
    refine sk_return1 (.tmp rfl .nil) ?_
    exact fun H hH => ⟨rfl, hH.kept⟩

theorem abs_ok {S : AH} {u : Int} (hu : 0 ≤ u ∧ u ≤ 65535) : XCall Tryz.prog 169 [.int .i64 u] S fun v H' => v = .int .u64 u ∧ Kept S.nx S H' := by
  refine x_enter (E := E) (n := 10) (rs := [.tmp 2]) (l := [(0, _)]) (fn_own Tryz.func169 rfl rfl rfl) (A0 := fun _ => False) (fun j h => h.elim) rfl ?_
  refine sx_seq ?_
  refine sx_region (E := E) ?_
  refine so_assign rfl rfl rfl ?_
  refine so_then ?_
  refine sx_seq ?_
  refine sx_seq ?_
  refine sx_region (E := E) ?_
  refine so_move rfl rfl rfl ?_
  refine so_bin rfl rfl rfl rfl (by first | exact bin_lss_t (by omega) | exact bin_lss_f (by omega)) ?_
  refine so_then ?_
  refine sx_false rfl ?_
  refine sx_skip ?_
  refine sk_then ?_
  refine sx_seq ?_
  refine sx_region (E := E) ?_
  refine so_move rfl rfl rfl ?_
  refine so_convI rfl rfl rfl Tryz.underlying3 Tryz.underlying217 (wrapU (by omega) (by omega)) ?_
  refine so_assign rfl rfl rfl ?_
  refine so_then ?_
  refine sx_ret ?_
  refine sk_return1 (.tmp rfl .nil) ?_
  exact fun H hH => ⟨rfl, hH.kept⟩

theorem rdiv_ok {S : AH} {u : Int} (hu : 0 ≤ u ∧ u ≤ 65535) : XCall Tryz.prog 94 [.int .i64 u, .int .i64 257] S fun v H' => v = .int .i64 ((2 * u + 257) / 514) ∧ Kept S.nx S H' := by
  refine x_enter (E := E) (n := 34) (rs := [.tmp 4]) (l := [(1, _), (0, _)]) (fn_own Tryz.func94 rfl rfl rfl) (A0 := fun _ => False) (fun j h => h.elim) rfl ?_
  refine sx_seq ?_
  refine sx_region (E := E) ?_
  refine so_assign rfl rfl rfl ?_
  refine so_then ?_
  refine sx_seq ?_
  refine sx_seq ?_
  refine sx_region (E := E) ?_
  refine so_move rfl rfl rfl ?_
  refine so_bin rfl rfl rfl rfl (by first | exact bin_eql_t (by first | rfl | assumption | omega) | exact bin_eql_f (by first | rfl | assumption | omega)) ?_
  refine so_then ?_
  refine sx_false rfl ?_
  refine sx_skip ?_
  refine sk_then ?_
  refine sx_seq ?_
  refine sx_region (E := E) ?_
  refine so_move rfl rfl rfl ?_
  refine so_move rfl rfl rfl ?_
  refine so_call rfl rfl (fun h => nomatch h) rfl has168 (by repeat (first | exact Opvs.nil | apply Opvs.cons rfl)) (fun H hH => rfloor_ok hu) ?_
  refine so_assign rfl rfl rfl ?_
  refine so_then ?_
  refine sx_seq ?_
  refine sx_seq ?_
  refine sx_region (E := E) ?_
  refine so_move rfl rfl rfl ?_
  refine so_bin rfl rfl rfl rfl (by first | exact bin_eql_t (by first | rfl | assumption | omega) | exact bin_eql_f (by first | rfl | assumption | omega)) ?_
  refine so_move rfl rfl rfl ?_
  first | refine so_move rfl rfl rfl ?_ | refine so_skip rfl rfl rfl ?_
  first | refine so_bin rfl rfl rfl rfl (by first | exact bin_eql_t (by first | rfl | assumption | omega) | exact bin_eql_f (by first | rfl | assumption | omega)) ?_ | refine so_skip rfl rfl rfl ?_
  first | refine so_pick_t rfl rfl rfl rfl ?_ | refine so_pick_f rfl rfl rfl rfl ?_
  refine so_then ?_
  refine sx_false rfl ?_
  refine sx_skip ?_
  refine sk_then ?_
  refine sx_seq ?_
  refine sx_region (E := E) ?_
  refine so_move rfl rfl rfl ?_
  refine so_move rfl rfl rfl ?_
  refine so_move rfl rfl rfl ?_
  refine so_bin rfl rfl rfl rfl (by first | exact bin_mul (c := 257 * (u / 257)) (wrap64 (by omega) (by omega))) ?_
  refine so_bin rfl rfl rfl rfl (by first | exact bin_decr (by omega) | exact bin_sub (wrap64 (by omega) (by omega)) | exact bin_sub rfl) ?_
  refine so_call rfl rfl (fun h => nomatch h) rfl has169 (by repeat (first | exact Opvs.nil | apply Opvs.cons rfl)) (fun H hH => abs_ok (by omega)) ?_
  refine so_assign rfl rfl rfl ?_
  refine so_then ?_
  refine sx_seq ?_
  refine sx_seq ?_
  rcases Int.lt_or_le (u - 257 * (u / 257)) (257 - (u - 257 * (u / 257))) with hr | hr
  · skip
    refine sx_region (E := E) ?_
    refine so_move rfl rfl rfl ?_
    refine so_move rfl rfl rfl ?_
    refine so_call rfl rfl (fun h => nomatch h) rfl has169 (by repeat (first | exact Opvs.nil | apply Opvs.cons rfl)) (fun H hH => abs_ok (by omega)) ?_
    refine so_move rfl rfl rfl ?_
    refine so_bin rfl rfl rfl rfl (by first | exact bin_sub (c := 257 - (u - 257 * (u / 257))) (wrapU (by omega) (by omega)) | exact bin_decr (by omega) | exact bin_sub (wrap64 (by omega) (by omega)) | exact bin_sub rfl) ?_
    refine so_bin rfl rfl rfl rfl (by first | exact bin_geq_t (by omega) | exact bin_geq_f (by omega)) ?_
    refine so_then ?_
    refine sx_false rfl ?_
    refine sx_skip ?_
    refine sk_then ?_
    refine sx_seq ?_
    refine sx_region (E := E) ?_
    refine so_move rfl rfl rfl ?_
    refine so_assign rfl rfl rfl ?_
    refine so_then ?_
    refine sx_ret ?_
    refine sk_return1 (.tmp rfl .nil) ?_
    exact fun H hH => ⟨by congr 1; omega, hH.kept⟩
  · skip
    refine sx_region (E := E) ?_
    refine so_move rfl rfl rfl ?_
    refine so_move rfl rfl rfl ?_
    refine so_call rfl rfl (fun h => nomatch h) rfl has169 (by repeat (first | exact Opvs.nil | apply Opvs.cons rfl)) (fun H hH => abs_ok (by omega)) ?_
    refine so_move rfl rfl rfl ?_
    refine so_bin rfl rfl rfl rfl (by first | exact bin_sub (c := 257 - (u - 257 * (u / 257))) (wrapU (by omega) (by omega)) | exact bin_decr (by omega) | exact bin_sub (wrap64 (by omega) (by omega)) | exact bin_sub rfl) ?_
    refine so_bin rfl rfl rfl rfl (by first | exact bin_geq_t (by omega) | exact bin_geq_f (by omega)) ?_
    refine so_then ?_
    refine sx_true rfl ?_
    refine sx_seq ?_
    refine sx_region (E := E) ?_
    refine so_move rfl rfl rfl ?_
    refine so_bin rfl rfl rfl rfl (by first | exact bin_incr (by omega) | exact bin_add (wrap64 (by omega) (by omega)) | exact bin_add rfl) ?_
    refine so_assign rfl rfl rfl ?_
    refine so_then ?_
    refine sx_ret ?_
    refine sk_then_ret ?_
    refine sk_return1 (.tmp rfl .nil) ?_
    exact fun H hH => ⟨by congr 1; omega, hH.kept⟩

theorem to8_ok {S : AH} (a : Int) : XCall Tryz.prog 24 [.int .i64 a] S fun v H' => v = .int .i64 (to8 a) ∧ Kept S.nx S H' := by
  refine x_enter (E := E) (n := 6) (rs := [.tmp 2]) (l := [(0, _)]) (fn_own Tryz.func24 rfl rfl rfl) (A0 := fun _ => False) (fun j h => h.elim) rfl ?_
  refine sx_seq ?_
  refine sx_region (E := E) ?_
  refine so_assign rfl rfl rfl ?_
  refine so_then ?_
  refine sx_seq ?_
  refine sx_region (E := E) ?_
  refine so_move rfl rfl rfl ?_
  refine so_call rfl rfl (fun h => nomatch h) rfl has44 (by repeat (first | exact Opvs.nil | apply Opvs.cons rfl)) (fun H hH => unit_ok a) ?_
  refine so_call rfl rfl (fun h => nomatch h) rfl has43 (by repeat (first | exact Opvs.nil | apply Opvs.cons rfl)) (fun H hH => div_ok (unitV_le a)) ?_
  refine so_assign rfl rfl rfl ?_
  refine so_then ?_
  refine sx_ret ?_
  refine sk_return1 (.tmp rfl .nil) ?_
  exact fun H hH => ⟨rfl, hH.kept⟩

theorem rto8_ok {S : AH} (a : Int) : XCall Tryz.prog 47 [.int .i64 a] S fun v H' => v = .int .i64 (to8 a) ∧ Kept S.nx S H' := by
  refine x_enter (E := E) (n := 6) (rs := [.tmp 2]) (l := [(0, _)]) (fn_own Tryz.func47 rfl rfl rfl) (A0 := fun _ => False) (fun j h => h.elim) rfl ?_
  refine sx_seq ?_
  refine sx_region (E := E) ?_
  refine so_assign rfl rfl rfl ?_
  refine so_then ?_
  refine sx_seq ?_
  refine sx_region (E := E) ?_
  refine so_move rfl rfl rfl ?_
  refine so_call rfl rfl (fun h => nomatch h) rfl has95 (by repeat (first | exact Opvs.nil | apply Opvs.cons rfl)) (fun H hH => runit_ok a) ?_
  refine so_call rfl rfl (fun h => nomatch h) rfl has94 (by repeat (first | exact Opvs.nil | apply Opvs.cons rfl)) (fun H hH => rdiv_ok (unitV_le a)) ?_
  refine so_assign rfl rfl rfl ?_
  refine so_then ?_
  refine sx_ret ?_
  refine sk_return1 (.tmp rfl .nil) ?_
  exact fun H hH => ⟨rfl, hH.kept⟩

theorem from8_ok {S : AH} {t : Int} (ht : 0 ≤ t ∧ t ≤ 255) : XCall Tryz.prog 23 [.int .i64 t] S fun v H' => v = .int .i64 (257 * t) ∧ Kept S.nx S H' := by
  refine x_enter (E := E) (n := 6) (rs := [.tmp 2]) (l := [(0, _)]) (fn_own Tryz.func23 rfl rfl rfl) (A0 := fun _ => False) (fun j h => h.elim) rfl ?_
  refine sx_seq ?_
  refine sx_region (E := E) ?_
  refine so_assign rfl rfl rfl ?_
  refine so_then ?_
  refine sx_seq ?_
  refine sx_region (E := E) ?_
  refine so_move rfl rfl rfl ?_
  refine so_call rfl rfl (fun h => nomatch h) rfl has42 (by repeat (first | exact Opvs.nil | apply Opvs.cons rfl)) (fun H hH => (clamp_ok t 0 255).i (show min 255 (max t 0) = t by omega)) ?_
  refine so_bin rfl rfl rfl rfl (by first | exact bin_mul (wrap64 (by omega) (by omega))) ?_
  refine so_assign rfl rfl rfl ?_
  refine so_then ?_
  refine sx_ret ?_
  refine sk_return1 (.tmp rfl .nil) ?_
  exact fun H hH => ⟨rfl, hH.kept⟩

theorem rfrom8_ok {S : AH} {t : Int} (ht : 0 ≤ t ∧ t ≤ 255) : XCall Tryz.prog 46 [.int .i64 t] S fun v H' => v = .int .i64 (257 * t) ∧ Kept S.nx S H' := by
  refine x_enter (E := E) (n := 6) (rs := [.tmp 2]) (l := [(0, _)]) (fn_own Tryz.func46 rfl rfl rfl) (A0 := fun _ => False) (fun j h => h.elim) rfl ?_
  refine sx_seq ?_
  refine sx_region (E := E) ?_
  refine so_assign rfl rfl rfl ?_
  refine so_then ?_
  refine sx_seq ?_
  refine sx_region (E := E) ?_
  refine so_move rfl rfl rfl ?_
  refine so_call rfl rfl (fun h => nomatch h) rfl has93 (by repeat (first | exact Opvs.nil | apply Opvs.cons rfl)) (fun H hH => (rclamp_ok t 0 255).i (show min 255 (max t 0) = t by omega)) ?_
  refine so_bin rfl rfl rfl rfl (by first | exact bin_mul (wrap64 (by omega) (by omega))) ?_
  refine so_assign rfl rfl rfl ?_
  refine so_then ?_
  refine sx_ret ?_
  refine sk_return1 (.tmp rfl .nil) ?_
  exact fun H hH => ⟨rfl, hH.kept⟩

theorem r8_ok {S : AH} (a : Int) : XCall Tryz.prog 22 [.int .i64 a] S fun v H' => v = .int .i64 (r8 a) ∧ Kept S.nx S H' := by
  refine x_enter (E := E) (n := 6) (rs := [.tmp 2]) (l := [(0, _)]) (fn_own Tryz.func22 rfl rfl rfl) (A0 := fun _ => False) (fun j h => h.elim) rfl ?_
  refine sx_seq ?_
  refine sx_region (E := E) ?_
  refine so_assign rfl rfl rfl ?_
  refine so_then ?_
  refine sx_seq ?_
  refine sx_region (E := E) ?_
  refine so_move rfl rfl rfl ?_
  refine so_call rfl rfl (fun h => nomatch h) rfl has24 (by repeat (first | exact Opvs.nil | apply Opvs.cons rfl)) (fun H hH => to8_ok a) ?_
  refine so_call rfl rfl (fun h => nomatch h) rfl has23 (by repeat (first | exact Opvs.nil | apply Opvs.cons rfl)) (fun H hH => from8_ok (to8_le a)) ?_
  refine so_assign rfl rfl rfl ?_
  refine so_then ?_
  refine sx_ret ?_
  refine sk_return1 (.tmp rfl .nil) ?_
  exact fun H hH => ⟨rfl, hH.kept⟩

theorem eight_ok {S : AH} (a : Int) : XCall Tryz.prog 26 [.int .i64 a] S fun v H' => v = .int .i64 (r8 a) ∧ Kept S.nx S H' := by
  refine x_enter (E := E) (n := 6) (rs := [.tmp 2]) (l := [(0, _)]) (fn_own Tryz.func26 rfl rfl rfl) (A0 := fun _ => False) (fun j h => h.elim) rfl ?_
  refine sx_seq ?_
  refine sx_region (E := E) ?_
  refine so_assign rfl rfl rfl ?_
  refine so_then ?_
  refine sx_seq ?_
  refine sx_region (E := E) ?_
  refine so_move rfl rfl rfl ?_
  refine so_call rfl rfl (fun h => nomatch h) rfl has47 (by repeat (first | exact Opvs.nil | apply Opvs.cons rfl)) (fun H hH => rto8_ok a) ?_
  refine so_call rfl rfl (fun h => nomatch h) rfl has46 (by repeat (first | exact Opvs.nil | apply Opvs.cons rfl)) (fun H hH => rfrom8_ok (to8_le a)) ?_
  refine so_assign rfl rfl rfl ?_
  refine so_then ?_
  refine sx_ret ?_
  refine sk_return1 (.tmp rfl .nil) ?_
  exact fun H hH => ⟨rfl, hH.kept⟩

end Go.Proofs.YtljakaaebljiiaaGreatDoor
