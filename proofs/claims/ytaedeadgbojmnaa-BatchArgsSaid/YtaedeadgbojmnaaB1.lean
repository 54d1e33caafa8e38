/-
  Walks, laid by program.
-/
import Derived.Test.YtaedeadgbojmnaaB0
set_option linter.unusedVariables false
set_option linter.unusedSimpArgs false
set_option maxRecDepth 100000
namespace Go.Proofs.Ytaedeadgbojmnaa
open Go Go.AM
theorem sameKnots_ok {S : AH} {A : Nat → Prop} (hA : ∀ j, A j → j < S.nx) {x y : Value} {c : CT} (hx : CellA A S (.row 16 [.int .i64, .int .i64]) x c) (hy : CellA A S (.row 16 [.int .i64, .int .i64]) y c) : XCall Try.prog 43 [x, y] S fun v H' => v = .bool true ∧ Kept S.nx S H' := by
  obtain ⟨l, ax, cx, rfl, rfl, rx⟩ := hx.rowD
  obtain ⟨l2, ay, cy, e2, rfl, ry⟩ := hy.rowD
  cases e2
  have hb := rx.len
  refine x_enter (E := E) (n := 26) (rs := [.tmp 4]) (l := [(1, _), (0, _)]) (fn_own Try.func43 rfl rfl rfl) hA rfl ?_
  refine sx_seq ?_
  refine sx_region (E := E) ?_
  refine so_assign rfl rfl rfl ?_
  refine so_then ?_
  refine sx_seq ?_
  refine sx_seq ?_
  refine sx_region (E := E) ?_
  refine so_move rfl rfl rfl ?_
  refine so_lenL rfl rfl rfl rfl rfl rfl Try.underlying100 ?_
  refine so_move rfl rfl rfl ?_
  refine so_lenL rfl rfl rfl rfl rfl rfl Try.underlying100 ?_
  refine so_bin rfl rfl rfl rfl (by first | exact bin_neq_f (by first | rfl | assumption | omega) | exact bin_neq_t (by first | rfl | assumption | omega)) ?_
  refine so_then ?_
  refine sx_false rfl ?_
  refine sx_skip ?_
  refine sk_then ?_
  refine sx_seq ?_
  refine sx_seq ?_
  refine sx_region (E := E) ?_
  refine so_assign rfl rfl rfl ?_
  refine so_then ?_
  refine sx_block ?_
  refine sx_loop (σ := Nat) (fun k => l.length - k) (fun k => [(0, .slice ax l.length cx), (1, .slice ay l.length cy), (5, .int .i64 ((k : Nat) : Int))]) (fun _ => S) (fun _ => A) (fun _ => []) (fun k => k ≤ l.length) (0) (Nat.zero_le _) (by repeat (first | exact .nil | refine .cons rfl ?_)) rfl rfl (by repeat (first | exact List.nil_sublist _ | apply List.Sublist.cons_cons | apply List.Sublist.cons)) ?_
  intro s hJ t1
  replace hJ : s ≤ l.length := hJ
  refine sx_seq ?_
  refine sx_seq ?_
  rcases Nat.lt_or_ge s l.length with hk | hk
  · skip
    obtain ⟨px, xs, c, rfl, ix, hc, lx, kx⟩ := rx.at' s hk
    obtain ⟨py, ys, c2, rfl, iy, hc2, ly, ky⟩ := ry.at' s hk
    rw [hc] at hc2; cases hc2
    refine sx_region (E := E) ?_
    refine so_move rfl rfl rfl ?_
    refine so_move rfl rfl rfl ?_
    refine so_lenL rfl rfl rfl rfl rfl rfl Try.underlying100 ?_
    refine so_bin rfl rfl rfl rfl (by first | exact bin_lss_t (by omega) | exact bin_lss_f (by omega)) ?_
    refine so_then ?_
    refine sx_true rfl ?_
    refine sx_skip ?_
    refine sk_then ?_
    refine sx_seq ?_
    refine sx_block ?_
    refine sx_seq ?_
    refine sx_draw (E := E) mixed [] _ (List.Sublist.refl _) (by kernel_rfl) (by kernel_rfl) (by decide) ?_
    refine so_move rfl rfl rfl ?_
    refine so_move rfl rfl rfl ?_
    first | refine so_indexO rfl rfl rfl rfl Try.underlying100 inf104 rfl (by omega) rfl ?_ | refine so_index rfl rfl rfl rfl Try.underlying100 inf104 rfl (by omega) ?_
    refine so_load rfl rfl rfl (by first | exact ld_ownA Try.underlying104 rfl inf104 rfl (by repeat (first | exact List.Mem.head _ | apply List.Mem.tail)) (by first | exact cellsOf_le rfl | decide | omega) (by first | exact cellsOf_all | exact take_all rfl | exact cellsOf_part rfl | rfl) | exact ld_dataA Try.underlying104 rfl inf104 rfl (by first | assumption | exact InA.add (by assumption) | exact InA.add (InA.add (by assumption))) (by assumption)) ?_
    refine so_move rfl rfl rfl ?_
    refine so_move rfl rfl rfl ?_
    first | refine so_indexO rfl rfl rfl rfl Try.underlying100 inf104 rfl (by omega) rfl ?_ | refine so_index rfl rfl rfl rfl Try.underlying100 inf104 rfl (by omega) ?_
    refine so_load rfl rfl rfl (by first | exact ld_ownA Try.underlying104 rfl inf104 rfl (by repeat (first | exact List.Mem.head _ | apply List.Mem.tail)) (by first | exact cellsOf_le rfl | decide | omega) (by first | exact cellsOf_all | exact take_all rfl | exact cellsOf_part rfl | rfl) | exact ld_dataA Try.underlying104 rfl inf104 rfl (by first | assumption | exact InA.add (by assumption) | exact InA.add (InA.add (by assumption))) (by assumption)) ?_
    refine so_bin rfl rfl rfl rfl (by first | exact (bin_aggsame Try.underlying104 rfl (by kernel_rfl) rfl kx ky).2) ?_
    refine so_then ?_
    refine sx_false rfl ?_
    refine sx_skip ?_
    refine sk_block ?_
    refine sk_then ?_
    refine sx_region (E := E) ?_
    refine so_move rfl rfl rfl ?_
    refine so_bin rfl rfl rfl rfl (by first | exact bin_incr (by omega) | exact bin_add (wrap64 (by omega) (by omega)) | exact bin_add rfl) ?_
    refine so_assign rfl rfl rfl ?_
    refine so_nil ?_
    exact sk_round (s + 1) (show l.length - (s + 1) < l.length - s by omega) (show s + 1 ≤ l.length by omega) (by repeat (first | exact .nil | refine .cons rfl ?_)) rfl rfl (by repeat (first | exact List.nil_sublist _ | apply List.Sublist.cons_cons | apply List.Sublist.cons))
  · skip
    refine sx_region (E := E) ?_
    refine so_move rfl rfl rfl ?_
    refine so_move rfl rfl rfl ?_
    refine so_lenL rfl rfl rfl rfl rfl rfl Try.underlying100 ?_
    refine so_bin rfl rfl rfl rfl (by first | exact bin_lss_t (by omega) | exact bin_lss_f (by omega)) ?_
    refine so_then ?_
    refine sx_false rfl ?_
    refine sx_exit ?_
    refine sk_then_exit ?_
    refine sk_loop_exit ?_
    refine sk_block_exit ?_
    refine sk_then ?_
    refine sx_seq ?_
    refine sx_region (E := E) ?_
    refine so_assign rfl rfl rfl ?_
    refine so_then ?_
    refine sx_ret ?_
    refine sk_return1 (.tmp rfl .nil) ?_
    exact fun H hH => ⟨rfl, hH.kept⟩

theorem sameInts_ok {S : AH} {A : Nat → Prop} (hA : ∀ j, A j → j < S.nx) {x y : Value} {c : CT} (hx : CellA A S (.row 8 [.int .i64]) x c) (hy : CellA A S (.row 8 [.int .i64]) y c) : XCall Try.prog 42 [x, y] S fun v H' => v = .bool true ∧ Kept S.nx S H' := by
  obtain ⟨l, ax, cx, rfl, rfl, rx⟩ := hx.rowD
  obtain ⟨l2, ay, cy, e2, rfl, ry⟩ := hy.rowD
  cases e2
  have hb := rx.len
  refine x_enter (E := E) (n := 26) (rs := [.tmp 4]) (l := [(1, _), (0, _)]) (fn_own Try.func42 rfl rfl rfl) hA rfl ?_
  refine sx_seq ?_
  refine sx_region (E := E) ?_
  refine so_assign rfl rfl rfl ?_
  refine so_then ?_
  refine sx_seq ?_
  refine sx_seq ?_
  refine sx_region (E := E) ?_
  refine so_move rfl rfl rfl ?_
  refine so_lenL rfl rfl rfl rfl rfl rfl Try.underlying22 ?_
  refine so_move rfl rfl rfl ?_
  refine so_lenL rfl rfl rfl rfl rfl rfl Try.underlying22 ?_
  refine so_bin rfl rfl rfl rfl (by first | exact bin_neq_f (by first | rfl | assumption | omega) | exact bin_neq_t (by first | rfl | assumption | omega)) ?_
  refine so_then ?_
  refine sx_false rfl ?_
  refine sx_skip ?_
  refine sk_then ?_
  refine sx_seq ?_
  refine sx_seq ?_
  refine sx_region (E := E) ?_
  refine so_assign rfl rfl rfl ?_
  refine so_then ?_
  refine sx_block ?_
  refine sx_loop (σ := Nat) (fun k => l.length - k) (fun k => [(0, .slice ax l.length cx), (1, .slice ay l.length cy), (5, .int .i64 ((k : Nat) : Int))]) (fun _ => S) (fun _ => A) (fun _ => []) (fun k => k ≤ l.length) (0) (Nat.zero_le _) (by repeat (first | exact .nil | refine .cons rfl ?_)) rfl rfl (by repeat (first | exact List.nil_sublist _ | apply List.Sublist.cons_cons | apply List.Sublist.cons)) ?_
  intro s hJ t1
  replace hJ : s ≤ l.length := hJ
  refine sx_seq ?_
  refine sx_seq ?_
  rcases Nat.lt_or_ge s l.length with hk | hk
  · skip
    obtain ⟨px, xs, c, rfl, ix, hc, lx, kx⟩ := rx.at' s hk
    obtain ⟨py, ys, c2, rfl, iy, hc2, ly, ky⟩ := ry.at' s hk
    rw [hc] at hc2; cases hc2
    obtain ⟨x0, rfl, lx⟩ := aloads_one lx
    obtain ⟨y0, rfl, ly⟩ := aloads_one ly
    obtain ⟨c0, rfl⟩ : ∃ c0, c = [c0] := List.length_eq_one_iff.1 (kx.len.2)
    simp only [CellsA] at kx ky
    refine sx_region (E := E) ?_
    refine so_move rfl rfl rfl ?_
    refine so_move rfl rfl rfl ?_
    refine so_lenL rfl rfl rfl rfl rfl rfl Try.underlying22 ?_
    refine so_bin rfl rfl rfl rfl (by first | exact bin_lss_t (by omega) | exact bin_lss_f (by omega)) ?_
    refine so_then ?_
    refine sx_true rfl ?_
    refine sx_skip ?_
    refine sk_then ?_
    refine sx_seq ?_
    refine sx_block ?_
    refine sx_seq ?_
    refine sx_draw (E := E) mixed [] _ (List.Sublist.refl _) (by kernel_rfl) (by kernel_rfl) (by decide) ?_
    refine so_move rfl rfl rfl ?_
    refine so_move rfl rfl rfl ?_
    first | refine so_indexO rfl rfl rfl rfl Try.underlying22 inf3 rfl (by omega) rfl ?_ | refine so_index rfl rfl rfl rfl Try.underlying22 inf3 rfl (by omega) ?_
    refine so_load rfl rfl rfl (by first | exact ld_own Try.underlying3 rfl (by repeat (first | exact List.Mem.head _ | apply List.Mem.tail)) (by first | exact cellsOf_get rfl | rfl) | exact ld_data Try.underlying3 rfl (by first | assumption | exact InA.add (by assumption) | exact InA.add (InA.add (by assumption))) (by assumption)) ?_
    refine so_move rfl rfl rfl ?_
    refine so_move rfl rfl rfl ?_
    first | refine so_indexO rfl rfl rfl rfl Try.underlying22 inf3 rfl (by omega) rfl ?_ | refine so_index rfl rfl rfl rfl Try.underlying22 inf3 rfl (by omega) ?_
    refine so_load rfl rfl rfl (by first | exact ld_own Try.underlying3 rfl (by repeat (first | exact List.Mem.head _ | apply List.Mem.tail)) (by first | exact cellsOf_get rfl | rfl) | exact ld_data Try.underlying3 rfl (by first | assumption | exact InA.add (by assumption) | exact InA.add (InA.add (by assumption))) (by assumption)) ?_
    refine so_bin rfl rfl rfl rfl (by first | exact bin_samen Try.underlying3 rfl kx.1 ky.1 | exact bin_neq_f (by first | rfl | assumption | omega) | exact bin_neq_t (by first | rfl | assumption | omega)) ?_
    refine so_then ?_
    refine sx_false rfl ?_
    refine sx_skip ?_
    refine sk_block ?_
    refine sk_then ?_
    refine sx_region (E := E) ?_
    refine so_move rfl rfl rfl ?_
    refine so_bin rfl rfl rfl rfl (by first | exact bin_incr (by omega) | exact bin_add (wrap64 (by omega) (by omega)) | exact bin_add rfl) ?_
    refine so_assign rfl rfl rfl ?_
    refine so_nil ?_
    exact sk_round (s + 1) (show l.length - (s + 1) < l.length - s by omega) (show s + 1 ≤ l.length by omega) (by repeat (first | exact .nil | refine .cons rfl ?_)) rfl rfl (by repeat (first | exact List.nil_sublist _ | apply List.Sublist.cons_cons | apply List.Sublist.cons))
  · skip
    refine sx_region (E := E) ?_
    refine so_move rfl rfl rfl ?_
    refine so_move rfl rfl rfl ?_
    refine so_lenL rfl rfl rfl rfl rfl rfl Try.underlying22 ?_
    refine so_bin rfl rfl rfl rfl (by first | exact bin_lss_t (by omega) | exact bin_lss_f (by omega)) ?_
    refine so_then ?_
    refine sx_false rfl ?_
    refine sx_exit ?_
    refine sk_then_exit ?_
    refine sk_loop_exit ?_
    refine sk_block_exit ?_
    refine sk_then ?_
    refine sx_seq ?_
    refine sx_region (E := E) ?_
    refine so_assign rfl rfl rfl ?_
    refine so_then ?_
    refine sx_ret ?_
    refine sk_return1 (.tmp rfl .nil) ?_
    exact fun H hH => ⟨rfl, hH.kept⟩

theorem sameStops_ok {S : AH} {A : Nat → Prop} (hA : ∀ j, A j → j < S.nx) {x y : Value} {c : CT} (hx : CellA A S (.row 40 [.int .i64, .int .i64, .int .i64, .int .i64, .int .i64]) x c) (hy : CellA A S (.row 40 [.int .i64, .int .i64, .int .i64, .int .i64, .int .i64]) y c) : XCall Try.prog 55 [x, y] S fun v H' => v = .bool true ∧ Kept S.nx S H' := by
  obtain ⟨l, ax, cx, rfl, rfl, rx⟩ := hx.rowD
  obtain ⟨l2, ay, cy, e2, rfl, ry⟩ := hy.rowD
  cases e2
  have hb := rx.len
  refine x_enter (E := E) (n := 26) (rs := [.tmp 4]) (l := [(1, _), (0, _)]) (fn_own Try.func55 rfl rfl rfl) hA rfl ?_
  refine sx_seq ?_
  refine sx_region (E := E) ?_
  refine so_assign rfl rfl rfl ?_
  refine so_then ?_
  refine sx_seq ?_
  refine sx_seq ?_
  refine sx_region (E := E) ?_
  refine so_move rfl rfl rfl ?_
  refine so_lenL rfl rfl rfl rfl rfl rfl Try.underlying32 ?_
  refine so_move rfl rfl rfl ?_
  refine so_lenL rfl rfl rfl rfl rfl rfl Try.underlying32 ?_
  refine so_bin rfl rfl rfl rfl (by first | exact bin_neq_f (by first | rfl | assumption | omega) | exact bin_neq_t (by first | rfl | assumption | omega)) ?_
  refine so_then ?_
  refine sx_false rfl ?_
  refine sx_skip ?_
  refine sk_then ?_
  refine sx_seq ?_
  refine sx_seq ?_
  refine sx_region (E := E) ?_
  refine so_assign rfl rfl rfl ?_
  refine so_then ?_
  refine sx_block ?_
  refine sx_loop (σ := Nat) (fun k => l.length - k) (fun k => [(0, .slice ax l.length cx), (1, .slice ay l.length cy), (5, .int .i64 ((k : Nat) : Int))]) (fun _ => S) (fun _ => A) (fun _ => []) (fun k => k ≤ l.length) (0) (Nat.zero_le _) (by repeat (first | exact .nil | refine .cons rfl ?_)) rfl rfl (by repeat (first | exact List.nil_sublist _ | apply List.Sublist.cons_cons | apply List.Sublist.cons)) ?_
  intro s hJ t1
  replace hJ : s ≤ l.length := hJ
  refine sx_seq ?_
  refine sx_seq ?_
  rcases Nat.lt_or_ge s l.length with hk | hk
  · skip
    obtain ⟨px, xs, c, rfl, ix, hc, lx, kx⟩ := rx.at' s hk
    obtain ⟨py, ys, c2, rfl, iy, hc2, ly, ky⟩ := ry.at' s hk
    rw [hc] at hc2; cases hc2
    refine sx_region (E := E) ?_
    refine so_move rfl rfl rfl ?_
    refine so_move rfl rfl rfl ?_
    refine so_lenL rfl rfl rfl rfl rfl rfl Try.underlying32 ?_
    refine so_bin rfl rfl rfl rfl (by first | exact bin_lss_t (by omega) | exact bin_lss_f (by omega)) ?_
    refine so_then ?_
    refine sx_true rfl ?_
    refine sx_skip ?_
    refine sk_then ?_
    refine sx_seq ?_
    refine sx_block ?_
    refine sx_seq ?_
    refine sx_draw (E := E) mixed [] _ (List.Sublist.refl _) (by kernel_rfl) (by kernel_rfl) (by decide) ?_
    refine so_move rfl rfl rfl ?_
    refine so_move rfl rfl rfl ?_
    first | refine so_indexO rfl rfl rfl rfl Try.underlying32 inf118 rfl (by omega) rfl ?_ | refine so_index rfl rfl rfl rfl Try.underlying32 inf118 rfl (by omega) ?_
    refine so_load rfl rfl rfl (by first | exact ld_ownA Try.underlying118 rfl inf118 rfl (by repeat (first | exact List.Mem.head _ | apply List.Mem.tail)) (by first | exact cellsOf_le rfl | decide | omega) (by first | exact cellsOf_all | exact take_all rfl | exact cellsOf_part rfl | rfl) | exact ld_dataA Try.underlying118 rfl inf118 rfl (by first | assumption | exact InA.add (by assumption) | exact InA.add (InA.add (by assumption))) (by assumption)) ?_
    refine so_move rfl rfl rfl ?_
    refine so_move rfl rfl rfl ?_
    first | refine so_indexO rfl rfl rfl rfl Try.underlying32 inf118 rfl (by omega) rfl ?_ | refine so_index rfl rfl rfl rfl Try.underlying32 inf118 rfl (by omega) ?_
    refine so_load rfl rfl rfl (by first | exact ld_ownA Try.underlying118 rfl inf118 rfl (by repeat (first | exact List.Mem.head _ | apply List.Mem.tail)) (by first | exact cellsOf_le rfl | decide | omega) (by first | exact cellsOf_all | exact take_all rfl | exact cellsOf_part rfl | rfl) | exact ld_dataA Try.underlying118 rfl inf118 rfl (by first | assumption | exact InA.add (by assumption) | exact InA.add (InA.add (by assumption))) (by assumption)) ?_
    refine so_bin rfl rfl rfl rfl (by first | exact (bin_aggsame Try.underlying118 rfl (by kernel_rfl) rfl kx ky).2) ?_
    refine so_then ?_
    refine sx_false rfl ?_
    refine sx_skip ?_
    refine sk_block ?_
    refine sk_then ?_
    refine sx_region (E := E) ?_
    refine so_move rfl rfl rfl ?_
    refine so_bin rfl rfl rfl rfl (by first | exact bin_incr (by omega) | exact bin_add (wrap64 (by omega) (by omega)) | exact bin_add rfl) ?_
    refine so_assign rfl rfl rfl ?_
    refine so_nil ?_
    exact sk_round (s + 1) (show l.length - (s + 1) < l.length - s by omega) (show s + 1 ≤ l.length by omega) (by repeat (first | exact .nil | refine .cons rfl ?_)) rfl rfl (by repeat (first | exact List.nil_sublist _ | apply List.Sublist.cons_cons | apply List.Sublist.cons))
  · skip
    refine sx_region (E := E) ?_
    refine so_move rfl rfl rfl ?_
    refine so_move rfl rfl rfl ?_
    refine so_lenL rfl rfl rfl rfl rfl rfl Try.underlying32 ?_
    refine so_bin rfl rfl rfl rfl (by first | exact bin_lss_t (by omega) | exact bin_lss_f (by omega)) ?_
    refine so_then ?_
    refine sx_false rfl ?_
    refine sx_exit ?_
    refine sk_then_exit ?_
    refine sk_loop_exit ?_
    refine sk_block_exit ?_
    refine sk_then ?_
    refine sx_seq ?_
    refine sx_region (E := E) ?_
    refine so_assign rfl rfl rfl ?_
    refine so_then ?_
    refine sx_ret ?_
    refine sk_return1 (.tmp rfl .nil) ?_
    exact fun H hH => ⟨rfl, hH.kept⟩

theorem sameSegs_ok {S : AH} {A : Nat → Prop} (hA : ∀ j, A j → j < S.nx) {x y : Value} {c : CT} (hx : CellA A S (.row 56 [.int .i64, .int .i64, .int .i64, .int .i64, .int .i64, .int .i64, .int .i64]) x c) (hy : CellA A S (.row 56 [.int .i64, .int .i64, .int .i64, .int .i64, .int .i64, .int .i64, .int .i64]) y c) : XCall Try.prog 56 [x, y] S fun v H' => v = .bool true ∧ Kept S.nx S H' := by
  obtain ⟨l, ax, cx, rfl, rfl, rx⟩ := hx.rowD
  obtain ⟨l2, ay, cy, e2, rfl, ry⟩ := hy.rowD
  cases e2
  have hb := rx.len
  refine x_enter (E := E) (n := 26) (rs := [.tmp 4]) (l := [(1, _), (0, _)]) (fn_own Try.func56 rfl rfl rfl) hA rfl ?_
  refine sx_seq ?_
  refine sx_region (E := E) ?_
  refine so_assign rfl rfl rfl ?_
  refine so_then ?_
  refine sx_seq ?_
  refine sx_seq ?_
  refine sx_region (E := E) ?_
  refine so_move rfl rfl rfl ?_
  refine so_lenL rfl rfl rfl rfl rfl rfl Try.underlying33 ?_
  refine so_move rfl rfl rfl ?_
  refine so_lenL rfl rfl rfl rfl rfl rfl Try.underlying33 ?_
  refine so_bin rfl rfl rfl rfl (by first | exact bin_neq_f (by first | rfl | assumption | omega) | exact bin_neq_t (by first | rfl | assumption | omega)) ?_
  refine so_then ?_
  refine sx_false rfl ?_
  refine sx_skip ?_
  refine sk_then ?_
  refine sx_seq ?_
  refine sx_seq ?_
  refine sx_region (E := E) ?_
  refine so_assign rfl rfl rfl ?_
  refine so_then ?_
  refine sx_block ?_
  refine sx_loop (σ := Nat) (fun k => l.length - k) (fun k => [(0, .slice ax l.length cx), (1, .slice ay l.length cy), (5, .int .i64 ((k : Nat) : Int))]) (fun _ => S) (fun _ => A) (fun _ => []) (fun k => k ≤ l.length) (0) (Nat.zero_le _) (by repeat (first | exact .nil | refine .cons rfl ?_)) rfl rfl (by repeat (first | exact List.nil_sublist _ | apply List.Sublist.cons_cons | apply List.Sublist.cons)) ?_
  intro s hJ t1
  replace hJ : s ≤ l.length := hJ
  refine sx_seq ?_
  refine sx_seq ?_
  rcases Nat.lt_or_ge s l.length with hk | hk
  · skip
    obtain ⟨px, xs, c, rfl, ix, hc, lx, kx⟩ := rx.at' s hk
    obtain ⟨py, ys, c2, rfl, iy, hc2, ly, ky⟩ := ry.at' s hk
    rw [hc] at hc2; cases hc2
    refine sx_region (E := E) ?_
    refine so_move rfl rfl rfl ?_
    refine so_move rfl rfl rfl ?_
    refine so_lenL rfl rfl rfl rfl rfl rfl Try.underlying33 ?_
    refine so_bin rfl rfl rfl rfl (by first | exact bin_lss_t (by omega) | exact bin_lss_f (by omega)) ?_
    refine so_then ?_
    refine sx_true rfl ?_
    refine sx_skip ?_
    refine sk_then ?_
    refine sx_seq ?_
    refine sx_block ?_
    refine sx_seq ?_
    refine sx_draw (E := E) mixed [] _ (List.Sublist.refl _) (by kernel_rfl) (by kernel_rfl) (by decide) ?_
    refine so_move rfl rfl rfl ?_
    refine so_move rfl rfl rfl ?_
    first | refine so_indexO rfl rfl rfl rfl Try.underlying33 inf122 rfl (by omega) rfl ?_ | refine so_index rfl rfl rfl rfl Try.underlying33 inf122 rfl (by omega) ?_
    refine so_load rfl rfl rfl (by first | exact ld_ownA Try.underlying122 rfl inf122 rfl (by repeat (first | exact List.Mem.head _ | apply List.Mem.tail)) (by first | exact cellsOf_le rfl | decide | omega) (by first | exact cellsOf_all | exact take_all rfl | exact cellsOf_part rfl | rfl) | exact ld_dataA Try.underlying122 rfl inf122 rfl (by first | assumption | exact InA.add (by assumption) | exact InA.add (InA.add (by assumption))) (by assumption)) ?_
    refine so_move rfl rfl rfl ?_
    refine so_move rfl rfl rfl ?_
    first | refine so_indexO rfl rfl rfl rfl Try.underlying33 inf122 rfl (by omega) rfl ?_ | refine so_index rfl rfl rfl rfl Try.underlying33 inf122 rfl (by omega) ?_
    refine so_load rfl rfl rfl (by first | exact ld_ownA Try.underlying122 rfl inf122 rfl (by repeat (first | exact List.Mem.head _ | apply List.Mem.tail)) (by first | exact cellsOf_le rfl | decide | omega) (by first | exact cellsOf_all | exact take_all rfl | exact cellsOf_part rfl | rfl) | exact ld_dataA Try.underlying122 rfl inf122 rfl (by first | assumption | exact InA.add (by assumption) | exact InA.add (InA.add (by assumption))) (by assumption)) ?_
    refine so_bin rfl rfl rfl rfl (by first | exact (bin_aggsame Try.underlying122 rfl (by kernel_rfl) rfl kx ky).2) ?_
    refine so_then ?_
    refine sx_false rfl ?_
    refine sx_skip ?_
    refine sk_block ?_
    refine sk_then ?_
    refine sx_region (E := E) ?_
    refine so_move rfl rfl rfl ?_
    refine so_bin rfl rfl rfl rfl (by first | exact bin_incr (by omega) | exact bin_add (wrap64 (by omega) (by omega)) | exact bin_add rfl) ?_
    refine so_assign rfl rfl rfl ?_
    refine so_nil ?_
    exact sk_round (s + 1) (show l.length - (s + 1) < l.length - s by omega) (show s + 1 ≤ l.length by omega) (by repeat (first | exact .nil | refine .cons rfl ?_)) rfl rfl (by repeat (first | exact List.nil_sublist _ | apply List.Sublist.cons_cons | apply List.Sublist.cons))
  · skip
    refine sx_region (E := E) ?_
    refine so_move rfl rfl rfl ?_
    refine so_move rfl rfl rfl ?_
    refine so_lenL rfl rfl rfl rfl rfl rfl Try.underlying33 ?_
    refine so_bin rfl rfl rfl rfl (by first | exact bin_lss_t (by omega) | exact bin_lss_f (by omega)) ?_
    refine so_then ?_
    refine sx_false rfl ?_
    refine sx_exit ?_
    refine sk_then_exit ?_
    refine sk_loop_exit ?_
    refine sk_block_exit ?_
    refine sk_then ?_
    refine sx_seq ?_
    refine sx_region (E := E) ?_
    refine so_assign rfl rfl rfl ?_
    refine so_then ?_
    refine sx_ret ?_
    refine sk_return1 (.tmp rfl .nil) ?_
    exact fun H hH => ⟨rfl, hH.kept⟩

theorem sameTexts_ok {S : AH} {A : Nat → Prop} (hA : ∀ j, A j → j < S.nx) {x y : Value} {c : CT} (hx : CellA A S (.row 16 [.str]) x c) (hy : CellA A S (.row 16 [.str]) y c) : XCall Try.prog 14 [x, y] S fun v H' => v = .bool true ∧ Kept S.nx S H' := by
  obtain ⟨l, ax, cx, rfl, rfl, rx⟩ := hx.rowD
  obtain ⟨l2, ay, cy, e2, rfl, ry⟩ := hy.rowD
  cases e2
  have hb := rx.len
  refine x_enter (E := E) (n := 26) (rs := [.tmp 4]) (l := [(1, _), (0, _)]) (fn_own Try.func14 rfl rfl rfl) hA rfl ?_
  refine sx_seq ?_
  refine sx_region (E := E) ?_
  refine so_assign rfl rfl rfl ?_
  refine so_then ?_
  refine sx_seq ?_
  refine sx_seq ?_
  refine sx_region (E := E) ?_
  refine so_move rfl rfl rfl ?_
  refine so_lenL rfl rfl rfl rfl rfl rfl Try.underlying67 ?_
  refine so_move rfl rfl rfl ?_
  refine so_lenL rfl rfl rfl rfl rfl rfl Try.underlying67 ?_
  refine so_bin rfl rfl rfl rfl (by first | exact bin_neq_f (by first | rfl | assumption | omega) | exact bin_neq_t (by first | rfl | assumption | omega)) ?_
  refine so_then ?_
  refine sx_false rfl ?_
  refine sx_skip ?_
  refine sk_then ?_
  refine sx_seq ?_
  refine sx_seq ?_
  refine sx_region (E := E) ?_
  refine so_assign rfl rfl rfl ?_
  refine so_then ?_
  refine sx_block ?_
  refine sx_loop (σ := Nat) (fun k => l.length - k) (fun k => [(0, .slice ax l.length cx), (1, .slice ay l.length cy), (5, .int .i64 ((k : Nat) : Int))]) (fun _ => S) (fun _ => A) (fun _ => []) (fun k => k ≤ l.length) (0) (Nat.zero_le _) (by repeat (first | exact .nil | refine .cons rfl ?_)) rfl rfl (by repeat (first | exact List.nil_sublist _ | apply List.Sublist.cons_cons | apply List.Sublist.cons)) ?_
  intro s hJ t1
  replace hJ : s ≤ l.length := hJ
  refine sx_seq ?_
  refine sx_seq ?_
  rcases Nat.lt_or_ge s l.length with hk | hk
  · skip
    obtain ⟨px, xs, c, rfl, ix, hc, lx, kx⟩ := rx.at' s hk
    obtain ⟨py, ys, c2, rfl, iy, hc2, ly, ky⟩ := ry.at' s hk
    rw [hc] at hc2; cases hc2
    obtain ⟨x0, rfl, lx⟩ := aloads_one lx
    obtain ⟨y0, rfl, ly⟩ := aloads_one ly
    obtain ⟨c0, rfl⟩ : ∃ c0, c = [c0] := List.length_eq_one_iff.1 (kx.len.2)
    simp only [CellsA] at kx ky
    refine sx_region (E := E) ?_
    refine so_move rfl rfl rfl ?_
    refine so_move rfl rfl rfl ?_
    refine so_lenL rfl rfl rfl rfl rfl rfl Try.underlying67 ?_
    refine so_bin rfl rfl rfl rfl (by first | exact bin_lss_t (by omega) | exact bin_lss_f (by omega)) ?_
    refine so_then ?_
    refine sx_true rfl ?_
    refine sx_skip ?_
    refine sk_then ?_
    refine sx_seq ?_
    refine sx_block ?_
    refine sx_seq ?_
    refine sx_draw (E := E) mixed [] _ (List.Sublist.refl _) (by kernel_rfl) (by kernel_rfl) (by decide) ?_
    refine so_move rfl rfl rfl ?_
    refine so_move rfl rfl rfl ?_
    first | refine so_indexO rfl rfl rfl rfl Try.underlying67 inf9 rfl (by omega) rfl ?_ | refine so_index rfl rfl rfl rfl Try.underlying67 inf9 rfl (by omega) ?_
    refine so_load rfl rfl rfl (by first | exact ld_own Try.underlying9 rfl (by repeat (first | exact List.Mem.head _ | apply List.Mem.tail)) (by first | exact cellsOf_get rfl | rfl) | exact ld_data Try.underlying9 rfl (by first | assumption | exact InA.add (by assumption) | exact InA.add (InA.add (by assumption))) (by assumption)) ?_
    refine so_move rfl rfl rfl ?_
    refine so_move rfl rfl rfl ?_
    first | refine so_indexO rfl rfl rfl rfl Try.underlying67 inf9 rfl (by omega) rfl ?_ | refine so_index rfl rfl rfl rfl Try.underlying67 inf9 rfl (by omega) ?_
    refine so_load rfl rfl rfl (by first | exact ld_own Try.underlying9 rfl (by repeat (first | exact List.Mem.head _ | apply List.Mem.tail)) (by first | exact cellsOf_get rfl | rfl) | exact ld_data Try.underlying9 rfl (by first | assumption | exact InA.add (by assumption) | exact InA.add (InA.add (by assumption))) (by assumption)) ?_
    refine so_bin rfl rfl rfl rfl (by first | exact bin_samen Try.underlying9 rfl kx.1 ky.1 | exact bin_sneq_f (by first | rfl | assumption | decide) | exact bin_sneq_t (by first | rfl | assumption | decide)) ?_
    refine so_then ?_
    refine sx_false rfl ?_
    refine sx_skip ?_
    refine sk_block ?_
    refine sk_then ?_
    refine sx_region (E := E) ?_
    refine so_move rfl rfl rfl ?_
    refine so_bin rfl rfl rfl rfl (by first | exact bin_incr (by omega) | exact bin_add (wrap64 (by omega) (by omega)) | exact bin_add rfl) ?_
    refine so_assign rfl rfl rfl ?_
    refine so_nil ?_
    exact sk_round (s + 1) (show l.length - (s + 1) < l.length - s by omega) (show s + 1 ≤ l.length by omega) (by repeat (first | exact .nil | refine .cons rfl ?_)) rfl rfl (by repeat (first | exact List.nil_sublist _ | apply List.Sublist.cons_cons | apply List.Sublist.cons))
  · skip
    refine sx_region (E := E) ?_
    refine so_move rfl rfl rfl ?_
    refine so_move rfl rfl rfl ?_
    refine so_lenL rfl rfl rfl rfl rfl rfl Try.underlying67 ?_
    refine so_bin rfl rfl rfl rfl (by first | exact bin_lss_t (by omega) | exact bin_lss_f (by omega)) ?_
    refine so_then ?_
    refine sx_false rfl ?_
    refine sx_exit ?_
    refine sk_then_exit ?_
    refine sk_loop_exit ?_
    refine sk_block_exit ?_
    refine sk_then ?_
    refine sx_seq ?_
    refine sx_region (E := E) ?_
    refine so_assign rfl rfl rfl ?_
    refine so_then ?_
    refine sx_ret ?_
    refine sk_return1 (.tmp rfl .nil) ?_
    exact fun H hH => ⟨rfl, hH.kept⟩

end Go.Proofs.Ytaedeadgbojmnaa
