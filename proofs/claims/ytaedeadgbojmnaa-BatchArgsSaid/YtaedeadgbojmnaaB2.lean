/-
  Walks, laid by program.
-/
import Derived.Test.YtaedeadgbojmnaaB1
set_option linter.unusedVariables false
set_option linter.unusedSimpArgs false
set_option maxRecDepth 100000
namespace Go.Proofs.Ytaedeadgbojmnaa
open Go Go.AM
theorem sameMask_ok {S : AH} {A : Nat → Prop} (hA : ∀ j, A j → j < S.nx) {xs ys : List Value} {cs : List CT} (hx : CellsA A S (k24) xs cs) (hy : CellsA A S (k24) ys cs) : XCall Try.prog 25 [.agg ⟨xs⟩, .agg ⟨ys⟩] S fun v H' => v = .bool true ∧ Kept S.nx S H' := by
  obtain ⟨x, y, c, rfl, rfl, rfl, px, py⟩ := hx.fn2 hy (n := 3) rfl
  clear hx hy
  refine x_enter (E := E) (n := 24) (rs := [.tmp 4]) (l := [(1, _), (0, _)]) (fn_own Try.func25 rfl rfl rfl) hA rfl ?_
  refine sx_seq ?_
  refine sx_region (E := E) ?_
  refine so_boxA rfl rfl (fun h => nomatch h) rfl ?_
  intro N2
  refine so_boxA rfl rfl (fun h => nomatch h) rfl ?_
  intro N3
  refine so_assign rfl rfl rfl ?_
  refine so_then ?_
  refine sx_seq ?_
  refine sx_region (E := E) ?_
  refine so_fieldO (o' := 0) rfl rfl rfl Try.underlying24 rfl inf3 rfl rfl ?_
  refine so_load rfl rfl rfl (by first | exact ld_own Try.underlying3 rfl (by repeat (first | exact List.Mem.head _ | apply List.Mem.tail)) (by first | exact cellsOf_get rfl | rfl) | exact ld_data Try.underlying3 rfl (by first | assumption | exact InA.add (by assumption) | exact InA.add (InA.add (by assumption))) (by assumption)) ?_
  refine so_fieldO (o' := 0) rfl rfl rfl Try.underlying24 rfl inf3 rfl rfl ?_
  refine so_load rfl rfl rfl (by first | exact ld_own Try.underlying3 rfl (by repeat (first | exact List.Mem.head _ | apply List.Mem.tail)) (by first | exact cellsOf_get rfl | rfl) | exact ld_data Try.underlying3 rfl (by first | assumption | exact InA.add (by assumption) | exact InA.add (InA.add (by assumption))) (by assumption)) ?_
  refine so_bin rfl rfl rfl rfl (by first | exact bin_eql_t (by first | rfl | assumption | omega) | exact bin_eql_f (by first | rfl | assumption | omega) | exact bin_same Try.underlying3 (by rfl) (px _ _ rfl) (py _ _ rfl)) ?_
  refine so_move rfl rfl rfl ?_
  first | refine so_fieldO (o' := 1) rfl rfl rfl Try.underlying24 rfl inf3 rfl rfl ?_ | refine so_skip rfl rfl rfl ?_
  first | refine so_load rfl rfl rfl (by first | exact ld_own Try.underlying3 rfl (by repeat (first | exact List.Mem.head _ | apply List.Mem.tail)) (by first | exact cellsOf_get rfl | rfl) | exact ld_data Try.underlying3 rfl (by first | assumption | exact InA.add (by assumption) | exact InA.add (InA.add (by assumption))) (by assumption)) ?_ | refine so_skip rfl rfl rfl ?_
  first | refine so_fieldO (o' := 1) rfl rfl rfl Try.underlying24 rfl inf3 rfl rfl ?_ | refine so_skip rfl rfl rfl ?_
  first | refine so_load rfl rfl rfl (by first | exact ld_own Try.underlying3 rfl (by repeat (first | exact List.Mem.head _ | apply List.Mem.tail)) (by first | exact cellsOf_get rfl | rfl) | exact ld_data Try.underlying3 rfl (by first | assumption | exact InA.add (by assumption) | exact InA.add (InA.add (by assumption))) (by assumption)) ?_ | refine so_skip rfl rfl rfl ?_
  first | refine so_bin rfl rfl rfl rfl (by first | exact bin_eql_t (by first | rfl | assumption | omega) | exact bin_eql_f (by first | rfl | assumption | omega) | exact bin_same Try.underlying3 (by rfl) (px _ _ rfl) (py _ _ rfl)) ?_ | refine so_skip rfl rfl rfl ?_
  first | refine so_pick_t rfl rfl rfl rfl ?_ | refine so_pick_f rfl rfl rfl rfl ?_
  refine so_move rfl rfl rfl ?_
  first | refine so_fieldO (o' := 2) rfl rfl rfl Try.underlying24 rfl inf22 rfl rfl ?_ | refine so_skip rfl rfl rfl ?_
  first | refine so_load rfl rfl rfl (by first | exact ld_own Try.underlying22 rfl (by repeat (first | exact List.Mem.head _ | apply List.Mem.tail)) (by first | exact cellsOf_get rfl | rfl) | exact ld_data Try.underlying22 rfl (by first | assumption | exact InA.add (by assumption) | exact InA.add (InA.add (by assumption))) (by assumption)) ?_ | refine so_skip rfl rfl rfl ?_
  first | refine so_fieldO (o' := 2) rfl rfl rfl Try.underlying24 rfl inf22 rfl rfl ?_ | refine so_skip rfl rfl rfl ?_
  first | refine so_load rfl rfl rfl (by first | exact ld_own Try.underlying22 rfl (by repeat (first | exact List.Mem.head _ | apply List.Mem.tail)) (by first | exact cellsOf_get rfl | rfl) | exact ld_data Try.underlying22 rfl (by first | assumption | exact InA.add (by assumption) | exact InA.add (InA.add (by assumption))) (by assumption)) ?_ | refine so_skip rfl rfl rfl ?_
  first | refine so_call rfl rfl (fun h => nomatch h) rfl has42 (by repeat (first | exact Opvs.nil | apply Opvs.cons rfl)) (fun H hH => sameInts_ok hH.lt (CellA.gr hH.gr _ _ _ (px 2 _ rfl)) (CellA.gr hH.gr _ _ _ (py 2 _ rfl))) ?_ | refine so_skip rfl rfl rfl ?_
  first | refine so_pick_t rfl rfl rfl rfl ?_ | refine so_pick_f rfl rfl rfl rfl ?_
  refine so_assign rfl rfl rfl ?_
  refine so_then ?_
  refine sx_ret ?_
  refine sk_return1 (.tmp rfl .nil) ?_
  exact fun H hH => ⟨rfl, hH.kept⟩

theorem sameImage_ok {S : AH} {A : Nat → Prop} (hA : ∀ j, A j → j < S.nx) {xs ys : List Value} {cs : List CT} (hx : CellsA A S (k29) xs cs) (hy : CellsA A S (k29) ys cs) : XCall Try.prog 26 [.agg ⟨xs⟩, .agg ⟨ys⟩] S fun v H' => v = .bool true ∧ Kept S.nx S H' := by
  obtain ⟨x, y, c, rfl, rfl, rfl, px, py⟩ := hx.fn2 hy (n := 3) rfl
  clear hx hy
  obtain ⟨l, ax, cx, ec, hx2, rx⟩ := (px 2 _ rfl).rowD
  obtain ⟨l2, ay, cy, e2, hy2, ry⟩ := (py 2 _ rfl).rowD
  rw [ec] at e2; cases e2
  have hb := rx.len
  refine x_enter (E := E) (n := 45) (rs := [.tmp 4]) (l := [(1, _), (0, _)]) (fn_own Try.func26 rfl rfl rfl) hA rfl ?_
  refine sx_seq ?_
  refine sx_region (E := E) ?_
  refine so_boxA rfl rfl (fun h => nomatch h) rfl ?_
  intro N2
  refine so_boxA rfl rfl (fun h => nomatch h) rfl ?_
  intro N3
  refine so_assign rfl rfl rfl ?_
  refine so_then ?_
  refine sx_seq ?_
  refine sx_seq ?_
  refine sx_region (E := E) ?_
  refine so_fieldO (o' := 0) rfl rfl rfl Try.underlying29 rfl inf3 rfl rfl ?_
  refine so_load rfl rfl rfl (by first | exact ld_own Try.underlying3 rfl (by repeat (first | exact List.Mem.head _ | apply List.Mem.tail)) (by first | exact (cellsOf_get rfl).trans (congrArg some hx2) | exact (cellsOf_get rfl).trans (congrArg some hy2) | exact cellsOf_get rfl | rfl) | exact ld_data Try.underlying3 rfl (by first | assumption | exact InA.add (by assumption) | exact InA.add (InA.add (by assumption))) (by assumption)) ?_
  refine so_fieldO (o' := 0) rfl rfl rfl Try.underlying29 rfl inf3 rfl rfl ?_
  refine so_load rfl rfl rfl (by first | exact ld_own Try.underlying3 rfl (by repeat (first | exact List.Mem.head _ | apply List.Mem.tail)) (by first | exact (cellsOf_get rfl).trans (congrArg some hx2) | exact (cellsOf_get rfl).trans (congrArg some hy2) | exact cellsOf_get rfl | rfl) | exact ld_data Try.underlying3 rfl (by first | assumption | exact InA.add (by assumption) | exact InA.add (InA.add (by assumption))) (by assumption)) ?_
  refine so_bin rfl rfl rfl rfl (by first | exact bin_neq_f (by first | rfl | assumption | omega) | exact bin_neq_t (by first | rfl | assumption | omega) | exact bin_samen Try.underlying3 (by rfl) (px _ _ rfl) (py _ _ rfl)) ?_
  refine so_move rfl rfl rfl ?_
  first | refine so_fieldO (o' := 1) rfl rfl rfl Try.underlying29 rfl inf3 rfl rfl ?_ | refine so_skip rfl rfl rfl ?_
  first | refine so_load rfl rfl rfl (by first | exact ld_own Try.underlying3 rfl (by repeat (first | exact List.Mem.head _ | apply List.Mem.tail)) (by first | exact (cellsOf_get rfl).trans (congrArg some hx2) | exact (cellsOf_get rfl).trans (congrArg some hy2) | exact cellsOf_get rfl | rfl) | exact ld_data Try.underlying3 rfl (by first | assumption | exact InA.add (by assumption) | exact InA.add (InA.add (by assumption))) (by assumption)) ?_ | refine so_skip rfl rfl rfl ?_
  first | refine so_fieldO (o' := 1) rfl rfl rfl Try.underlying29 rfl inf3 rfl rfl ?_ | refine so_skip rfl rfl rfl ?_
  first | refine so_load rfl rfl rfl (by first | exact ld_own Try.underlying3 rfl (by repeat (first | exact List.Mem.head _ | apply List.Mem.tail)) (by first | exact (cellsOf_get rfl).trans (congrArg some hx2) | exact (cellsOf_get rfl).trans (congrArg some hy2) | exact cellsOf_get rfl | rfl) | exact ld_data Try.underlying3 rfl (by first | assumption | exact InA.add (by assumption) | exact InA.add (InA.add (by assumption))) (by assumption)) ?_ | refine so_skip rfl rfl rfl ?_
  first | refine so_bin rfl rfl rfl rfl (by first | exact bin_neq_f (by first | rfl | assumption | omega) | exact bin_neq_t (by first | rfl | assumption | omega) | exact bin_samen Try.underlying3 (by rfl) (px _ _ rfl) (py _ _ rfl)) ?_ | refine so_skip rfl rfl rfl ?_
  first | refine so_pick_t rfl rfl rfl rfl ?_ | refine so_pick_f rfl rfl rfl rfl ?_
  refine so_move rfl rfl rfl ?_
  first | refine so_fieldO (o' := 2) rfl rfl rfl Try.underlying29 rfl inf27 rfl rfl ?_ | refine so_skip rfl rfl rfl ?_
  first | refine so_load rfl rfl rfl (by first | exact ld_own Try.underlying27 rfl (by repeat (first | exact List.Mem.head _ | apply List.Mem.tail)) (by first | exact (cellsOf_get rfl).trans (congrArg some hx2) | exact (cellsOf_get rfl).trans (congrArg some hy2) | exact cellsOf_get rfl | rfl) | exact ld_data Try.underlying27 rfl (by first | assumption | exact InA.add (by assumption) | exact InA.add (InA.add (by assumption))) (by assumption)) ?_ | refine so_skip rfl rfl rfl ?_
  first | refine so_lenL rfl rfl rfl rfl rfl rfl Try.underlying27 ?_ | refine so_skip rfl rfl rfl ?_
  first | refine so_fieldO (o' := 2) rfl rfl rfl Try.underlying29 rfl inf27 rfl rfl ?_ | refine so_skip rfl rfl rfl ?_
  first | refine so_load rfl rfl rfl (by first | exact ld_own Try.underlying27 rfl (by repeat (first | exact List.Mem.head _ | apply List.Mem.tail)) (by first | exact (cellsOf_get rfl).trans (congrArg some hx2) | exact (cellsOf_get rfl).trans (congrArg some hy2) | exact cellsOf_get rfl | rfl) | exact ld_data Try.underlying27 rfl (by first | assumption | exact InA.add (by assumption) | exact InA.add (InA.add (by assumption))) (by assumption)) ?_ | refine so_skip rfl rfl rfl ?_
  first | refine so_lenL rfl rfl rfl rfl rfl rfl Try.underlying27 ?_ | refine so_skip rfl rfl rfl ?_
  first | refine so_bin rfl rfl rfl rfl (by first | exact bin_neq_f (by first | rfl | assumption | omega) | exact bin_neq_t (by first | rfl | assumption | omega)) ?_ | refine so_skip rfl rfl rfl ?_
  first | refine so_pick_t rfl rfl rfl rfl ?_ | refine so_pick_f rfl rfl rfl rfl ?_
  refine so_then ?_
  refine sx_false rfl ?_
  refine sx_skip ?_
  refine sk_then ?_
  refine sx_seq ?_
  refine sx_seq ?_
  refine sx_region (E := E) ?_
  refine so_assign rfl rfl rfl ?_
  refine so_then ?_
  refine sx_block ?_
  refine sx_loop (σ := Nat) (fun k => l.length - k) (fun k => [(2, .pointer (some ⟨2 * N2 + 1, 0, none⟩)), (3, .pointer (some ⟨2 * N3 + 1, 0, none⟩)), (5, .int .i64 ((k : Nat) : Int))]) (fun _ => S) (fun _ => A) (fun _ => [(N3, .cells (cellsOf 3 y) (boxsz E 29) true), (N2, .cells (cellsOf 3 x) (boxsz E 29) true)]) (fun k => k ≤ l.length) (0) (Nat.zero_le _) (by repeat (first | exact .nil | refine .cons rfl ?_)) rfl rfl (by repeat (first | exact List.nil_sublist _ | apply List.Sublist.cons_cons | apply List.Sublist.cons)) ?_
  intro s hJ t1
  replace hJ : s ≤ l.length := hJ
  refine sx_seq ?_
  refine sx_seq ?_
  rcases Nat.lt_or_ge s l.length with hk | hk
  · skip
    obtain ⟨qx, us, d, rfl, ix, hc, lx, kx⟩ := rx.at' s hk
    obtain ⟨qy, vs, d2, rfl, iy, hc2, ly, ky⟩ := ry.at' s hk
    rw [hc] at hc2; cases hc2
    refine sx_region (E := E) ?_
    refine so_move rfl rfl rfl ?_
    refine so_fieldO (o' := 2) rfl rfl rfl Try.underlying29 rfl inf27 rfl rfl ?_
    refine so_load rfl rfl rfl (by first | exact ld_own Try.underlying27 rfl (by repeat (first | exact List.Mem.head _ | apply List.Mem.tail)) (by first | exact (cellsOf_get rfl).trans (congrArg some hx2) | exact (cellsOf_get rfl).trans (congrArg some hy2) | exact cellsOf_get rfl | rfl) | exact ld_data Try.underlying27 rfl (by first | assumption | exact InA.add (by assumption) | exact InA.add (InA.add (by assumption))) (by assumption)) ?_
    refine so_lenL rfl rfl rfl rfl rfl rfl Try.underlying27 ?_
    refine so_bin rfl rfl rfl rfl (by first | exact bin_lss_t (by omega) | exact bin_lss_f (by omega)) ?_
    refine so_then ?_
    refine sx_true rfl ?_
    refine sx_skip ?_
    refine sk_then ?_
    refine sx_seq ?_
    refine sx_block ?_
    refine sx_seq ?_
    refine sx_draw (E := E) mixed [] _ (List.Sublist.refl _) (by kernel_rfl) (by kernel_rfl) (by decide) ?_
    refine so_fieldO (o' := 2) rfl rfl rfl Try.underlying29 rfl inf27 rfl rfl ?_
    refine so_load rfl rfl rfl (by first | exact ld_own Try.underlying27 rfl (by repeat (first | exact List.Mem.head _ | apply List.Mem.tail)) (by first | exact (cellsOf_get rfl).trans (congrArg some hx2) | exact (cellsOf_get rfl).trans (congrArg some hy2) | exact cellsOf_get rfl | rfl) | exact ld_data Try.underlying27 rfl (by first | assumption | exact InA.add (by assumption) | exact InA.add (InA.add (by assumption))) (by assumption)) ?_
    refine so_move rfl rfl rfl ?_
    first | refine so_indexO rfl rfl rfl rfl Try.underlying27 inf31 rfl (by omega) rfl ?_ | refine so_index rfl rfl rfl rfl Try.underlying27 inf31 rfl (by omega) ?_
    refine so_load rfl rfl rfl (by first | exact ld_ownA Try.underlying31 rfl inf31 rfl (by repeat (first | exact List.Mem.head _ | apply List.Mem.tail)) (by first | exact cellsOf_le rfl | decide | omega) (by first | exact cellsOf_all | exact take_all rfl | exact cellsOf_part rfl | rfl) | exact ld_dataA Try.underlying31 rfl inf31 rfl (by first | assumption | exact InA.add (by assumption) | exact InA.add (InA.add (by assumption))) (by assumption)) ?_
    refine so_fieldO (o' := 2) rfl rfl rfl Try.underlying29 rfl inf27 rfl rfl ?_
    refine so_load rfl rfl rfl (by first | exact ld_own Try.underlying27 rfl (by repeat (first | exact List.Mem.head _ | apply List.Mem.tail)) (by first | exact (cellsOf_get rfl).trans (congrArg some hx2) | exact (cellsOf_get rfl).trans (congrArg some hy2) | exact cellsOf_get rfl | rfl) | exact ld_data Try.underlying27 rfl (by first | assumption | exact InA.add (by assumption) | exact InA.add (InA.add (by assumption))) (by assumption)) ?_
    refine so_move rfl rfl rfl ?_
    first | refine so_indexO rfl rfl rfl rfl Try.underlying27 inf31 rfl (by omega) rfl ?_ | refine so_index rfl rfl rfl rfl Try.underlying27 inf31 rfl (by omega) ?_
    refine so_load rfl rfl rfl (by first | exact ld_ownA Try.underlying31 rfl inf31 rfl (by repeat (first | exact List.Mem.head _ | apply List.Mem.tail)) (by first | exact cellsOf_le rfl | decide | omega) (by first | exact cellsOf_all | exact take_all rfl | exact cellsOf_part rfl | rfl) | exact ld_dataA Try.underlying31 rfl inf31 rfl (by first | assumption | exact InA.add (by assumption) | exact InA.add (InA.add (by assumption))) (by assumption)) ?_
    refine so_bin rfl rfl rfl rfl (by first | exact (bin_aggsame Try.underlying31 rfl (by kernel_rfl) rfl kx ky).2) ?_
    refine so_then ?_
    refine sx_false rfl ?_
    refine sx_skip ?_
    refine sk_block ?_
    refine sk_then ?_
    refine sx_region (E := E) ?_
    refine so_move rfl rfl rfl ?_
    refine so_bin rfl rfl rfl rfl (by first | exact bin_incr (by omega) | exact bin_add (wrap64 (by omega) (by omega)) | exact bin_add rfl) ?_
    refine so_assign rfl rfl rfl ?_
    refine so_nil ?_
    exact sk_round (s + 1) (show l.length - (s + 1) < l.length - s by omega) (show s + 1 ≤ l.length by omega) (by repeat (first | exact .nil | refine .cons rfl ?_)) rfl rfl (by repeat (first | exact List.nil_sublist _ | apply List.Sublist.cons_cons | apply List.Sublist.cons))
  · skip
    refine sx_region (E := E) ?_
    refine so_move rfl rfl rfl ?_
    refine so_fieldO (o' := 2) rfl rfl rfl Try.underlying29 rfl inf27 rfl rfl ?_
    refine so_load rfl rfl rfl (by first | exact ld_own Try.underlying27 rfl (by repeat (first | exact List.Mem.head _ | apply List.Mem.tail)) (by first | exact (cellsOf_get rfl).trans (congrArg some hx2) | exact (cellsOf_get rfl).trans (congrArg some hy2) | exact cellsOf_get rfl | rfl) | exact ld_data Try.underlying27 rfl (by first | assumption | exact InA.add (by assumption) | exact InA.add (InA.add (by assumption))) (by assumption)) ?_
    refine so_lenL rfl rfl rfl rfl rfl rfl Try.underlying27 ?_
    refine so_bin rfl rfl rfl rfl (by first | exact bin_lss_t (by omega) | exact bin_lss_f (by omega)) ?_
    refine so_then ?_
    refine sx_false rfl ?_
    refine sx_exit ?_
    refine sk_then_exit ?_
    refine sk_loop_exit ?_
    refine sk_block_exit ?_
    refine sk_then ?_
    refine sx_seq ?_
    refine sx_region (E := E) ?_
    refine so_assign rfl rfl rfl ?_
    refine so_then ?_
    refine sx_ret ?_
    refine sk_return1 (.tmp rfl .nil) ?_
    exact fun H hH => ⟨rfl, hH.kept⟩

theorem sameWarp_ok {S : AH} {A : Nat → Prop} (hA : ∀ j, A j → j < S.nx) {xs ys : List Value} {cs : List CT} (hx : CellsA A S (k36) xs cs) (hy : CellsA A S (k36) ys cs) : XCall Try.prog 57 [.agg ⟨xs⟩, .agg ⟨ys⟩] S fun v H' => v = .bool true ∧ Kept S.nx S H' := by
  obtain ⟨x, y, c, rfl, rfl, rfl, px, py⟩ := hx.fn2 hy (n := 4) rfl
  clear hx hy
  obtain ⟨l, ax, cx, ec, hx2, rx⟩ := (px 3 _ rfl).rowD
  obtain ⟨l2, ay, cy, e2, hy2, ry⟩ := (py 3 _ rfl).rowD
  rw [ec] at e2; cases e2
  have hb := rx.len
  refine x_enter (E := E) (n := 52) (rs := [.tmp 4]) (l := [(1, _), (0, _)]) (fn_own Try.func57 rfl rfl rfl) hA rfl ?_
  refine sx_seq ?_
  refine sx_region (E := E) ?_
  refine so_boxA rfl rfl (fun h => nomatch h) rfl ?_
  intro N2
  refine so_boxA rfl rfl (fun h => nomatch h) rfl ?_
  intro N3
  refine so_assign rfl rfl rfl ?_
  refine so_then ?_
  refine sx_seq ?_
  refine sx_seq ?_
  refine sx_region (E := E) ?_
  refine so_fieldO (o' := 0) rfl rfl rfl Try.underlying36 rfl inf3 rfl rfl ?_
  refine so_load rfl rfl rfl (by first | exact ld_own Try.underlying3 rfl (by repeat (first | exact List.Mem.head _ | apply List.Mem.tail)) (by first | exact (cellsOf_get rfl).trans (congrArg some hx2) | exact (cellsOf_get rfl).trans (congrArg some hy2) | exact cellsOf_get rfl | rfl) | exact ld_data Try.underlying3 rfl (by first | assumption | exact InA.add (by assumption) | exact InA.add (InA.add (by assumption))) (by assumption)) ?_
  refine so_fieldO (o' := 0) rfl rfl rfl Try.underlying36 rfl inf3 rfl rfl ?_
  refine so_load rfl rfl rfl (by first | exact ld_own Try.underlying3 rfl (by repeat (first | exact List.Mem.head _ | apply List.Mem.tail)) (by first | exact (cellsOf_get rfl).trans (congrArg some hx2) | exact (cellsOf_get rfl).trans (congrArg some hy2) | exact cellsOf_get rfl | rfl) | exact ld_data Try.underlying3 rfl (by first | assumption | exact InA.add (by assumption) | exact InA.add (InA.add (by assumption))) (by assumption)) ?_
  refine so_bin rfl rfl rfl rfl (by first | exact bin_neq_f (by first | rfl | assumption | omega) | exact bin_neq_t (by first | rfl | assumption | omega) | exact bin_samen Try.underlying3 (by rfl) (px _ _ rfl) (py _ _ rfl)) ?_
  refine so_move rfl rfl rfl ?_
  first | refine so_fieldO (o' := 1) rfl rfl rfl Try.underlying36 rfl inf3 rfl rfl ?_ | refine so_skip rfl rfl rfl ?_
  first | refine so_load rfl rfl rfl (by first | exact ld_own Try.underlying3 rfl (by repeat (first | exact List.Mem.head _ | apply List.Mem.tail)) (by first | exact (cellsOf_get rfl).trans (congrArg some hx2) | exact (cellsOf_get rfl).trans (congrArg some hy2) | exact cellsOf_get rfl | rfl) | exact ld_data Try.underlying3 rfl (by first | assumption | exact InA.add (by assumption) | exact InA.add (InA.add (by assumption))) (by assumption)) ?_ | refine so_skip rfl rfl rfl ?_
  first | refine so_fieldO (o' := 1) rfl rfl rfl Try.underlying36 rfl inf3 rfl rfl ?_ | refine so_skip rfl rfl rfl ?_
  first | refine so_load rfl rfl rfl (by first | exact ld_own Try.underlying3 rfl (by repeat (first | exact List.Mem.head _ | apply List.Mem.tail)) (by first | exact (cellsOf_get rfl).trans (congrArg some hx2) | exact (cellsOf_get rfl).trans (congrArg some hy2) | exact cellsOf_get rfl | rfl) | exact ld_data Try.underlying3 rfl (by first | assumption | exact InA.add (by assumption) | exact InA.add (InA.add (by assumption))) (by assumption)) ?_ | refine so_skip rfl rfl rfl ?_
  first | refine so_bin rfl rfl rfl rfl (by first | exact bin_neq_f (by first | rfl | assumption | omega) | exact bin_neq_t (by first | rfl | assumption | omega) | exact bin_samen Try.underlying3 (by rfl) (px _ _ rfl) (py _ _ rfl)) ?_ | refine so_skip rfl rfl rfl ?_
  first | refine so_pick_t rfl rfl rfl rfl ?_ | refine so_pick_f rfl rfl rfl rfl ?_
  refine so_move rfl rfl rfl ?_
  first | refine so_fieldO (o' := 2) rfl rfl rfl Try.underlying36 rfl inf3 rfl rfl ?_ | refine so_skip rfl rfl rfl ?_
  first | refine so_load rfl rfl rfl (by first | exact ld_own Try.underlying3 rfl (by repeat (first | exact List.Mem.head _ | apply List.Mem.tail)) (by first | exact (cellsOf_get rfl).trans (congrArg some hx2) | exact (cellsOf_get rfl).trans (congrArg some hy2) | exact cellsOf_get rfl | rfl) | exact ld_data Try.underlying3 rfl (by first | assumption | exact InA.add (by assumption) | exact InA.add (InA.add (by assumption))) (by assumption)) ?_ | refine so_skip rfl rfl rfl ?_
  first | refine so_fieldO (o' := 2) rfl rfl rfl Try.underlying36 rfl inf3 rfl rfl ?_ | refine so_skip rfl rfl rfl ?_
  first | refine so_load rfl rfl rfl (by first | exact ld_own Try.underlying3 rfl (by repeat (first | exact List.Mem.head _ | apply List.Mem.tail)) (by first | exact (cellsOf_get rfl).trans (congrArg some hx2) | exact (cellsOf_get rfl).trans (congrArg some hy2) | exact cellsOf_get rfl | rfl) | exact ld_data Try.underlying3 rfl (by first | assumption | exact InA.add (by assumption) | exact InA.add (InA.add (by assumption))) (by assumption)) ?_ | refine so_skip rfl rfl rfl ?_
  first | refine so_bin rfl rfl rfl rfl (by first | exact bin_neq_f (by first | rfl | assumption | omega) | exact bin_neq_t (by first | rfl | assumption | omega) | exact bin_samen Try.underlying3 (by rfl) (px _ _ rfl) (py _ _ rfl)) ?_ | refine so_skip rfl rfl rfl ?_
  first | refine so_pick_t rfl rfl rfl rfl ?_ | refine so_pick_f rfl rfl rfl rfl ?_
  refine so_move rfl rfl rfl ?_
  first | refine so_fieldO (o' := 3) rfl rfl rfl Try.underlying36 rfl inf34 rfl rfl ?_ | refine so_skip rfl rfl rfl ?_
  first | refine so_load rfl rfl rfl (by first | exact ld_own Try.underlying34 rfl (by repeat (first | exact List.Mem.head _ | apply List.Mem.tail)) (by first | exact (cellsOf_get rfl).trans (congrArg some hx2) | exact (cellsOf_get rfl).trans (congrArg some hy2) | exact cellsOf_get rfl | rfl) | exact ld_data Try.underlying34 rfl (by first | assumption | exact InA.add (by assumption) | exact InA.add (InA.add (by assumption))) (by assumption)) ?_ | refine so_skip rfl rfl rfl ?_
  first | refine so_lenL rfl rfl rfl rfl rfl rfl Try.underlying34 ?_ | refine so_skip rfl rfl rfl ?_
  first | refine so_fieldO (o' := 3) rfl rfl rfl Try.underlying36 rfl inf34 rfl rfl ?_ | refine so_skip rfl rfl rfl ?_
  first | refine so_load rfl rfl rfl (by first | exact ld_own Try.underlying34 rfl (by repeat (first | exact List.Mem.head _ | apply List.Mem.tail)) (by first | exact (cellsOf_get rfl).trans (congrArg some hx2) | exact (cellsOf_get rfl).trans (congrArg some hy2) | exact cellsOf_get rfl | rfl) | exact ld_data Try.underlying34 rfl (by first | assumption | exact InA.add (by assumption) | exact InA.add (InA.add (by assumption))) (by assumption)) ?_ | refine so_skip rfl rfl rfl ?_
  first | refine so_lenL rfl rfl rfl rfl rfl rfl Try.underlying34 ?_ | refine so_skip rfl rfl rfl ?_
  first | refine so_bin rfl rfl rfl rfl (by first | exact bin_neq_f (by first | rfl | assumption | omega) | exact bin_neq_t (by first | rfl | assumption | omega)) ?_ | refine so_skip rfl rfl rfl ?_
  first | refine so_pick_t rfl rfl rfl rfl ?_ | refine so_pick_f rfl rfl rfl rfl ?_
  refine so_then ?_
  refine sx_false rfl ?_
  refine sx_skip ?_
  refine sk_then ?_
  refine sx_seq ?_
  refine sx_seq ?_
  refine sx_region (E := E) ?_
  refine so_assign rfl rfl rfl ?_
  refine so_then ?_
  refine sx_block ?_
  refine sx_loop (σ := Nat) (fun k => l.length - k) (fun k => [(2, .pointer (some ⟨2 * N2 + 1, 0, none⟩)), (3, .pointer (some ⟨2 * N3 + 1, 0, none⟩)), (5, .int .i64 ((k : Nat) : Int))]) (fun _ => S) (fun _ => A) (fun _ => [(N3, .cells (cellsOf 4 y) (boxsz E 36) true), (N2, .cells (cellsOf 4 x) (boxsz E 36) true)]) (fun k => k ≤ l.length) (0) (Nat.zero_le _) (by repeat (first | exact .nil | refine .cons rfl ?_)) rfl rfl (by repeat (first | exact List.nil_sublist _ | apply List.Sublist.cons_cons | apply List.Sublist.cons)) ?_
  intro s hJ t1
  replace hJ : s ≤ l.length := hJ
  refine sx_seq ?_
  refine sx_seq ?_
  rcases Nat.lt_or_ge s l.length with hk | hk
  · skip
    obtain ⟨qx, us, d, rfl, ix, hc, lx, kx⟩ := rx.at' s hk
    obtain ⟨qy, vs, d2, rfl, iy, hc2, ly, ky⟩ := ry.at' s hk
    rw [hc] at hc2; cases hc2
    refine sx_region (E := E) ?_
    refine so_move rfl rfl rfl ?_
    refine so_fieldO (o' := 3) rfl rfl rfl Try.underlying36 rfl inf34 rfl rfl ?_
    refine so_load rfl rfl rfl (by first | exact ld_own Try.underlying34 rfl (by repeat (first | exact List.Mem.head _ | apply List.Mem.tail)) (by first | exact (cellsOf_get rfl).trans (congrArg some hx2) | exact (cellsOf_get rfl).trans (congrArg some hy2) | exact cellsOf_get rfl | rfl) | exact ld_data Try.underlying34 rfl (by first | assumption | exact InA.add (by assumption) | exact InA.add (InA.add (by assumption))) (by assumption)) ?_
    refine so_lenL rfl rfl rfl rfl rfl rfl Try.underlying34 ?_
    refine so_bin rfl rfl rfl rfl (by first | exact bin_lss_t (by omega) | exact bin_lss_f (by omega)) ?_
    refine so_then ?_
    refine sx_true rfl ?_
    refine sx_skip ?_
    refine sk_then ?_
    refine sx_seq ?_
    refine sx_block ?_
    refine sx_seq ?_
    refine sx_draw (E := E) mixed [] _ (List.Sublist.refl _) (by kernel_rfl) (by kernel_rfl) (by decide) ?_
    refine so_fieldO (o' := 3) rfl rfl rfl Try.underlying36 rfl inf34 rfl rfl ?_
    refine so_load rfl rfl rfl (by first | exact ld_own Try.underlying34 rfl (by repeat (first | exact List.Mem.head _ | apply List.Mem.tail)) (by first | exact (cellsOf_get rfl).trans (congrArg some hx2) | exact (cellsOf_get rfl).trans (congrArg some hy2) | exact cellsOf_get rfl | rfl) | exact ld_data Try.underlying34 rfl (by first | assumption | exact InA.add (by assumption) | exact InA.add (InA.add (by assumption))) (by assumption)) ?_
    refine so_move rfl rfl rfl ?_
    first | refine so_indexO rfl rfl rfl rfl Try.underlying34 inf44 rfl (by omega) rfl ?_ | refine so_index rfl rfl rfl rfl Try.underlying34 inf44 rfl (by omega) ?_
    refine so_load rfl rfl rfl (by first | exact ld_ownA Try.underlying44 rfl inf44 rfl (by repeat (first | exact List.Mem.head _ | apply List.Mem.tail)) (by first | exact cellsOf_le rfl | decide | omega) (by first | exact cellsOf_all | exact take_all rfl | exact cellsOf_part rfl | rfl) | exact ld_dataA Try.underlying44 rfl inf44 rfl (by first | assumption | exact InA.add (by assumption) | exact InA.add (InA.add (by assumption))) (by assumption)) ?_
    refine so_fieldO (o' := 3) rfl rfl rfl Try.underlying36 rfl inf34 rfl rfl ?_
    refine so_load rfl rfl rfl (by first | exact ld_own Try.underlying34 rfl (by repeat (first | exact List.Mem.head _ | apply List.Mem.tail)) (by first | exact (cellsOf_get rfl).trans (congrArg some hx2) | exact (cellsOf_get rfl).trans (congrArg some hy2) | exact cellsOf_get rfl | rfl) | exact ld_data Try.underlying34 rfl (by first | assumption | exact InA.add (by assumption) | exact InA.add (InA.add (by assumption))) (by assumption)) ?_
    refine so_move rfl rfl rfl ?_
    first | refine so_indexO rfl rfl rfl rfl Try.underlying34 inf44 rfl (by omega) rfl ?_ | refine so_index rfl rfl rfl rfl Try.underlying34 inf44 rfl (by omega) ?_
    refine so_load rfl rfl rfl (by first | exact ld_ownA Try.underlying44 rfl inf44 rfl (by repeat (first | exact List.Mem.head _ | apply List.Mem.tail)) (by first | exact cellsOf_le rfl | decide | omega) (by first | exact cellsOf_all | exact take_all rfl | exact cellsOf_part rfl | rfl) | exact ld_dataA Try.underlying44 rfl inf44 rfl (by first | assumption | exact InA.add (by assumption) | exact InA.add (InA.add (by assumption))) (by assumption)) ?_
    refine so_bin rfl rfl rfl rfl (by first | exact (bin_aggsame Try.underlying44 rfl (by kernel_rfl) rfl kx ky).2) ?_
    refine so_then ?_
    refine sx_false rfl ?_
    refine sx_skip ?_
    refine sk_block ?_
    refine sk_then ?_
    refine sx_region (E := E) ?_
    refine so_move rfl rfl rfl ?_
    refine so_bin rfl rfl rfl rfl (by first | exact bin_incr (by omega) | exact bin_add (wrap64 (by omega) (by omega)) | exact bin_add rfl) ?_
    refine so_assign rfl rfl rfl ?_
    refine so_nil ?_
    exact sk_round (s + 1) (show l.length - (s + 1) < l.length - s by omega) (show s + 1 ≤ l.length by omega) (by repeat (first | exact .nil | refine .cons rfl ?_)) rfl rfl (by repeat (first | exact List.nil_sublist _ | apply List.Sublist.cons_cons | apply List.Sublist.cons))
  · skip
    refine sx_region (E := E) ?_
    refine so_move rfl rfl rfl ?_
    refine so_fieldO (o' := 3) rfl rfl rfl Try.underlying36 rfl inf34 rfl rfl ?_
    refine so_load rfl rfl rfl (by first | exact ld_own Try.underlying34 rfl (by repeat (first | exact List.Mem.head _ | apply List.Mem.tail)) (by first | exact (cellsOf_get rfl).trans (congrArg some hx2) | exact (cellsOf_get rfl).trans (congrArg some hy2) | exact cellsOf_get rfl | rfl) | exact ld_data Try.underlying34 rfl (by first | assumption | exact InA.add (by assumption) | exact InA.add (InA.add (by assumption))) (by assumption)) ?_
    refine so_lenL rfl rfl rfl rfl rfl rfl Try.underlying34 ?_
    refine so_bin rfl rfl rfl rfl (by first | exact bin_lss_t (by omega) | exact bin_lss_f (by omega)) ?_
    refine so_then ?_
    refine sx_false rfl ?_
    refine sx_exit ?_
    refine sk_then_exit ?_
    refine sk_loop_exit ?_
    refine sk_block_exit ?_
    refine sk_then ?_
    refine sx_seq ?_
    refine sx_region (E := E) ?_
    refine so_assign rfl rfl rfl ?_
    refine so_then ?_
    refine sx_ret ?_
    refine sk_return1 (.tmp rfl .nil) ?_
    exact fun H hH => ⟨rfl, hH.kept⟩

end Go.Proofs.Ytaedeadgbojmnaa
