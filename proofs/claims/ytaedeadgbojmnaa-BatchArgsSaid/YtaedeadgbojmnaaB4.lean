/-
  Walks, laid by program.
-/
import Derived.Test.YtaedeadgbojmnaaB3
set_option linter.unusedVariables false
set_option linter.unusedSimpArgs false
set_option maxRecDepth 100000
namespace Go.Proofs.Ytaedeadgbojmnaa
open Go Go.AM
theorem sameBrush_ok {S : AH} {A : Nat → Prop} (hA : ∀ j, A j → j < S.nx) {xs ys : List Value} {cs : List CT} (hx : CellsA A S (k41) xs cs) (hy : CellsA A S (k41) ys cs) : XCall Try.prog 27 [.agg ⟨xs⟩, .agg ⟨ys⟩] S fun v H' => v = .bool true ∧ Kept S.nx S H' := by
  obtain ⟨x, y, c, rfl, rfl, rfl, px, py⟩ := hx.fn2 hy (n := 16) rfl
  clear hx hy
  obtain ⟨l, ax, cx, ec, hx2, rx⟩ := (px 14 _ rfl).rowD
  obtain ⟨l2, ay, cy, e2, hy2, ry⟩ := (py 14 _ rfl).rowD
  rw [ec] at e2; cases e2
  have hb := rx.len
  refine x_enter (E := E) (n := 136) (rs := [.tmp 4]) (l := [(1, _), (0, _)]) (fn_own Try.func27 rfl rfl rfl) hA rfl ?_
  refine sx_seq ?_
  refine sx_region (E := E) ?_
  refine so_boxA rfl rfl (fun h => nomatch h) rfl ?_
  intro N2
  refine so_boxA rfl rfl (fun h => nomatch h) rfl ?_
  intro N3
  refine so_assign rfl rfl rfl ?_
  refine so_then ?_
  refine sx_seq ?_
  refine sx_seq ?_
  refine sx_region (E := E) ?_
  refine so_fieldO (o' := 0) rfl rfl rfl Try.underlying41 rfl inf3 rfl rfl ?_
  refine so_load rfl rfl rfl (by first | exact ld_own Try.underlying3 rfl (by repeat (first | exact List.Mem.head _ | apply List.Mem.tail)) (by first | exact (cellsOf_get rfl).trans (congrArg some hx2) | exact (cellsOf_get rfl).trans (congrArg some hy2) | exact cellsOf_get rfl | rfl) | exact ld_data Try.underlying3 rfl (by first | assumption | exact InA.add (by assumption) | exact InA.add (InA.add (by assumption))) (by assumption)) ?_
  refine so_fieldO (o' := 0) rfl rfl rfl Try.underlying41 rfl inf3 rfl rfl ?_
  refine so_load rfl rfl rfl (by first | exact ld_own Try.underlying3 rfl (by repeat (first | exact List.Mem.head _ | apply List.Mem.tail)) (by first | exact (cellsOf_get rfl).trans (congrArg some hx2) | exact (cellsOf_get rfl).trans (congrArg some hy2) | exact cellsOf_get rfl | rfl) | exact ld_data Try.underlying3 rfl (by first | assumption | exact InA.add (by assumption) | exact InA.add (InA.add (by assumption))) (by assumption)) ?_
  refine so_bin rfl rfl rfl rfl (by first | exact bin_neq_f (by first | rfl | assumption | omega) | exact bin_neq_t (by first | rfl | assumption | omega) | exact bin_samen Try.underlying3 (by rfl) (px _ _ rfl) (py _ _ rfl)) ?_
  refine so_move rfl rfl rfl ?_
  first | refine so_fieldO (o' := 1) rfl rfl rfl Try.underlying41 rfl inf3 rfl rfl ?_ | refine so_skip rfl rfl rfl ?_
  first | refine so_load rfl rfl rfl (by first | exact ld_own Try.underlying3 rfl (by repeat (first | exact List.Mem.head _ | apply List.Mem.tail)) (by first | exact (cellsOf_get rfl).trans (congrArg some hx2) | exact (cellsOf_get rfl).trans (congrArg some hy2) | exact cellsOf_get rfl | rfl) | exact ld_data Try.underlying3 rfl (by first | assumption | exact InA.add (by assumption) | exact InA.add (InA.add (by assumption))) (by assumption)) ?_ | refine so_skip rfl rfl rfl ?_
  first | refine so_fieldO (o' := 1) rfl rfl rfl Try.underlying41 rfl inf3 rfl rfl ?_ | refine so_skip rfl rfl rfl ?_
  first | refine so_load rfl rfl rfl (by first | exact ld_own Try.underlying3 rfl (by repeat (first | exact List.Mem.head _ | apply List.Mem.tail)) (by first | exact (cellsOf_get rfl).trans (congrArg some hx2) | exact (cellsOf_get rfl).trans (congrArg some hy2) | exact cellsOf_get rfl | rfl) | exact ld_data Try.underlying3 rfl (by first | assumption | exact InA.add (by assumption) | exact InA.add (InA.add (by assumption))) (by assumption)) ?_ | refine so_skip rfl rfl rfl ?_
  first | refine so_bin rfl rfl rfl rfl (by first | exact bin_neq_f (by first | rfl | assumption | omega) | exact bin_neq_t (by first | rfl | assumption | omega) | exact bin_samen Try.underlying3 (by rfl) (px _ _ rfl) (py _ _ rfl)) ?_ | refine so_skip rfl rfl rfl ?_
  first | refine so_pick_t rfl rfl rfl rfl ?_ | refine so_pick_f rfl rfl rfl rfl ?_
  refine so_move rfl rfl rfl ?_
  first | refine so_fieldO (o' := 2) rfl rfl rfl Try.underlying41 rfl inf3 rfl rfl ?_ | refine so_skip rfl rfl rfl ?_
  first | refine so_load rfl rfl rfl (by first | exact ld_own Try.underlying3 rfl (by repeat (first | exact List.Mem.head _ | apply List.Mem.tail)) (by first | exact (cellsOf_get rfl).trans (congrArg some hx2) | exact (cellsOf_get rfl).trans (congrArg some hy2) | exact cellsOf_get rfl | rfl) | exact ld_data Try.underlying3 rfl (by first | assumption | exact InA.add (by assumption) | exact InA.add (InA.add (by assumption))) (by assumption)) ?_ | refine so_skip rfl rfl rfl ?_
  first | refine so_fieldO (o' := 2) rfl rfl rfl Try.underlying41 rfl inf3 rfl rfl ?_ | refine so_skip rfl rfl rfl ?_
  first | refine so_load rfl rfl rfl (by first | exact ld_own Try.underlying3 rfl (by repeat (first | exact List.Mem.head _ | apply List.Mem.tail)) (by first | exact (cellsOf_get rfl).trans (congrArg some hx2) | exact (cellsOf_get rfl).trans (congrArg some hy2) | exact cellsOf_get rfl | rfl) | exact ld_data Try.underlying3 rfl (by first | assumption | exact InA.add (by assumption) | exact InA.add (InA.add (by assumption))) (by assumption)) ?_ | refine so_skip rfl rfl rfl ?_
  first | refine so_bin rfl rfl rfl rfl (by first | exact bin_neq_f (by first | rfl | assumption | omega) | exact bin_neq_t (by first | rfl | assumption | omega) | exact bin_samen Try.underlying3 (by rfl) (px _ _ rfl) (py _ _ rfl)) ?_ | refine so_skip rfl rfl rfl ?_
  first | refine so_pick_t rfl rfl rfl rfl ?_ | refine so_pick_f rfl rfl rfl rfl ?_
  refine so_move rfl rfl rfl ?_
  first | refine so_fieldO (o' := 3) rfl rfl rfl Try.underlying41 rfl inf3 rfl rfl ?_ | refine so_skip rfl rfl rfl ?_
  first | refine so_load rfl rfl rfl (by first | exact ld_own Try.underlying3 rfl (by repeat (first | exact List.Mem.head _ | apply List.Mem.tail)) (by first | exact (cellsOf_get rfl).trans (congrArg some hx2) | exact (cellsOf_get rfl).trans (congrArg some hy2) | exact cellsOf_get rfl | rfl) | exact ld_data Try.underlying3 rfl (by first | assumption | exact InA.add (by assumption) | exact InA.add (InA.add (by assumption))) (by assumption)) ?_ | refine so_skip rfl rfl rfl ?_
  first | refine so_fieldO (o' := 3) rfl rfl rfl Try.underlying41 rfl inf3 rfl rfl ?_ | refine so_skip rfl rfl rfl ?_
  first | refine so_load rfl rfl rfl (by first | exact ld_own Try.underlying3 rfl (by repeat (first | exact List.Mem.head _ | apply List.Mem.tail)) (by first | exact (cellsOf_get rfl).trans (congrArg some hx2) | exact (cellsOf_get rfl).trans (congrArg some hy2) | exact cellsOf_get rfl | rfl) | exact ld_data Try.underlying3 rfl (by first | assumption | exact InA.add (by assumption) | exact InA.add (InA.add (by assumption))) (by assumption)) ?_ | refine so_skip rfl rfl rfl ?_
  first | refine so_bin rfl rfl rfl rfl (by first | exact bin_neq_f (by first | rfl | assumption | omega) | exact bin_neq_t (by first | rfl | assumption | omega) | exact bin_samen Try.underlying3 (by rfl) (px _ _ rfl) (py _ _ rfl)) ?_ | refine so_skip rfl rfl rfl ?_
  first | refine so_pick_t rfl rfl rfl rfl ?_ | refine so_pick_f rfl rfl rfl rfl ?_
  refine so_move rfl rfl rfl ?_
  first | refine so_fieldO (o' := 4) rfl rfl rfl Try.underlying41 rfl inf3 rfl rfl ?_ | refine so_skip rfl rfl rfl ?_
  first | refine so_load rfl rfl rfl (by first | exact ld_own Try.underlying3 rfl (by repeat (first | exact List.Mem.head _ | apply List.Mem.tail)) (by first | exact (cellsOf_get rfl).trans (congrArg some hx2) | exact (cellsOf_get rfl).trans (congrArg some hy2) | exact cellsOf_get rfl | rfl) | exact ld_data Try.underlying3 rfl (by first | assumption | exact InA.add (by assumption) | exact InA.add (InA.add (by assumption))) (by assumption)) ?_ | refine so_skip rfl rfl rfl ?_
  first | refine so_fieldO (o' := 4) rfl rfl rfl Try.underlying41 rfl inf3 rfl rfl ?_ | refine so_skip rfl rfl rfl ?_
  first | refine so_load rfl rfl rfl (by first | exact ld_own Try.underlying3 rfl (by repeat (first | exact List.Mem.head _ | apply List.Mem.tail)) (by first | exact (cellsOf_get rfl).trans (congrArg some hx2) | exact (cellsOf_get rfl).trans (congrArg some hy2) | exact cellsOf_get rfl | rfl) | exact ld_data Try.underlying3 rfl (by first | assumption | exact InA.add (by assumption) | exact InA.add (InA.add (by assumption))) (by assumption)) ?_ | refine so_skip rfl rfl rfl ?_
  first | refine so_bin rfl rfl rfl rfl (by first | exact bin_neq_f (by first | rfl | assumption | omega) | exact bin_neq_t (by first | rfl | assumption | omega) | exact bin_samen Try.underlying3 (by rfl) (px _ _ rfl) (py _ _ rfl)) ?_ | refine so_skip rfl rfl rfl ?_
  first | refine so_pick_t rfl rfl rfl rfl ?_ | refine so_pick_f rfl rfl rfl rfl ?_
  refine so_move rfl rfl rfl ?_
  first | refine so_fieldO (o' := 5) rfl rfl rfl Try.underlying41 rfl inf3 rfl rfl ?_ | refine so_skip rfl rfl rfl ?_
  first | refine so_load rfl rfl rfl (by first | exact ld_own Try.underlying3 rfl (by repeat (first | exact List.Mem.head _ | apply List.Mem.tail)) (by first | exact (cellsOf_get rfl).trans (congrArg some hx2) | exact (cellsOf_get rfl).trans (congrArg some hy2) | exact cellsOf_get rfl | rfl) | exact ld_data Try.underlying3 rfl (by first | assumption | exact InA.add (by assumption) | exact InA.add (InA.add (by assumption))) (by assumption)) ?_ | refine so_skip rfl rfl rfl ?_
  first | refine so_fieldO (o' := 5) rfl rfl rfl Try.underlying41 rfl inf3 rfl rfl ?_ | refine so_skip rfl rfl rfl ?_
  first | refine so_load rfl rfl rfl (by first | exact ld_own Try.underlying3 rfl (by repeat (first | exact List.Mem.head _ | apply List.Mem.tail)) (by first | exact (cellsOf_get rfl).trans (congrArg some hx2) | exact (cellsOf_get rfl).trans (congrArg some hy2) | exact cellsOf_get rfl | rfl) | exact ld_data Try.underlying3 rfl (by first | assumption | exact InA.add (by assumption) | exact InA.add (InA.add (by assumption))) (by assumption)) ?_ | refine so_skip rfl rfl rfl ?_
  first | refine so_bin rfl rfl rfl rfl (by first | exact bin_neq_f (by first | rfl | assumption | omega) | exact bin_neq_t (by first | rfl | assumption | omega) | exact bin_samen Try.underlying3 (by rfl) (px _ _ rfl) (py _ _ rfl)) ?_ | refine so_skip rfl rfl rfl ?_
  first | refine so_pick_t rfl rfl rfl rfl ?_ | refine so_pick_f rfl rfl rfl rfl ?_
  refine so_move rfl rfl rfl ?_
  first | refine so_fieldO (o' := 6) rfl rfl rfl Try.underlying41 rfl inf3 rfl rfl ?_ | refine so_skip rfl rfl rfl ?_
  first | refine so_load rfl rfl rfl (by first | exact ld_own Try.underlying3 rfl (by repeat (first | exact List.Mem.head _ | apply List.Mem.tail)) (by first | exact (cellsOf_get rfl).trans (congrArg some hx2) | exact (cellsOf_get rfl).trans (congrArg some hy2) | exact cellsOf_get rfl | rfl) | exact ld_data Try.underlying3 rfl (by first | assumption | exact InA.add (by assumption) | exact InA.add (InA.add (by assumption))) (by assumption)) ?_ | refine so_skip rfl rfl rfl ?_
  first | refine so_fieldO (o' := 6) rfl rfl rfl Try.underlying41 rfl inf3 rfl rfl ?_ | refine so_skip rfl rfl rfl ?_
  first | refine so_load rfl rfl rfl (by first | exact ld_own Try.underlying3 rfl (by repeat (first | exact List.Mem.head _ | apply List.Mem.tail)) (by first | exact (cellsOf_get rfl).trans (congrArg some hx2) | exact (cellsOf_get rfl).trans (congrArg some hy2) | exact cellsOf_get rfl | rfl) | exact ld_data Try.underlying3 rfl (by first | assumption | exact InA.add (by assumption) | exact InA.add (InA.add (by assumption))) (by assumption)) ?_ | refine so_skip rfl rfl rfl ?_
  first | refine so_bin rfl rfl rfl rfl (by first | exact bin_neq_f (by first | rfl | assumption | omega) | exact bin_neq_t (by first | rfl | assumption | omega) | exact bin_samen Try.underlying3 (by rfl) (px _ _ rfl) (py _ _ rfl)) ?_ | refine so_skip rfl rfl rfl ?_
  first | refine so_pick_t rfl rfl rfl rfl ?_ | refine so_pick_f rfl rfl rfl rfl ?_
  refine so_move rfl rfl rfl ?_
  first | refine so_fieldO (o' := 7) rfl rfl rfl Try.underlying41 rfl inf3 rfl rfl ?_ | refine so_skip rfl rfl rfl ?_
  first | refine so_load rfl rfl rfl (by first | exact ld_own Try.underlying3 rfl (by repeat (first | exact List.Mem.head _ | apply List.Mem.tail)) (by first | exact (cellsOf_get rfl).trans (congrArg some hx2) | exact (cellsOf_get rfl).trans (congrArg some hy2) | exact cellsOf_get rfl | rfl) | exact ld_data Try.underlying3 rfl (by first | assumption | exact InA.add (by assumption) | exact InA.add (InA.add (by assumption))) (by assumption)) ?_ | refine so_skip rfl rfl rfl ?_
  first | refine so_fieldO (o' := 7) rfl rfl rfl Try.underlying41 rfl inf3 rfl rfl ?_ | refine so_skip rfl rfl rfl ?_
  first | refine so_load rfl rfl rfl (by first | exact ld_own Try.underlying3 rfl (by repeat (first | exact List.Mem.head _ | apply List.Mem.tail)) (by first | exact (cellsOf_get rfl).trans (congrArg some hx2) | exact (cellsOf_get rfl).trans (congrArg some hy2) | exact cellsOf_get rfl | rfl) | exact ld_data Try.underlying3 rfl (by first | assumption | exact InA.add (by assumption) | exact InA.add (InA.add (by assumption))) (by assumption)) ?_ | refine so_skip rfl rfl rfl ?_
  first | refine so_bin rfl rfl rfl rfl (by first | exact bin_neq_f (by first | rfl | assumption | omega) | exact bin_neq_t (by first | rfl | assumption | omega) | exact bin_samen Try.underlying3 (by rfl) (px _ _ rfl) (py _ _ rfl)) ?_ | refine so_skip rfl rfl rfl ?_
  first | refine so_pick_t rfl rfl rfl rfl ?_ | refine so_pick_f rfl rfl rfl rfl ?_
  refine so_move rfl rfl rfl ?_
  first | refine so_fieldO (o' := 8) rfl rfl rfl Try.underlying41 rfl inf3 rfl rfl ?_ | refine so_skip rfl rfl rfl ?_
  first | refine so_load rfl rfl rfl (by first | exact ld_own Try.underlying3 rfl (by repeat (first | exact List.Mem.head _ | apply List.Mem.tail)) (by first | exact (cellsOf_get rfl).trans (congrArg some hx2) | exact (cellsOf_get rfl).trans (congrArg some hy2) | exact cellsOf_get rfl | rfl) | exact ld_data Try.underlying3 rfl (by first | assumption | exact InA.add (by assumption) | exact InA.add (InA.add (by assumption))) (by assumption)) ?_ | refine so_skip rfl rfl rfl ?_
  first | refine so_fieldO (o' := 8) rfl rfl rfl Try.underlying41 rfl inf3 rfl rfl ?_ | refine so_skip rfl rfl rfl ?_
  first | refine so_load rfl rfl rfl (by first | exact ld_own Try.underlying3 rfl (by repeat (first | exact List.Mem.head _ | apply List.Mem.tail)) (by first | exact (cellsOf_get rfl).trans (congrArg some hx2) | exact (cellsOf_get rfl).trans (congrArg some hy2) | exact cellsOf_get rfl | rfl) | exact ld_data Try.underlying3 rfl (by first | assumption | exact InA.add (by assumption) | exact InA.add (InA.add (by assumption))) (by assumption)) ?_ | refine so_skip rfl rfl rfl ?_
  first | refine so_bin rfl rfl rfl rfl (by first | exact bin_neq_f (by first | rfl | assumption | omega) | exact bin_neq_t (by first | rfl | assumption | omega) | exact bin_samen Try.underlying3 (by rfl) (px _ _ rfl) (py _ _ rfl)) ?_ | refine so_skip rfl rfl rfl ?_
  first | refine so_pick_t rfl rfl rfl rfl ?_ | refine so_pick_f rfl rfl rfl rfl ?_
  refine so_move rfl rfl rfl ?_
  first | refine so_fieldO (o' := 9) rfl rfl rfl Try.underlying41 rfl inf31 rfl rfl ?_ | refine so_skip rfl rfl rfl ?_
  first | refine so_load rfl rfl rfl (by first | exact ld_ownA Try.underlying31 rfl inf31 rfl (by repeat (first | exact List.Mem.head _ | apply List.Mem.tail)) (by first | exact cellsOf_le rfl | decide | omega) (by first | exact cellsOf_all | exact take_all rfl | exact cellsOf_part rfl | rfl) | exact ld_dataA Try.underlying31 rfl inf31 rfl (by first | assumption | exact InA.add (by assumption) | exact InA.add (InA.add (by assumption))) (by assumption)) ?_ | refine so_skip rfl rfl rfl ?_
  first | refine so_fieldO (o' := 9) rfl rfl rfl Try.underlying41 rfl inf31 rfl rfl ?_ | refine so_skip rfl rfl rfl ?_
  first | refine so_load rfl rfl rfl (by first | exact ld_ownA Try.underlying31 rfl inf31 rfl (by repeat (first | exact List.Mem.head _ | apply List.Mem.tail)) (by first | exact cellsOf_le rfl | decide | omega) (by first | exact cellsOf_all | exact take_all rfl | exact cellsOf_part rfl | rfl) | exact ld_dataA Try.underlying31 rfl inf31 rfl (by first | assumption | exact InA.add (by assumption) | exact InA.add (InA.add (by assumption))) (by assumption)) ?_ | refine so_skip rfl rfl rfl ?_
  first | refine so_bin rfl rfl rfl rfl (by first | exact (bin_aggsame Try.underlying31 rfl (by kernel_rfl) rfl (px.part 9 4 rfl) (py.part 9 4 rfl)).2) ?_ | refine so_skip rfl rfl rfl ?_
  first | refine so_pick_t rfl rfl rfl rfl ?_ | refine so_pick_f rfl rfl rfl rfl ?_
  refine so_move rfl rfl rfl ?_
  first | refine so_fieldO (o' := 13) rfl rfl rfl Try.underlying41 rfl inf3 rfl rfl ?_ | refine so_skip rfl rfl rfl ?_
  first | refine so_load rfl rfl rfl (by first | exact ld_own Try.underlying3 rfl (by repeat (first | exact List.Mem.head _ | apply List.Mem.tail)) (by first | exact (cellsOf_get rfl).trans (congrArg some hx2) | exact (cellsOf_get rfl).trans (congrArg some hy2) | exact cellsOf_get rfl | rfl) | exact ld_data Try.underlying3 rfl (by first | assumption | exact InA.add (by assumption) | exact InA.add (InA.add (by assumption))) (by assumption)) ?_ | refine so_skip rfl rfl rfl ?_
  first | refine so_fieldO (o' := 13) rfl rfl rfl Try.underlying41 rfl inf3 rfl rfl ?_ | refine so_skip rfl rfl rfl ?_
  first | refine so_load rfl rfl rfl (by first | exact ld_own Try.underlying3 rfl (by repeat (first | exact List.Mem.head _ | apply List.Mem.tail)) (by first | exact (cellsOf_get rfl).trans (congrArg some hx2) | exact (cellsOf_get rfl).trans (congrArg some hy2) | exact cellsOf_get rfl | rfl) | exact ld_data Try.underlying3 rfl (by first | assumption | exact InA.add (by assumption) | exact InA.add (InA.add (by assumption))) (by assumption)) ?_ | refine so_skip rfl rfl rfl ?_
  first | refine so_bin rfl rfl rfl rfl (by first | exact bin_neq_f (by first | rfl | assumption | omega) | exact bin_neq_t (by first | rfl | assumption | omega) | exact bin_samen Try.underlying3 (by rfl) (px _ _ rfl) (py _ _ rfl)) ?_ | refine so_skip rfl rfl rfl ?_
  first | refine so_pick_t rfl rfl rfl rfl ?_ | refine so_pick_f rfl rfl rfl rfl ?_
  refine so_move rfl rfl rfl ?_
  first | refine so_fieldO (o' := 15) rfl rfl rfl Try.underlying41 rfl inf4 rfl rfl ?_ | refine so_skip rfl rfl rfl ?_
  first | refine so_load rfl rfl rfl (by first | exact ld_own Try.underlying4 rfl (by repeat (first | exact List.Mem.head _ | apply List.Mem.tail)) (by first | exact (cellsOf_get rfl).trans (congrArg some hx2) | exact (cellsOf_get rfl).trans (congrArg some hy2) | exact cellsOf_get rfl | rfl) | exact ld_data Try.underlying4 rfl (by first | assumption | exact InA.add (by assumption) | exact InA.add (InA.add (by assumption))) (by assumption)) ?_ | refine so_skip rfl rfl rfl ?_
  first | refine so_fieldO (o' := 15) rfl rfl rfl Try.underlying41 rfl inf4 rfl rfl ?_ | refine so_skip rfl rfl rfl ?_
  first | refine so_load rfl rfl rfl (by first | exact ld_own Try.underlying4 rfl (by repeat (first | exact List.Mem.head _ | apply List.Mem.tail)) (by first | exact (cellsOf_get rfl).trans (congrArg some hx2) | exact (cellsOf_get rfl).trans (congrArg some hy2) | exact cellsOf_get rfl | rfl) | exact ld_data Try.underlying4 rfl (by first | assumption | exact InA.add (by assumption) | exact InA.add (InA.add (by assumption))) (by assumption)) ?_ | refine so_skip rfl rfl rfl ?_
  first | refine so_bin rfl rfl rfl rfl (by first | exact bin_samen Try.underlying4 (by rfl) (px _ _ rfl) (py _ _ rfl)) ?_ | refine so_skip rfl rfl rfl ?_
  first | refine so_pick_t rfl rfl rfl rfl ?_ | refine so_pick_f rfl rfl rfl rfl ?_
  refine so_move rfl rfl rfl ?_
  first | refine so_fieldO (o' := 14) rfl rfl rfl Try.underlying41 rfl inf39 rfl rfl ?_ | refine so_skip rfl rfl rfl ?_
  first | refine so_load rfl rfl rfl (by first | exact ld_own Try.underlying39 rfl (by repeat (first | exact List.Mem.head _ | apply List.Mem.tail)) (by first | exact (cellsOf_get rfl).trans (congrArg some hx2) | exact (cellsOf_get rfl).trans (congrArg some hy2) | exact cellsOf_get rfl | rfl) | exact ld_data Try.underlying39 rfl (by first | assumption | exact InA.add (by assumption) | exact InA.add (InA.add (by assumption))) (by assumption)) ?_ | refine so_skip rfl rfl rfl ?_
  first | refine so_lenL rfl rfl rfl rfl rfl rfl Try.underlying39 ?_ | refine so_skip rfl rfl rfl ?_
  first | refine so_fieldO (o' := 14) rfl rfl rfl Try.underlying41 rfl inf39 rfl rfl ?_ | refine so_skip rfl rfl rfl ?_
  first | refine so_load rfl rfl rfl (by first | exact ld_own Try.underlying39 rfl (by repeat (first | exact List.Mem.head _ | apply List.Mem.tail)) (by first | exact (cellsOf_get rfl).trans (congrArg some hx2) | exact (cellsOf_get rfl).trans (congrArg some hy2) | exact cellsOf_get rfl | rfl) | exact ld_data Try.underlying39 rfl (by first | assumption | exact InA.add (by assumption) | exact InA.add (InA.add (by assumption))) (by assumption)) ?_ | refine so_skip rfl rfl rfl ?_
  first | refine so_lenL rfl rfl rfl rfl rfl rfl Try.underlying39 ?_ | refine so_skip rfl rfl rfl ?_
  first | refine so_bin rfl rfl rfl rfl (by first | exact bin_neq_f (by first | rfl | assumption | omega) | exact bin_neq_t (by first | rfl | assumption | omega)) ?_ | refine so_skip rfl rfl rfl ?_
  first | refine so_pick_t rfl rfl rfl rfl ?_ | refine so_pick_f rfl rfl rfl rfl ?_
  refine so_then ?_
  refine sx_false rfl ?_
  refine sx_skip ?_
  refine sk_then ?_
  refine sx_seq ?_
  refine sx_seq ?_
  refine sx_region (E := E) ?_
  refine so_assign rfl rfl rfl ?_
  refine so_then ?_
  refine sx_block ?_
  refine sx_loop (σ := Nat) (fun k => l.length - k) (fun k => [(2, .pointer (some ⟨2 * N2 + 1, 0, none⟩)), (3, .pointer (some ⟨2 * N3 + 1, 0, none⟩)), (5, .int .i64 ((k : Nat) : Int))]) (fun _ => S) (fun _ => A) (fun _ => [(N3, .cells (cellsOf 16 y) (boxsz E 41) true), (N2, .cells (cellsOf 16 x) (boxsz E 41) true)]) (fun k => k ≤ l.length) (0) (Nat.zero_le _) (by repeat (first | exact .nil | refine .cons rfl ?_)) rfl rfl (by repeat (first | exact List.nil_sublist _ | apply List.Sublist.cons_cons | apply List.Sublist.cons)) ?_
  intro s hJ t1
  replace hJ : s ≤ l.length := hJ
  refine sx_seq ?_
  refine sx_seq ?_
  rcases Nat.lt_or_ge s l.length with hk | hk
  · skip
    obtain ⟨qx, us, d, rfl, ix, hc, lx, kx⟩ := rx.at' s hk
    obtain ⟨qy, vs, d2, rfl, iy, hc2, ly, ky⟩ := ry.at' s hk
    rw [hc] at hc2; cases hc2
    obtain ⟨u, v, dc, rfl, rfl, rfl, qx, qy⟩ := kx.fn2 ky (n := 3) rfl
    refine sx_region (E := E) ?_
    refine so_move rfl rfl rfl ?_
    refine so_fieldO (o' := 14) rfl rfl rfl Try.underlying41 rfl inf39 rfl rfl ?_
    refine so_load rfl rfl rfl (by first | exact ld_own Try.underlying39 rfl (by repeat (first | exact List.Mem.head _ | apply List.Mem.tail)) (by first | exact (cellsOf_get rfl).trans (congrArg some hx2) | exact (cellsOf_get rfl).trans (congrArg some hy2) | exact cellsOf_get rfl | rfl) | exact ld_data Try.underlying39 rfl (by first | assumption | exact InA.add (by assumption) | exact InA.add (InA.add (by assumption))) (by assumption)) ?_
    refine so_lenL rfl rfl rfl rfl rfl rfl Try.underlying39 ?_
    refine so_bin rfl rfl rfl rfl (by first | exact bin_lss_t (by omega) | exact bin_lss_f (by omega)) ?_
    refine so_then ?_
    refine sx_true rfl ?_
    refine sx_skip ?_
    refine sk_then ?_
    refine sx_seq ?_
    refine sx_block ?_
    refine sx_seq ?_
    refine sx_drawF (E := E) mixed [10, 11, 12, 13] [11] _ (List.Sublist.refl _) (by kernel_rfl) (by kernel_rfl) (by kernel_rfl) (by decide) ?_
    refine so_fieldO (o' := 14) rfl rfl rfl Try.underlying41 rfl inf39 rfl rfl ?_
    refine so_load rfl rfl rfl (by first | exact ld_own Try.underlying39 rfl (by repeat (first | exact List.Mem.head _ | apply List.Mem.tail)) (by first | exact (cellsOf_get rfl).trans (congrArg some hx2) | exact (cellsOf_get rfl).trans (congrArg some hy2) | exact cellsOf_get rfl | rfl) | exact ld_data Try.underlying39 rfl (by first | assumption | exact InA.add (by assumption) | exact InA.add (InA.add (by assumption))) (by assumption)) ?_
    refine so_move rfl rfl rfl ?_
    first | refine so_indexO rfl rfl rfl rfl Try.underlying39 inf102 rfl (by omega) rfl ?_ | refine so_index rfl rfl rfl rfl Try.underlying39 inf102 rfl (by omega) ?_
    refine so_load rfl rfl rfl (by first | exact ld_ownA Try.underlying102 rfl inf102 rfl (by repeat (first | exact List.Mem.head _ | apply List.Mem.tail)) (by first | exact cellsOf_le rfl | decide | omega) (by first | exact cellsOf_all | exact take_all rfl | exact cellsOf_part rfl | rfl) | exact ld_dataA Try.underlying102 rfl inf102 rfl (by first | assumption | exact InA.add (by assumption) | exact InA.add (InA.add (by assumption))) (by assumption)) ?_
    refine so_fieldO (o' := 14) rfl rfl rfl Try.underlying41 rfl inf39 rfl rfl ?_
    refine so_load rfl rfl rfl (by first | exact ld_own Try.underlying39 rfl (by repeat (first | exact List.Mem.head _ | apply List.Mem.tail)) (by first | exact (cellsOf_get rfl).trans (congrArg some hx2) | exact (cellsOf_get rfl).trans (congrArg some hy2) | exact cellsOf_get rfl | rfl) | exact ld_data Try.underlying39 rfl (by first | assumption | exact InA.add (by assumption) | exact InA.add (InA.add (by assumption))) (by assumption)) ?_
    refine so_move rfl rfl rfl ?_
    first | refine so_indexO rfl rfl rfl rfl Try.underlying39 inf102 rfl (by omega) rfl ?_ | refine so_index rfl rfl rfl rfl Try.underlying39 inf102 rfl (by omega) ?_
    refine so_load rfl rfl rfl (by first | exact ld_ownA Try.underlying102 rfl inf102 rfl (by repeat (first | exact List.Mem.head _ | apply List.Mem.tail)) (by first | exact cellsOf_le rfl | decide | omega) (by first | exact cellsOf_all | exact take_all rfl | exact cellsOf_part rfl | rfl) | exact ld_dataA Try.underlying102 rfl inf102 rfl (by first | assumption | exact InA.add (by assumption) | exact InA.add (InA.add (by assumption))) (by assumption)) ?_
    refine so_alloc (cs := (.int .i64 0 :: .int .i64 0 :: .slice none 0 0 :: [])) rfl rfl (fun _ => (by repeat (first | exact List.Mem.head _ | apply List.Mem.tail))) inf102 rfl rfl ?_
    intro N6
    refine so_alloc (cs := (.int .i64 0 :: .int .i64 0 :: .slice none 0 0 :: [])) rfl rfl (fun _ => (by repeat (first | exact List.Mem.head _ | apply List.Mem.tail))) inf102 rfl rfl ?_
    intro N7
    refine so_storeA rfl (fun _ => (by repeat (first | exact List.Mem.head _ | apply List.Mem.tail))) rfl rfl inf102 (by first | exact cellsOf_length _ _ | rfl) (CellsA.one (qx.cells (n := 3) rfl)) (by repeat (first | exact .zero | apply Upd.succ)) (by first | exact cellsOf_set rfl | exact cellsOf_setr rfl | exact cellsOf_store rfl | exact store_all rfl | rfl) (by first | exact cellsOf_in rfl rfl | exact cellsOf_in rfl (cellsOf_length _ _) | exact cellsOf_le rfl | exact Nat.le_of_ble_eq_true rfl | omega) (fun _ => (by repeat (first | exact List.nil_sublist _ | apply List.Sublist.cons_cons | apply List.Sublist.cons))) ?_
    refine so_storeA rfl (fun _ => (by repeat (first | exact List.Mem.head _ | apply List.Mem.tail))) rfl rfl inf102 (by first | exact cellsOf_length _ _ | rfl) (CellsA.one (qy.cells (n := 3) rfl)) (by repeat (first | exact .zero | apply Upd.succ)) (by first | exact cellsOf_set rfl | exact cellsOf_setr rfl | exact cellsOf_store rfl | exact store_all rfl | rfl) (by first | exact cellsOf_in rfl rfl | exact cellsOf_in rfl (cellsOf_length _ _) | exact cellsOf_le rfl | exact Nat.le_of_ble_eq_true rfl | omega) (fun _ => (by repeat (first | exact List.nil_sublist _ | apply List.Sublist.cons_cons | apply List.Sublist.cons))) ?_
    refine so_then ?_
    refine sx_seq ?_
    refine sx_region (E := E) ?_
    refine so_fieldO (o' := 0) rfl rfl rfl Try.underlying102 rfl inf3 rfl rfl ?_
    refine so_load rfl rfl rfl (by first | exact ld_own Try.underlying3 rfl (by repeat (first | exact List.Mem.head _ | apply List.Mem.tail)) (by first | exact (cellsOf_get rfl).trans (congrArg some hx2) | exact (cellsOf_get rfl).trans (congrArg some hy2) | exact cellsOf_get rfl | rfl) | exact ld_data Try.underlying3 rfl (by first | assumption | exact InA.add (by assumption) | exact InA.add (InA.add (by assumption))) (by assumption)) ?_
    refine so_fieldO (o' := 0) rfl rfl rfl Try.underlying102 rfl inf3 rfl rfl ?_
    refine so_load rfl rfl rfl (by first | exact ld_own Try.underlying3 rfl (by repeat (first | exact List.Mem.head _ | apply List.Mem.tail)) (by first | exact (cellsOf_get rfl).trans (congrArg some hx2) | exact (cellsOf_get rfl).trans (congrArg some hy2) | exact cellsOf_get rfl | rfl) | exact ld_data Try.underlying3 rfl (by first | assumption | exact InA.add (by assumption) | exact InA.add (InA.add (by assumption))) (by assumption)) ?_
    refine so_bin rfl rfl rfl rfl (by first | exact bin_neq_f (by first | rfl | assumption | omega) | exact bin_neq_t (by first | rfl | assumption | omega) | exact bin_samen Try.underlying3 (by rfl) (qx _ _ rfl) (qy _ _ rfl)) ?_
    refine so_move rfl rfl rfl ?_
    first | refine so_fieldO (o' := 1) rfl rfl rfl Try.underlying102 rfl inf3 rfl rfl ?_ | refine so_skip rfl rfl rfl ?_
    first | refine so_load rfl rfl rfl (by first | exact ld_own Try.underlying3 rfl (by repeat (first | exact List.Mem.head _ | apply List.Mem.tail)) (by first | exact (cellsOf_get rfl).trans (congrArg some hx2) | exact (cellsOf_get rfl).trans (congrArg some hy2) | exact cellsOf_get rfl | rfl) | exact ld_data Try.underlying3 rfl (by first | assumption | exact InA.add (by assumption) | exact InA.add (InA.add (by assumption))) (by assumption)) ?_ | refine so_skip rfl rfl rfl ?_
    first | refine so_fieldO (o' := 1) rfl rfl rfl Try.underlying102 rfl inf3 rfl rfl ?_ | refine so_skip rfl rfl rfl ?_
    first | refine so_load rfl rfl rfl (by first | exact ld_own Try.underlying3 rfl (by repeat (first | exact List.Mem.head _ | apply List.Mem.tail)) (by first | exact (cellsOf_get rfl).trans (congrArg some hx2) | exact (cellsOf_get rfl).trans (congrArg some hy2) | exact cellsOf_get rfl | rfl) | exact ld_data Try.underlying3 rfl (by first | assumption | exact InA.add (by assumption) | exact InA.add (InA.add (by assumption))) (by assumption)) ?_ | refine so_skip rfl rfl rfl ?_
    first | refine so_bin rfl rfl rfl rfl (by first | exact bin_neq_f (by first | rfl | assumption | omega) | exact bin_neq_t (by first | rfl | assumption | omega) | exact bin_samen Try.underlying3 (by rfl) (qx _ _ rfl) (qy _ _ rfl)) ?_ | refine so_skip rfl rfl rfl ?_
    first | refine so_pick_t rfl rfl rfl rfl ?_ | refine so_pick_f rfl rfl rfl rfl ?_
    refine so_move rfl rfl rfl ?_
    first | refine so_fieldO (o' := 2) rfl rfl rfl Try.underlying102 rfl inf100 rfl rfl ?_ | refine so_skip rfl rfl rfl ?_
    first | refine so_load rfl rfl rfl (by first | exact ld_own Try.underlying100 rfl (by repeat (first | exact List.Mem.head _ | apply List.Mem.tail)) (by first | exact (cellsOf_get rfl).trans (congrArg some hx2) | exact (cellsOf_get rfl).trans (congrArg some hy2) | exact cellsOf_get rfl | rfl) | exact ld_data Try.underlying100 rfl (by first | assumption | exact InA.add (by assumption) | exact InA.add (InA.add (by assumption))) (by assumption)) ?_ | refine so_skip rfl rfl rfl ?_
    first | refine so_fieldO (o' := 2) rfl rfl rfl Try.underlying102 rfl inf100 rfl rfl ?_ | refine so_skip rfl rfl rfl ?_
    first | refine so_load rfl rfl rfl (by first | exact ld_own Try.underlying100 rfl (by repeat (first | exact List.Mem.head _ | apply List.Mem.tail)) (by first | exact (cellsOf_get rfl).trans (congrArg some hx2) | exact (cellsOf_get rfl).trans (congrArg some hy2) | exact cellsOf_get rfl | rfl) | exact ld_data Try.underlying100 rfl (by first | assumption | exact InA.add (by assumption) | exact InA.add (InA.add (by assumption))) (by assumption)) ?_ | refine so_skip rfl rfl rfl ?_
    first | refine so_call rfl rfl (fun h => nomatch h) rfl has43 (by repeat (first | exact Opvs.nil | apply Opvs.cons rfl)) (fun H hH => sameKnots_ok hH.lt (CellA.gr hH.gr _ _ _ (qx 2 _ rfl)) (CellA.gr hH.gr _ _ _ (qy 2 _ rfl))) ?_ | refine so_skip rfl rfl rfl ?_
    first | refine so_not rfl rfl rfl rfl ?_ | refine so_skip rfl rfl rfl ?_
    first | refine so_pick_t rfl rfl rfl rfl ?_ | refine so_pick_f rfl rfl rfl rfl ?_
    refine so_then ?_
    refine sx_false rfl ?_
    refine sx_skip ?_
    refine sk_block ?_
    refine sk_then ?_
    refine sx_region (E := E) ?_
    refine so_move rfl rfl rfl ?_
    refine so_bin rfl rfl rfl rfl (by first | exact bin_incr (by omega) | exact bin_add (wrap64 (by omega) (by omega)) | exact bin_add rfl) ?_
    refine so_assign rfl rfl rfl ?_
    refine so_nil ?_
    exact sk_round (s + 1) (show l.length - (s + 1) < l.length - s by omega) (show s + 1 ≤ l.length by omega) (by repeat (first | exact .nil | refine .cons rfl ?_)) rfl rfl (by repeat (first | exact List.nil_sublist _ | apply List.Sublist.cons_cons | apply List.Sublist.cons))
  · skip
    refine sx_region (E := E) ?_
    refine so_move rfl rfl rfl ?_
    refine so_fieldO (o' := 14) rfl rfl rfl Try.underlying41 rfl inf39 rfl rfl ?_
    refine so_load rfl rfl rfl (by first | exact ld_own Try.underlying39 rfl (by repeat (first | exact List.Mem.head _ | apply List.Mem.tail)) (by first | exact (cellsOf_get rfl).trans (congrArg some hx2) | exact (cellsOf_get rfl).trans (congrArg some hy2) | exact cellsOf_get rfl | rfl) | exact ld_data Try.underlying39 rfl (by first | assumption | exact InA.add (by assumption) | exact InA.add (InA.add (by assumption))) (by assumption)) ?_
    refine so_lenL rfl rfl rfl rfl rfl rfl Try.underlying39 ?_
    refine so_bin rfl rfl rfl rfl (by first | exact bin_lss_t (by omega) | exact bin_lss_f (by omega)) ?_
    refine so_then ?_
    refine sx_false rfl ?_
    refine sx_exit ?_
    refine sk_then_exit ?_
    refine sk_loop_exit ?_
    refine sk_block_exit ?_
    refine sk_then ?_
    refine sx_seq ?_
    refine sx_region (E := E) ?_
    refine so_assign rfl rfl rfl ?_
    refine so_then ?_
    refine sx_ret ?_
    refine sk_return1 (.tmp rfl .nil) ?_
    exact fun H hH => ⟨rfl, hH.kept⟩

theorem sameEdit_ok {S : AH} {A : Nat → Prop} (hA : ∀ j, A j → j < S.nx) {xs ys : List Value} {cs : List CT} (hx : CellsA A S (k48) xs cs) (hy : CellsA A S (k48) ys cs) : XCall Try.prog 9 [.agg ⟨xs⟩, .agg ⟨ys⟩] S fun v H' => v = .bool true ∧ Kept S.nx S H' := by
  obtain ⟨x, y, c, rfl, rfl, rfl, px, py⟩ := hx.fn2 hy (n := 84) rfl
  clear hx hy
  obtain ⟨l, ax, cx, ec, hx2, rx⟩ := (px 73 _ rfl).rowD
  obtain ⟨l2, ay, cy, e2, hy2, ry⟩ := (py 73 _ rfl).rowD
  rw [ec] at e2; cases e2
  have hb := rx.len
  refine x_enter (E := E) (n := 134) (rs := [.tmp 4]) (l := [(1, _), (0, _)]) (fn_own Try.func9 rfl rfl rfl) hA rfl ?_
  refine sx_seq ?_
  refine sx_region (E := E) ?_
  refine so_boxA rfl rfl (fun h => nomatch h) rfl ?_
  intro N2
  refine so_boxA rfl rfl (fun h => nomatch h) rfl ?_
  intro N3
  refine so_assign rfl rfl rfl ?_
  refine so_then ?_
  refine sx_seq ?_
  refine sx_seq ?_
  refine sx_region (E := E) ?_
  refine so_fieldO (o' := 73) rfl rfl rfl Try.underlying48 rfl inf42 rfl rfl ?_
  refine so_load rfl rfl rfl (by first | exact ld_own Try.underlying42 rfl (by repeat (first | exact List.Mem.head _ | apply List.Mem.tail)) (by first | exact (cellsOf_get rfl).trans (congrArg some hx2) | exact (cellsOf_get rfl).trans (congrArg some hy2) | exact cellsOf_get rfl | rfl) | exact ld_data Try.underlying42 rfl (by first | assumption | exact InA.add (by assumption) | exact InA.add (InA.add (by assumption))) (by assumption)) ?_
  refine so_lenL rfl rfl rfl rfl rfl rfl Try.underlying42 ?_
  refine so_fieldO (o' := 73) rfl rfl rfl Try.underlying48 rfl inf42 rfl rfl ?_
  refine so_load rfl rfl rfl (by first | exact ld_own Try.underlying42 rfl (by repeat (first | exact List.Mem.head _ | apply List.Mem.tail)) (by first | exact (cellsOf_get rfl).trans (congrArg some hx2) | exact (cellsOf_get rfl).trans (congrArg some hy2) | exact cellsOf_get rfl | rfl) | exact ld_data Try.underlying42 rfl (by first | assumption | exact InA.add (by assumption) | exact InA.add (InA.add (by assumption))) (by assumption)) ?_
  refine so_lenL rfl rfl rfl rfl rfl rfl Try.underlying42 ?_
  refine so_bin rfl rfl rfl rfl (by first | exact bin_neq_f (by first | rfl | assumption | omega) | exact bin_neq_t (by first | rfl | assumption | omega)) ?_
  refine so_then ?_
  refine sx_false rfl ?_
  refine sx_skip ?_
  refine sk_then ?_
  refine sx_seq ?_
  refine sx_seq ?_
  refine sx_region (E := E) ?_
  refine so_assign rfl rfl rfl ?_
  refine so_then ?_
  refine sx_block ?_
  refine sx_loop (σ := Nat) (fun k => l.length - k) (fun k => [(2, .pointer (some ⟨2 * N2 + 1, 0, none⟩)), (3, .pointer (some ⟨2 * N3 + 1, 0, none⟩)), (5, .int .i64 ((k : Nat) : Int))]) (fun _ => S) (fun _ => A) (fun _ => [(N3, .cells (cellsOf 84 y) (boxsz E 48) true), (N2, .cells (cellsOf 84 x) (boxsz E 48) true)]) (fun k => k ≤ l.length) (0) (Nat.zero_le _) (by repeat (first | exact .nil | refine .cons rfl ?_)) rfl rfl (by repeat (first | exact List.nil_sublist _ | apply List.Sublist.cons_cons | apply List.Sublist.cons)) ?_
  intro s hJ t1
  replace hJ : s ≤ l.length := hJ
  refine sx_seq ?_
  refine sx_seq ?_
  rcases Nat.lt_or_ge s l.length with hk | hk
  · skip
    obtain ⟨qx, us, d, rfl, ix, hc, lx, kx⟩ := rx.at' s hk
    obtain ⟨qy, vs, d2, rfl, iy, hc2, ly, ky⟩ := ry.at' s hk
    rw [hc] at hc2; cases hc2
    refine sx_region (E := E) ?_
    refine so_move rfl rfl rfl ?_
    refine so_fieldO (o' := 73) rfl rfl rfl Try.underlying48 rfl inf42 rfl rfl ?_
    refine so_load rfl rfl rfl (by first | exact ld_own Try.underlying42 rfl (by repeat (first | exact List.Mem.head _ | apply List.Mem.tail)) (by first | exact (cellsOf_get rfl).trans (congrArg some hx2) | exact (cellsOf_get rfl).trans (congrArg some hy2) | exact cellsOf_get rfl | rfl) | exact ld_data Try.underlying42 rfl (by first | assumption | exact InA.add (by assumption) | exact InA.add (InA.add (by assumption))) (by assumption)) ?_
    refine so_lenL rfl rfl rfl rfl rfl rfl Try.underlying42 ?_
    refine so_bin rfl rfl rfl rfl (by first | exact bin_lss_t (by omega) | exact bin_lss_f (by omega)) ?_
    refine so_then ?_
    refine sx_true rfl ?_
    refine sx_skip ?_
    refine sk_then ?_
    refine sx_seq ?_
    refine sx_block ?_
    refine sx_seq ?_
    refine sx_draw (E := E) mixed [] _ (List.Sublist.refl _) (by kernel_rfl) (by kernel_rfl) (by decide) ?_
    refine so_fieldO (o' := 73) rfl rfl rfl Try.underlying48 rfl inf42 rfl rfl ?_
    refine so_load rfl rfl rfl (by first | exact ld_own Try.underlying42 rfl (by repeat (first | exact List.Mem.head _ | apply List.Mem.tail)) (by first | exact (cellsOf_get rfl).trans (congrArg some hx2) | exact (cellsOf_get rfl).trans (congrArg some hy2) | exact cellsOf_get rfl | rfl) | exact ld_data Try.underlying42 rfl (by first | assumption | exact InA.add (by assumption) | exact InA.add (InA.add (by assumption))) (by assumption)) ?_
    refine so_move rfl rfl rfl ?_
    first | refine so_indexO rfl rfl rfl rfl Try.underlying42 inf85 rfl (by omega) rfl ?_ | refine so_index rfl rfl rfl rfl Try.underlying42 inf85 rfl (by omega) ?_
    refine so_load rfl rfl rfl (by first | exact ld_ownA Try.underlying85 rfl inf85 rfl (by repeat (first | exact List.Mem.head _ | apply List.Mem.tail)) (by first | exact cellsOf_le rfl | decide | omega) (by first | exact cellsOf_all | exact take_all rfl | exact cellsOf_part rfl | rfl) | exact ld_dataA Try.underlying85 rfl inf85 rfl (by first | assumption | exact InA.add (by assumption) | exact InA.add (InA.add (by assumption))) (by assumption)) ?_
    refine so_fieldO (o' := 73) rfl rfl rfl Try.underlying48 rfl inf42 rfl rfl ?_
    refine so_load rfl rfl rfl (by first | exact ld_own Try.underlying42 rfl (by repeat (first | exact List.Mem.head _ | apply List.Mem.tail)) (by first | exact (cellsOf_get rfl).trans (congrArg some hx2) | exact (cellsOf_get rfl).trans (congrArg some hy2) | exact cellsOf_get rfl | rfl) | exact ld_data Try.underlying42 rfl (by first | assumption | exact InA.add (by assumption) | exact InA.add (InA.add (by assumption))) (by assumption)) ?_
    refine so_move rfl rfl rfl ?_
    first | refine so_indexO rfl rfl rfl rfl Try.underlying42 inf85 rfl (by omega) rfl ?_ | refine so_index rfl rfl rfl rfl Try.underlying42 inf85 rfl (by omega) ?_
    refine so_load rfl rfl rfl (by first | exact ld_ownA Try.underlying85 rfl inf85 rfl (by repeat (first | exact List.Mem.head _ | apply List.Mem.tail)) (by first | exact cellsOf_le rfl | decide | omega) (by first | exact cellsOf_all | exact take_all rfl | exact cellsOf_part rfl | rfl) | exact ld_dataA Try.underlying85 rfl inf85 rfl (by first | assumption | exact InA.add (by assumption) | exact InA.add (InA.add (by assumption))) (by assumption)) ?_
    refine so_bin rfl rfl rfl rfl (by first | exact (bin_aggsame Try.underlying85 rfl (by kernel_rfl) rfl kx ky).2) ?_
    refine so_then ?_
    refine sx_false rfl ?_
    refine sx_skip ?_
    refine sk_block ?_
    refine sk_then ?_
    refine sx_region (E := E) ?_
    refine so_move rfl rfl rfl ?_
    refine so_bin rfl rfl rfl rfl (by first | exact bin_incr (by omega) | exact bin_add (wrap64 (by omega) (by omega)) | exact bin_add rfl) ?_
    refine so_assign rfl rfl rfl ?_
    refine so_nil ?_
    exact sk_round (s + 1) (show l.length - (s + 1) < l.length - s by omega) (show s + 1 ≤ l.length by omega) (by repeat (first | exact .nil | refine .cons rfl ?_)) rfl rfl (by repeat (first | exact List.nil_sublist _ | apply List.Sublist.cons_cons | apply List.Sublist.cons))
  · skip
    refine sx_region (E := E) ?_
    refine so_move rfl rfl rfl ?_
    refine so_fieldO (o' := 73) rfl rfl rfl Try.underlying48 rfl inf42 rfl rfl ?_
    refine so_load rfl rfl rfl (by first | exact ld_own Try.underlying42 rfl (by repeat (first | exact List.Mem.head _ | apply List.Mem.tail)) (by first | exact (cellsOf_get rfl).trans (congrArg some hx2) | exact (cellsOf_get rfl).trans (congrArg some hy2) | exact cellsOf_get rfl | rfl) | exact ld_data Try.underlying42 rfl (by first | assumption | exact InA.add (by assumption) | exact InA.add (InA.add (by assumption))) (by assumption)) ?_
    refine so_lenL rfl rfl rfl rfl rfl rfl Try.underlying42 ?_
    refine so_bin rfl rfl rfl rfl (by first | exact bin_lss_t (by omega) | exact bin_lss_f (by omega)) ?_
    refine so_then ?_
    refine sx_false rfl ?_
    refine sx_exit ?_
    refine sk_then_exit ?_
    refine sk_loop_exit ?_
    refine sk_block_exit ?_
    refine sk_then ?_
    refine sx_seq ?_
    refine sx_region (E := E) ?_
    refine so_fieldO (o' := 0) rfl rfl rfl Try.underlying48 rfl inf3 rfl rfl ?_
    refine so_load rfl rfl rfl (by first | exact ld_own Try.underlying3 rfl (by repeat (first | exact List.Mem.head _ | apply List.Mem.tail)) (by first | exact (cellsOf_get rfl).trans (congrArg some hx2) | exact (cellsOf_get rfl).trans (congrArg some hy2) | exact cellsOf_get rfl | rfl) | exact ld_data Try.underlying3 rfl (by first | assumption | exact InA.add (by assumption) | exact InA.add (InA.add (by assumption))) (by assumption)) ?_
    refine so_fieldO (o' := 0) rfl rfl rfl Try.underlying48 rfl inf3 rfl rfl ?_
    refine so_load rfl rfl rfl (by first | exact ld_own Try.underlying3 rfl (by repeat (first | exact List.Mem.head _ | apply List.Mem.tail)) (by first | exact (cellsOf_get rfl).trans (congrArg some hx2) | exact (cellsOf_get rfl).trans (congrArg some hy2) | exact cellsOf_get rfl | rfl) | exact ld_data Try.underlying3 rfl (by first | assumption | exact InA.add (by assumption) | exact InA.add (InA.add (by assumption))) (by assumption)) ?_
    refine so_bin rfl rfl rfl rfl (by first | exact bin_eql_t (by first | rfl | assumption | omega) | exact bin_eql_f (by first | rfl | assumption | omega) | exact bin_same Try.underlying3 (by rfl) (px _ _ rfl) (py _ _ rfl)) ?_
    refine so_move rfl rfl rfl ?_
    first | refine so_fieldO (o' := 1) rfl rfl rfl Try.underlying48 rfl inf3 rfl rfl ?_ | refine so_skip rfl rfl rfl ?_
    first | refine so_load rfl rfl rfl (by first | exact ld_own Try.underlying3 rfl (by repeat (first | exact List.Mem.head _ | apply List.Mem.tail)) (by first | exact (cellsOf_get rfl).trans (congrArg some hx2) | exact (cellsOf_get rfl).trans (congrArg some hy2) | exact cellsOf_get rfl | rfl) | exact ld_data Try.underlying3 rfl (by first | assumption | exact InA.add (by assumption) | exact InA.add (InA.add (by assumption))) (by assumption)) ?_ | refine so_skip rfl rfl rfl ?_
    first | refine so_fieldO (o' := 1) rfl rfl rfl Try.underlying48 rfl inf3 rfl rfl ?_ | refine so_skip rfl rfl rfl ?_
    first | refine so_load rfl rfl rfl (by first | exact ld_own Try.underlying3 rfl (by repeat (first | exact List.Mem.head _ | apply List.Mem.tail)) (by first | exact (cellsOf_get rfl).trans (congrArg some hx2) | exact (cellsOf_get rfl).trans (congrArg some hy2) | exact cellsOf_get rfl | rfl) | exact ld_data Try.underlying3 rfl (by first | assumption | exact InA.add (by assumption) | exact InA.add (InA.add (by assumption))) (by assumption)) ?_ | refine so_skip rfl rfl rfl ?_
    first | refine so_bin rfl rfl rfl rfl (by first | exact bin_eql_t (by first | rfl | assumption | omega) | exact bin_eql_f (by first | rfl | assumption | omega) | exact bin_same Try.underlying3 (by rfl) (px _ _ rfl) (py _ _ rfl)) ?_ | refine so_skip rfl rfl rfl ?_
    first | refine so_pick_t rfl rfl rfl rfl ?_ | refine so_pick_f rfl rfl rfl rfl ?_
    refine so_move rfl rfl rfl ?_
    first | refine so_fieldO (o' := 2) rfl rfl rfl Try.underlying48 rfl inf3 rfl rfl ?_ | refine so_skip rfl rfl rfl ?_
    first | refine so_load rfl rfl rfl (by first | exact ld_own Try.underlying3 rfl (by repeat (first | exact List.Mem.head _ | apply List.Mem.tail)) (by first | exact (cellsOf_get rfl).trans (congrArg some hx2) | exact (cellsOf_get rfl).trans (congrArg some hy2) | exact cellsOf_get rfl | rfl) | exact ld_data Try.underlying3 rfl (by first | assumption | exact InA.add (by assumption) | exact InA.add (InA.add (by assumption))) (by assumption)) ?_ | refine so_skip rfl rfl rfl ?_
    first | refine so_fieldO (o' := 2) rfl rfl rfl Try.underlying48 rfl inf3 rfl rfl ?_ | refine so_skip rfl rfl rfl ?_
    first | refine so_load rfl rfl rfl (by first | exact ld_own Try.underlying3 rfl (by repeat (first | exact List.Mem.head _ | apply List.Mem.tail)) (by first | exact (cellsOf_get rfl).trans (congrArg some hx2) | exact (cellsOf_get rfl).trans (congrArg some hy2) | exact cellsOf_get rfl | rfl) | exact ld_data Try.underlying3 rfl (by first | assumption | exact InA.add (by assumption) | exact InA.add (InA.add (by assumption))) (by assumption)) ?_ | refine so_skip rfl rfl rfl ?_
    first | refine so_bin rfl rfl rfl rfl (by first | exact bin_eql_t (by first | rfl | assumption | omega) | exact bin_eql_f (by first | rfl | assumption | omega) | exact bin_same Try.underlying3 (by rfl) (px _ _ rfl) (py _ _ rfl)) ?_ | refine so_skip rfl rfl rfl ?_
    first | refine so_pick_t rfl rfl rfl rfl ?_ | refine so_pick_f rfl rfl rfl rfl ?_
    refine so_move rfl rfl rfl ?_
    first | refine so_fieldO (o' := 3) rfl rfl rfl Try.underlying48 rfl inf3 rfl rfl ?_ | refine so_skip rfl rfl rfl ?_
    first | refine so_load rfl rfl rfl (by first | exact ld_own Try.underlying3 rfl (by repeat (first | exact List.Mem.head _ | apply List.Mem.tail)) (by first | exact (cellsOf_get rfl).trans (congrArg some hx2) | exact (cellsOf_get rfl).trans (congrArg some hy2) | exact cellsOf_get rfl | rfl) | exact ld_data Try.underlying3 rfl (by first | assumption | exact InA.add (by assumption) | exact InA.add (InA.add (by assumption))) (by assumption)) ?_ | refine so_skip rfl rfl rfl ?_
    first | refine so_fieldO (o' := 3) rfl rfl rfl Try.underlying48 rfl inf3 rfl rfl ?_ | refine so_skip rfl rfl rfl ?_
    first | refine so_load rfl rfl rfl (by first | exact ld_own Try.underlying3 rfl (by repeat (first | exact List.Mem.head _ | apply List.Mem.tail)) (by first | exact (cellsOf_get rfl).trans (congrArg some hx2) | exact (cellsOf_get rfl).trans (congrArg some hy2) | exact cellsOf_get rfl | rfl) | exact ld_data Try.underlying3 rfl (by first | assumption | exact InA.add (by assumption) | exact InA.add (InA.add (by assumption))) (by assumption)) ?_ | refine so_skip rfl rfl rfl ?_
    first | refine so_bin rfl rfl rfl rfl (by first | exact bin_eql_t (by first | rfl | assumption | omega) | exact bin_eql_f (by first | rfl | assumption | omega) | exact bin_same Try.underlying3 (by rfl) (px _ _ rfl) (py _ _ rfl)) ?_ | refine so_skip rfl rfl rfl ?_
    first | refine so_pick_t rfl rfl rfl rfl ?_ | refine so_pick_f rfl rfl rfl rfl ?_
    refine so_move rfl rfl rfl ?_
    first | refine so_fieldO (o' := 4) rfl rfl rfl Try.underlying48 rfl inf3 rfl rfl ?_ | refine so_skip rfl rfl rfl ?_
    first | refine so_load rfl rfl rfl (by first | exact ld_own Try.underlying3 rfl (by repeat (first | exact List.Mem.head _ | apply List.Mem.tail)) (by first | exact (cellsOf_get rfl).trans (congrArg some hx2) | exact (cellsOf_get rfl).trans (congrArg some hy2) | exact cellsOf_get rfl | rfl) | exact ld_data Try.underlying3 rfl (by first | assumption | exact InA.add (by assumption) | exact InA.add (InA.add (by assumption))) (by assumption)) ?_ | refine so_skip rfl rfl rfl ?_
    first | refine so_fieldO (o' := 4) rfl rfl rfl Try.underlying48 rfl inf3 rfl rfl ?_ | refine so_skip rfl rfl rfl ?_
    first | refine so_load rfl rfl rfl (by first | exact ld_own Try.underlying3 rfl (by repeat (first | exact List.Mem.head _ | apply List.Mem.tail)) (by first | exact (cellsOf_get rfl).trans (congrArg some hx2) | exact (cellsOf_get rfl).trans (congrArg some hy2) | exact cellsOf_get rfl | rfl) | exact ld_data Try.underlying3 rfl (by first | assumption | exact InA.add (by assumption) | exact InA.add (InA.add (by assumption))) (by assumption)) ?_ | refine so_skip rfl rfl rfl ?_
    first | refine so_bin rfl rfl rfl rfl (by first | exact bin_eql_t (by first | rfl | assumption | omega) | exact bin_eql_f (by first | rfl | assumption | omega) | exact bin_same Try.underlying3 (by rfl) (px _ _ rfl) (py _ _ rfl)) ?_ | refine so_skip rfl rfl rfl ?_
    first | refine so_pick_t rfl rfl rfl rfl ?_ | refine so_pick_f rfl rfl rfl rfl ?_
    refine so_move rfl rfl rfl ?_
    first | refine so_fieldO (o' := 5) rfl rfl rfl Try.underlying48 rfl inf3 rfl rfl ?_ | refine so_skip rfl rfl rfl ?_
    first | refine so_load rfl rfl rfl (by first | exact ld_own Try.underlying3 rfl (by repeat (first | exact List.Mem.head _ | apply List.Mem.tail)) (by first | exact (cellsOf_get rfl).trans (congrArg some hx2) | exact (cellsOf_get rfl).trans (congrArg some hy2) | exact cellsOf_get rfl | rfl) | exact ld_data Try.underlying3 rfl (by first | assumption | exact InA.add (by assumption) | exact InA.add (InA.add (by assumption))) (by assumption)) ?_ | refine so_skip rfl rfl rfl ?_
    first | refine so_fieldO (o' := 5) rfl rfl rfl Try.underlying48 rfl inf3 rfl rfl ?_ | refine so_skip rfl rfl rfl ?_
    first | refine so_load rfl rfl rfl (by first | exact ld_own Try.underlying3 rfl (by repeat (first | exact List.Mem.head _ | apply List.Mem.tail)) (by first | exact (cellsOf_get rfl).trans (congrArg some hx2) | exact (cellsOf_get rfl).trans (congrArg some hy2) | exact cellsOf_get rfl | rfl) | exact ld_data Try.underlying3 rfl (by first | assumption | exact InA.add (by assumption) | exact InA.add (InA.add (by assumption))) (by assumption)) ?_ | refine so_skip rfl rfl rfl ?_
    first | refine so_bin rfl rfl rfl rfl (by first | exact bin_eql_t (by first | rfl | assumption | omega) | exact bin_eql_f (by first | rfl | assumption | omega) | exact bin_same Try.underlying3 (by rfl) (px _ _ rfl) (py _ _ rfl)) ?_ | refine so_skip rfl rfl rfl ?_
    first | refine so_pick_t rfl rfl rfl rfl ?_ | refine so_pick_f rfl rfl rfl rfl ?_
    refine so_move rfl rfl rfl ?_
    first | refine so_fieldO (o' := 6) rfl rfl rfl Try.underlying48 rfl inf9 rfl rfl ?_ | refine so_skip rfl rfl rfl ?_
    first | refine so_load rfl rfl rfl (by first | exact ld_own Try.underlying9 rfl (by repeat (first | exact List.Mem.head _ | apply List.Mem.tail)) (by first | exact (cellsOf_get rfl).trans (congrArg some hx2) | exact (cellsOf_get rfl).trans (congrArg some hy2) | exact cellsOf_get rfl | rfl) | exact ld_data Try.underlying9 rfl (by first | assumption | exact InA.add (by assumption) | exact InA.add (InA.add (by assumption))) (by assumption)) ?_ | refine so_skip rfl rfl rfl ?_
    first | refine so_fieldO (o' := 6) rfl rfl rfl Try.underlying48 rfl inf9 rfl rfl ?_ | refine so_skip rfl rfl rfl ?_
    first | refine so_load rfl rfl rfl (by first | exact ld_own Try.underlying9 rfl (by repeat (first | exact List.Mem.head _ | apply List.Mem.tail)) (by first | exact (cellsOf_get rfl).trans (congrArg some hx2) | exact (cellsOf_get rfl).trans (congrArg some hy2) | exact cellsOf_get rfl | rfl) | exact ld_data Try.underlying9 rfl (by first | assumption | exact InA.add (by assumption) | exact InA.add (InA.add (by assumption))) (by assumption)) ?_ | refine so_skip rfl rfl rfl ?_
    first | refine so_bin rfl rfl rfl rfl (by first | exact bin_seql_t (by first | rfl | assumption | decide) | exact bin_seql_f (by first | rfl | assumption | decide) | exact bin_same Try.underlying9 (by rfl) (px _ _ rfl) (py _ _ rfl)) ?_ | refine so_skip rfl rfl rfl ?_
    first | refine so_pick_t rfl rfl rfl rfl ?_ | refine so_pick_f rfl rfl rfl rfl ?_
    refine so_move rfl rfl rfl ?_
    first | refine so_fieldO (o' := 7) rfl rfl rfl Try.underlying48 rfl inf9 rfl rfl ?_ | refine so_skip rfl rfl rfl ?_
    first | refine so_load rfl rfl rfl (by first | exact ld_own Try.underlying9 rfl (by repeat (first | exact List.Mem.head _ | apply List.Mem.tail)) (by first | exact (cellsOf_get rfl).trans (congrArg some hx2) | exact (cellsOf_get rfl).trans (congrArg some hy2) | exact cellsOf_get rfl | rfl) | exact ld_data Try.underlying9 rfl (by first | assumption | exact InA.add (by assumption) | exact InA.add (InA.add (by assumption))) (by assumption)) ?_ | refine so_skip rfl rfl rfl ?_
    first | refine so_fieldO (o' := 7) rfl rfl rfl Try.underlying48 rfl inf9 rfl rfl ?_ | refine so_skip rfl rfl rfl ?_
    first | refine so_load rfl rfl rfl (by first | exact ld_own Try.underlying9 rfl (by repeat (first | exact List.Mem.head _ | apply List.Mem.tail)) (by first | exact (cellsOf_get rfl).trans (congrArg some hx2) | exact (cellsOf_get rfl).trans (congrArg some hy2) | exact cellsOf_get rfl | rfl) | exact ld_data Try.underlying9 rfl (by first | assumption | exact InA.add (by assumption) | exact InA.add (InA.add (by assumption))) (by assumption)) ?_ | refine so_skip rfl rfl rfl ?_
    first | refine so_bin rfl rfl rfl rfl (by first | exact bin_seql_t (by first | rfl | assumption | decide) | exact bin_seql_f (by first | rfl | assumption | decide) | exact bin_same Try.underlying9 (by rfl) (px _ _ rfl) (py _ _ rfl)) ?_ | refine so_skip rfl rfl rfl ?_
    first | refine so_pick_t rfl rfl rfl rfl ?_ | refine so_pick_f rfl rfl rfl rfl ?_
    refine so_move rfl rfl rfl ?_
    first | refine so_fieldO (o' := 8) rfl rfl rfl Try.underlying48 rfl inf38 rfl rfl ?_ | refine so_skip rfl rfl rfl ?_
    first | refine so_load rfl rfl rfl (by first | exact ld_ownA Try.underlying38 rfl inf38 rfl (by repeat (first | exact List.Mem.head _ | apply List.Mem.tail)) (by first | exact cellsOf_le rfl | decide | omega) (by first | exact cellsOf_all | exact take_all rfl | exact cellsOf_part rfl | rfl) | exact ld_dataA Try.underlying38 rfl inf38 rfl (by first | assumption | exact InA.add (by assumption) | exact InA.add (InA.add (by assumption))) (by assumption)) ?_ | refine so_skip rfl rfl rfl ?_
    first | refine so_fieldO (o' := 8) rfl rfl rfl Try.underlying48 rfl inf38 rfl rfl ?_ | refine so_skip rfl rfl rfl ?_
    first | refine so_load rfl rfl rfl (by first | exact ld_ownA Try.underlying38 rfl inf38 rfl (by repeat (first | exact List.Mem.head _ | apply List.Mem.tail)) (by first | exact cellsOf_le rfl | decide | omega) (by first | exact cellsOf_all | exact take_all rfl | exact cellsOf_part rfl | rfl) | exact ld_dataA Try.underlying38 rfl inf38 rfl (by first | assumption | exact InA.add (by assumption) | exact InA.add (InA.add (by assumption))) (by assumption)) ?_ | refine so_skip rfl rfl rfl ?_
    first | refine so_call rfl rfl (fun h => nomatch h) rfl has24 (by repeat (first | exact Opvs.nil | apply Opvs.cons rfl)) (fun H hH => sameNode_ok hH.lt (CellsA.gr hH.gr _ _ _ (px.part 8 43 rfl)) (CellsA.gr hH.gr _ _ _ (py.part 8 43 rfl))) ?_ | refine so_skip rfl rfl rfl ?_
    first | refine so_pick_t rfl rfl rfl rfl ?_ | refine so_pick_f rfl rfl rfl rfl ?_
    refine so_move rfl rfl rfl ?_
    first | refine so_fieldO (o' := 51) rfl rfl rfl Try.underlying48 rfl inf24 rfl rfl ?_ | refine so_skip rfl rfl rfl ?_
    first | refine so_load rfl rfl rfl (by first | exact ld_ownA Try.underlying24 rfl inf24 rfl (by repeat (first | exact List.Mem.head _ | apply List.Mem.tail)) (by first | exact cellsOf_le rfl | decide | omega) (by first | exact cellsOf_all | exact take_all rfl | exact cellsOf_part rfl | rfl) | exact ld_dataA Try.underlying24 rfl inf24 rfl (by first | assumption | exact InA.add (by assumption) | exact InA.add (InA.add (by assumption))) (by assumption)) ?_ | refine so_skip rfl rfl rfl ?_
    first | refine so_fieldO (o' := 51) rfl rfl rfl Try.underlying48 rfl inf24 rfl rfl ?_ | refine so_skip rfl rfl rfl ?_
    first | refine so_load rfl rfl rfl (by first | exact ld_ownA Try.underlying24 rfl inf24 rfl (by repeat (first | exact List.Mem.head _ | apply List.Mem.tail)) (by first | exact cellsOf_le rfl | decide | omega) (by first | exact cellsOf_all | exact take_all rfl | exact cellsOf_part rfl | rfl) | exact ld_dataA Try.underlying24 rfl inf24 rfl (by first | assumption | exact InA.add (by assumption) | exact InA.add (InA.add (by assumption))) (by assumption)) ?_ | refine so_skip rfl rfl rfl ?_
    first | refine so_call rfl rfl (fun h => nomatch h) rfl has25 (by repeat (first | exact Opvs.nil | apply Opvs.cons rfl)) (fun H hH => sameMask_ok hH.lt (CellsA.gr hH.gr _ _ _ (px.part 51 3 rfl)) (CellsA.gr hH.gr _ _ _ (py.part 51 3 rfl))) ?_ | refine so_skip rfl rfl rfl ?_
    first | refine so_pick_t rfl rfl rfl rfl ?_ | refine so_pick_f rfl rfl rfl rfl ?_
    refine so_move rfl rfl rfl ?_
    first | refine so_fieldO (o' := 54) rfl rfl rfl Try.underlying48 rfl inf29 rfl rfl ?_ | refine so_skip rfl rfl rfl ?_
    first | refine so_load rfl rfl rfl (by first | exact ld_ownA Try.underlying29 rfl inf29 rfl (by repeat (first | exact List.Mem.head _ | apply List.Mem.tail)) (by first | exact cellsOf_le rfl | decide | omega) (by first | exact cellsOf_all | exact take_all rfl | exact cellsOf_part rfl | rfl) | exact ld_dataA Try.underlying29 rfl inf29 rfl (by first | assumption | exact InA.add (by assumption) | exact InA.add (InA.add (by assumption))) (by assumption)) ?_ | refine so_skip rfl rfl rfl ?_
    first | refine so_fieldO (o' := 54) rfl rfl rfl Try.underlying48 rfl inf29 rfl rfl ?_ | refine so_skip rfl rfl rfl ?_
    first | refine so_load rfl rfl rfl (by first | exact ld_ownA Try.underlying29 rfl inf29 rfl (by repeat (first | exact List.Mem.head _ | apply List.Mem.tail)) (by first | exact cellsOf_le rfl | decide | omega) (by first | exact cellsOf_all | exact take_all rfl | exact cellsOf_part rfl | rfl) | exact ld_dataA Try.underlying29 rfl inf29 rfl (by first | assumption | exact InA.add (by assumption) | exact InA.add (InA.add (by assumption))) (by assumption)) ?_ | refine so_skip rfl rfl rfl ?_
    first | refine so_call rfl rfl (fun h => nomatch h) rfl has26 (by repeat (first | exact Opvs.nil | apply Opvs.cons rfl)) (fun H hH => sameImage_ok hH.lt (CellsA.gr hH.gr _ _ _ (px.part 54 3 rfl)) (CellsA.gr hH.gr _ _ _ (py.part 54 3 rfl))) ?_ | refine so_skip rfl rfl rfl ?_
    first | refine so_pick_t rfl rfl rfl rfl ?_ | refine so_pick_f rfl rfl rfl rfl ?_
    refine so_move rfl rfl rfl ?_
    first | refine so_fieldO (o' := 57) rfl rfl rfl Try.underlying48 rfl inf41 rfl rfl ?_ | refine so_skip rfl rfl rfl ?_
    first | refine so_load rfl rfl rfl (by first | exact ld_ownA Try.underlying41 rfl inf41 rfl (by repeat (first | exact List.Mem.head _ | apply List.Mem.tail)) (by first | exact cellsOf_le rfl | decide | omega) (by first | exact cellsOf_all | exact take_all rfl | exact cellsOf_part rfl | rfl) | exact ld_dataA Try.underlying41 rfl inf41 rfl (by first | assumption | exact InA.add (by assumption) | exact InA.add (InA.add (by assumption))) (by assumption)) ?_ | refine so_skip rfl rfl rfl ?_
    first | refine so_fieldO (o' := 57) rfl rfl rfl Try.underlying48 rfl inf41 rfl rfl ?_ | refine so_skip rfl rfl rfl ?_
    first | refine so_load rfl rfl rfl (by first | exact ld_ownA Try.underlying41 rfl inf41 rfl (by repeat (first | exact List.Mem.head _ | apply List.Mem.tail)) (by first | exact cellsOf_le rfl | decide | omega) (by first | exact cellsOf_all | exact take_all rfl | exact cellsOf_part rfl | rfl) | exact ld_dataA Try.underlying41 rfl inf41 rfl (by first | assumption | exact InA.add (by assumption) | exact InA.add (InA.add (by assumption))) (by assumption)) ?_ | refine so_skip rfl rfl rfl ?_
    first | refine so_call rfl rfl (fun h => nomatch h) rfl has27 (by repeat (first | exact Opvs.nil | apply Opvs.cons rfl)) (fun H hH => sameBrush_ok hH.lt (CellsA.gr hH.gr _ _ _ (px.part 57 16 rfl)) (CellsA.gr hH.gr _ _ _ (py.part 57 16 rfl))) ?_ | refine so_skip rfl rfl rfl ?_
    first | refine so_pick_t rfl rfl rfl rfl ?_ | refine so_pick_f rfl rfl rfl rfl ?_
    refine so_move rfl rfl rfl ?_
    first | refine so_fieldO (o' := 74) rfl rfl rfl Try.underlying48 rfl inf44 rfl rfl ?_ | refine so_skip rfl rfl rfl ?_
    first | refine so_load rfl rfl rfl (by first | exact ld_ownA Try.underlying44 rfl inf44 rfl (by repeat (first | exact List.Mem.head _ | apply List.Mem.tail)) (by first | exact cellsOf_le rfl | decide | omega) (by first | exact cellsOf_all | exact take_all rfl | exact cellsOf_part rfl | rfl) | exact ld_dataA Try.underlying44 rfl inf44 rfl (by first | assumption | exact InA.add (by assumption) | exact InA.add (InA.add (by assumption))) (by assumption)) ?_ | refine so_skip rfl rfl rfl ?_
    first | refine so_fieldO (o' := 74) rfl rfl rfl Try.underlying48 rfl inf44 rfl rfl ?_ | refine so_skip rfl rfl rfl ?_
    first | refine so_load rfl rfl rfl (by first | exact ld_ownA Try.underlying44 rfl inf44 rfl (by repeat (first | exact List.Mem.head _ | apply List.Mem.tail)) (by first | exact cellsOf_le rfl | decide | omega) (by first | exact cellsOf_all | exact take_all rfl | exact cellsOf_part rfl | rfl) | exact ld_dataA Try.underlying44 rfl inf44 rfl (by first | assumption | exact InA.add (by assumption) | exact InA.add (InA.add (by assumption))) (by assumption)) ?_ | refine so_skip rfl rfl rfl ?_
    first | refine so_bin rfl rfl rfl rfl (by first | exact (bin_aggsame Try.underlying44 rfl (by kernel_rfl) rfl (px.part 74 2 rfl) (py.part 74 2 rfl)).1) ?_ | refine so_skip rfl rfl rfl ?_
    first | refine so_pick_t rfl rfl rfl rfl ?_ | refine so_pick_f rfl rfl rfl rfl ?_
    refine so_move rfl rfl rfl ?_
    first | refine so_fieldO (o' := 76) rfl rfl rfl Try.underlying48 rfl inf46 rfl rfl ?_ | refine so_skip rfl rfl rfl ?_
    first | refine so_load rfl rfl rfl (by first | exact ld_ownA Try.underlying46 rfl inf46 rfl (by repeat (first | exact List.Mem.head _ | apply List.Mem.tail)) (by first | exact cellsOf_le rfl | decide | omega) (by first | exact cellsOf_all | exact take_all rfl | exact cellsOf_part rfl | rfl) | exact ld_dataA Try.underlying46 rfl inf46 rfl (by first | assumption | exact InA.add (by assumption) | exact InA.add (InA.add (by assumption))) (by assumption)) ?_ | refine so_skip rfl rfl rfl ?_
    first | refine so_fieldO (o' := 76) rfl rfl rfl Try.underlying48 rfl inf46 rfl rfl ?_ | refine so_skip rfl rfl rfl ?_
    first | refine so_load rfl rfl rfl (by first | exact ld_ownA Try.underlying46 rfl inf46 rfl (by repeat (first | exact List.Mem.head _ | apply List.Mem.tail)) (by first | exact cellsOf_le rfl | decide | omega) (by first | exact cellsOf_all | exact take_all rfl | exact cellsOf_part rfl | rfl) | exact ld_dataA Try.underlying46 rfl inf46 rfl (by first | assumption | exact InA.add (by assumption) | exact InA.add (InA.add (by assumption))) (by assumption)) ?_ | refine so_skip rfl rfl rfl ?_
    first | refine so_bin rfl rfl rfl rfl (by first | exact (bin_aggsame Try.underlying46 rfl (by kernel_rfl) rfl (px.part 76 4 rfl) (py.part 76 4 rfl)).1) ?_ | refine so_skip rfl rfl rfl ?_
    first | refine so_pick_t rfl rfl rfl rfl ?_ | refine so_pick_f rfl rfl rfl rfl ?_
    refine so_move rfl rfl rfl ?_
    first | refine so_fieldO (o' := 80) rfl rfl rfl Try.underlying48 rfl inf31 rfl rfl ?_ | refine so_skip rfl rfl rfl ?_
    first | refine so_load rfl rfl rfl (by first | exact ld_ownA Try.underlying31 rfl inf31 rfl (by repeat (first | exact List.Mem.head _ | apply List.Mem.tail)) (by first | exact cellsOf_le rfl | decide | omega) (by first | exact cellsOf_all | exact take_all rfl | exact cellsOf_part rfl | rfl) | exact ld_dataA Try.underlying31 rfl inf31 rfl (by first | assumption | exact InA.add (by assumption) | exact InA.add (InA.add (by assumption))) (by assumption)) ?_ | refine so_skip rfl rfl rfl ?_
    first | refine so_fieldO (o' := 80) rfl rfl rfl Try.underlying48 rfl inf31 rfl rfl ?_ | refine so_skip rfl rfl rfl ?_
    first | refine so_load rfl rfl rfl (by first | exact ld_ownA Try.underlying31 rfl inf31 rfl (by repeat (first | exact List.Mem.head _ | apply List.Mem.tail)) (by first | exact cellsOf_le rfl | decide | omega) (by first | exact cellsOf_all | exact take_all rfl | exact cellsOf_part rfl | rfl) | exact ld_dataA Try.underlying31 rfl inf31 rfl (by first | assumption | exact InA.add (by assumption) | exact InA.add (InA.add (by assumption))) (by assumption)) ?_ | refine so_skip rfl rfl rfl ?_
    first | refine so_bin rfl rfl rfl rfl (by first | exact (bin_aggsame Try.underlying31 rfl (by kernel_rfl) rfl (px.part 80 4 rfl) (py.part 80 4 rfl)).1) ?_ | refine so_skip rfl rfl rfl ?_
    first | refine so_pick_t rfl rfl rfl rfl ?_ | refine so_pick_f rfl rfl rfl rfl ?_
    refine so_assign rfl rfl rfl ?_
    refine so_then ?_
    refine sx_ret ?_
    refine sk_return1 (.tmp rfl .nil) ?_
    exact fun H hH => ⟨rfl, hH.kept⟩

end Go.Proofs.Ytaedeadgbojmnaa
