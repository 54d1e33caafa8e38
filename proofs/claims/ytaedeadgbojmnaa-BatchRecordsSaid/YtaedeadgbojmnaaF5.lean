/-
  Walks, laid by program.
-/
import Derived.Test.YtaedeadgbojmnaaF4
import Derived.Test.YtaedeadgbojmnaaD1
set_option linter.unusedVariables false
set_option linter.unusedSimpArgs false
set_option maxRecDepth 100000
namespace Go.Proofs.Ytaedeadgbojmnaa
open Go Go.AM
set_option maxHeartbeats 2000000 in
theorem batchRecords_ok {S : AH} {A : Nat → Prop} (hA : ∀ j, A j → j < S.nx) {x y : Value} {es bs : List (List CT)} (hx : CellA A S (.row 848 k48) x (.row es)) (hy : CellA A S (.row 24 [.row 32 k79]) y (.row bs)) : XCall Try.prog 4 [x, y] S fun v H' => v = .bool true ∧ Kept S.nx S H' := by
  refine x_enter (E := E) (n := 32) (rs := [.tmp 4]) (l := [(1, _), (0, _)]) (fn_own Try.func4 rfl rfl rfl) hA rfl ?_
  refine sx_seq ?_
  refine sx_region (E := E) ?_
  refine so_assign rfl rfl rfl ?_
  refine so_then ?_
  refine sx_seq ?_
  refine sx_region (E := E) ?_
  refine so_move rfl rfl rfl ?_
  refine so_move rfl rfl rfl ?_
  refine so_callF (RecT es bs) rfl rfl (fun h => nomatch h) rfl has11 (by repeat (first | exact Opvs.nil | apply Opvs.cons rfl)) (fun H hH => record_ok hH.lt (CellA.gr hH.gr _ _ _ hx) (CellA.gr hH.gr _ _ _ hy)) ?_
  intro u1 H1 A1 g1 hT
  obtain ⟨v1, e, l1, rfl, hs1, hr1⟩ := hT
  replace hx := CellA.gr g1 _ _ _ hx
  replace hy := CellA.gr g1 _ _ _ hy
  refine so_move rfl rfl rfl ?_
  refine so_extract rfl rfl rfl rfl ?_
  refine so_extract rfl rfl rfl rfl ?_
  refine so_assign rfl rfl rfl ?_
  refine so_assign rfl rfl rfl ?_
  refine so_then ?_
  refine sx_seq ?_
  refine sx_region (E := E) ?_
  refine so_move rfl rfl rfl ?_
  refine so_move rfl rfl rfl ?_
  refine so_callF (RecT es bs) rfl rfl (fun h => nomatch h) rfl has12 (by repeat (first | exact Opvs.nil | apply Opvs.cons rfl)) (fun H hH => rrecord_ok hH.lt (CellA.gr hH.gr _ _ _ hx) (CellA.gr hH.gr _ _ _ hy)) ?_
  intro u2 H2 A2 g2 hT
  obtain ⟨v2, e2, l2, rfl, hs2, hr2⟩ := hT
  obtain ⟨rfl, rfl⟩ := recS_same hs1 hs2
  replace hr1 := CellA.gr g2 _ _ _ hr1
  refine so_move rfl rfl rfl ?_
  refine so_extract rfl rfl rfl rfl ?_
  refine so_extract rfl rfl rfl rfl ?_
  refine so_assign rfl rfl rfl ?_
  refine so_assign rfl rfl rfl ?_
  refine so_then ?_
  refine sx_seq ?_
  refine sx_region (E := E) ?_
  refine so_move rfl rfl rfl ?_
  refine so_move rfl rfl rfl ?_
  refine so_bin rfl rfl rfl rfl (by first | exact bin_eql_t (by first | rfl | assumption | omega) | exact bin_eql_f (by first | rfl | assumption | omega)) ?_
  refine so_move rfl rfl rfl ?_
  first | refine so_move rfl rfl rfl ?_ | refine so_skip rfl rfl rfl ?_
  first | refine so_move rfl rfl rfl ?_ | refine so_skip rfl rfl rfl ?_
  first | refine so_call rfl rfl (fun h => nomatch h) rfl has13 (by repeat (first | exact Opvs.nil | apply Opvs.cons rfl)) (fun H hH => sameActions_ok hH.lt (CellA.gr hH.gr _ _ _ hr1) (CellA.gr hH.gr _ _ _ hr2)) ?_ | refine so_skip rfl rfl rfl ?_
  first | refine so_pick_t rfl rfl rfl rfl ?_ | refine so_pick_f rfl rfl rfl rfl ?_
  refine so_move rfl rfl rfl ?_
  first | refine so_call rfl rfl (fun h => nomatch h) rfl has10 (by repeat (first | exact Opvs.nil | apply Opvs.cons rfl)) (fun H hH => example_ok H) ?_ | refine so_skip rfl rfl rfl ?_
  first | refine so_pick_t rfl rfl rfl rfl ?_ | refine so_pick_f rfl rfl rfl rfl ?_
  refine so_assign rfl rfl rfl ?_
  refine so_then ?_
  refine sx_ret ?_
  refine sk_return1 (.tmp rfl .nil) ?_
  exact fun H hH => ⟨rfl, hH.kept⟩

end Go.Proofs.Ytaedeadgbojmnaa
