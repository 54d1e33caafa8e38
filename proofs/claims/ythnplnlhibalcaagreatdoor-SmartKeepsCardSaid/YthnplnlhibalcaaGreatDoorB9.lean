/-
  Walks, laid by program.
-/
import Derived.Test.YthnplnlhibalcaaGreatDoorB8
import Derived.Test.YthnplnlhibalcaaGreatDoorD1
set_option linter.unusedVariables false
set_option linter.unusedSimpArgs false
set_option maxRecDepth 100000
namespace Go.Proofs.YthnplnlhibalcaaGreatDoor
open Go Go.AM

theorem add_rows {A : Nat → Prop} {H : AH} {v : Value} {l : List (List CT)} (h : CellA A H (.row 40 k24) v (.row l)) : ∃ a c, v = .slice a l.length c := by
  obtain ⟨l2, a, c, e, rfl, _⟩ := h.rowD
  cases e
  exact ⟨a, c, rfl⟩
set_option maxHeartbeats 1000000 in
theorem smartAdds_ok {S : AH} {A : Nat → Prop} (hA : ∀ j, A j → j < S.nx) {x : Value} {l : List (List CT)} (hx : CellA A S (.row 40 k24) x (.row l)) {u p : ByteArray} {n : Int} (hu : u.size ≤ maxLen) (hn : (Lit.int .i64 n).wf = true) (hp : p.size ≤ maxLen) : XCall Tryz.prog 3 [x, .agg ⟨[.string u, .int .i64 n, .string p]⟩] S fun v H' => v = .bool true ∧ Kept S.nx S H' := by
  have hx0 := hx
  obtain ⟨l2, ax, cx, e2, rfl, rx⟩ := hx.rowD
  cases e2
  refine x_enter (E := E) (n := 39) (rs := [.tmp 4]) (l := [(1, _), (0, _)]) (fn_own Tryz.func3 rfl rfl rfl) hA rfl ?_
  refine sx_seq ?_
  refine sx_region (E := E) ?_
  refine so_boxA rfl rfl (fun h => nomatch h) rfl ?_
  intro N3
  refine so_assign rfl rfl rfl ?_
  refine so_then ?_
  refine sx_seq ?_
  refine sx_region (E := E) ?_
  refine so_move rfl rfl rfl ?_
  refine so_load rfl rfl rfl (by first | exact ld_ownA Tryz.underlying24 rfl inf24 rfl (by repeat (first | exact List.Mem.head _ | apply List.Mem.tail)) (by first | exact cellsOf_le rfl | exact Nat.le_of_ble_eq_true rfl | decide | omega) (by first | exact cellsOf_all | exact take_all rfl | exact cellsOf_part rfl | rfl) | exact ld_dataA Tryz.underlying24 rfl inf24 rfl (by first | assumption | exact InA.add (by assumption) | exact InA.add (InA.add (by assumption))) (by assumption)) ?_
  refine so_callF (AddT l [.v (.string u), .v (.int .i64 n), .v (.string p)]) rfl rfl (fun h => nomatch h) rfl has7 (by repeat (first | exact Opvs.nil | apply Opvs.cons rfl)) (fun H hH => add_ok hH.lt (CellA.gr hH.gr _ _ _ hx0) hu hn hp) ?_
  intro u1 H1 A1 g1 hT
  obtain ⟨v1, rfl, hv1⟩ := hT
  replace hx0 := CellA.gr g1 _ _ _ hx0
  refine so_move rfl rfl rfl ?_
  refine so_extract rfl rfl rfl rfl ?_
  refine so_extract rfl rfl rfl rfl ?_
  refine so_assign rfl rfl rfl ?_
  refine so_assign rfl rfl rfl ?_
  refine so_then ?_
  refine sx_seq ?_
  refine sx_region (E := E) ?_
  refine so_move rfl rfl rfl ?_
  refine so_load rfl rfl rfl (by first | exact ld_ownA Tryz.underlying24 rfl inf24 rfl (by repeat (first | exact List.Mem.head _ | apply List.Mem.tail)) (by first | exact cellsOf_le rfl | exact Nat.le_of_ble_eq_true rfl | decide | omega) (by first | exact cellsOf_all | exact take_all rfl | exact cellsOf_part rfl | rfl) | exact ld_dataA Tryz.underlying24 rfl inf24 rfl (by first | assumption | exact InA.add (by assumption) | exact InA.add (InA.add (by assumption))) (by assumption)) ?_
  refine so_callF (AddT l [.v (.string u), .v (.int .i64 n), .v (.string p)]) rfl rfl (fun h => nomatch h) rfl has8 (by repeat (first | exact Opvs.nil | apply Opvs.cons rfl)) (fun H hH => radd_ok hH.lt (CellA.gr hH.gr _ _ _ hx0) hu hn hp) ?_
  intro u2 H2 A2 g2 hT
  obtain ⟨v2, rfl, hv2⟩ := hT
  replace hx0 := CellA.gr g2 _ _ _ hx0
  replace hv1 := CellA.gr g2 _ _ _ hv1
  refine so_move rfl rfl rfl ?_
  refine so_extract rfl rfl rfl rfl ?_
  refine so_extract rfl rfl rfl rfl ?_
  refine so_assign rfl rfl rfl ?_
  refine so_assign rfl rfl rfl ?_
  refine so_then ?_
  refine sx_seq ?_
  refine sx_region (E := E) ?_
  refine so_move rfl rfl rfl ?_
  refine so_call rfl rfl (fun h => nomatch h) rfl has9 (by repeat (first | exact Opvs.nil | apply Opvs.cons rfl)) (fun H hH => check_ok hH.lt (CellA.gr hH.gr _ _ _ hx0)) ?_
  refine so_move rfl rfl rfl ?_
  refine so_call rfl rfl (fun h => nomatch h) rfl has10 (by repeat (first | exact Opvs.nil | apply Opvs.cons rfl)) (fun H hH => rcheck_ok hH.lt (CellA.gr hH.gr _ _ _ hx0)) ?_
  refine so_bin rfl rfl rfl rfl (by first | exact bin_eql_t (by first | rfl | assumption | omega) | exact bin_eql_f (by first | rfl | assumption | omega)) ?_
  refine so_move rfl rfl rfl ?_
  first | refine so_move rfl rfl rfl ?_ | refine so_skip rfl rfl rfl ?_
  first | refine so_move rfl rfl rfl ?_ | refine so_skip rfl rfl rfl ?_
  first | refine so_call rfl rfl (fun h => nomatch h) rfl has11 (by repeat (first | exact Opvs.nil | apply Opvs.cons rfl)) (fun H hH => same_ok hH.lt (CellA.gr hH.gr _ _ _ hv1) (CellA.gr hH.gr _ _ _ hv2)) ?_ | refine so_skip rfl rfl rfl ?_
  first | refine so_pick_t rfl rfl rfl rfl ?_ | refine so_pick_f rfl rfl rfl rfl ?_
  refine so_move rfl rfl rfl ?_
  first | refine so_move rfl rfl rfl ?_ | refine so_skip rfl rfl rfl ?_
  first | refine so_move rfl rfl rfl ?_ | refine so_skip rfl rfl rfl ?_
  first | refine so_bin rfl rfl rfl rfl (by first | exact bin_eql_t (by first | rfl | assumption | omega) | exact bin_eql_f (by first | rfl | assumption | omega)) ?_ | refine so_skip rfl rfl rfl ?_
  first | refine so_pick_t rfl rfl rfl rfl ?_ | refine so_pick_f rfl rfl rfl rfl ?_
  refine so_move rfl rfl rfl ?_
  first | refine so_call rfl rfl (fun h => nomatch h) rfl has12 (by repeat (first | exact Opvs.nil | apply Opvs.cons rfl)) (fun H hH => awake_ok H) ?_ | refine so_skip rfl rfl rfl ?_
  first | refine so_pick_t rfl rfl rfl rfl ?_ | refine so_pick_f rfl rfl rfl rfl ?_
  refine so_assign rfl rfl rfl ?_
  refine so_then ?_
  refine sx_ret ?_
  refine sk_return1 (.tmp rfl .nil) ?_
  exact fun H hH => ⟨rfl, hH.kept⟩

end Go.Proofs.YthnplnlhibalcaaGreatDoor
