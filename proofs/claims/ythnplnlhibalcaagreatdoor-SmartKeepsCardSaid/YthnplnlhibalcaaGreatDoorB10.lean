/-
  Walks, laid by program.
-/
import Derived.Test.YthnplnlhibalcaaGreatDoorB9
set_option linter.unusedVariables false
set_option linter.unusedSimpArgs false
set_option maxRecDepth 100000
namespace Go.Proofs.YthnplnlhibalcaaGreatDoor
open Go Go.AM
set_option maxHeartbeats 4000000 in
theorem smartKeeps_ok {S : AH} {A : Nat → Prop} (hA : ∀ j, A j → j < S.nx) {x : Value} {l : List (List CT)} (hx : CellA A S (.row 40 k24) x (.row l)) {u p : ByteArray} {n : Int} (hu : u.size ≤ maxLen) (hn : (Lit.int .i64 n).wf = true) (hp : p.size ≤ maxLen) (other : ByteArray) : XCall Tryz.prog 5 [x, .agg ⟨[.string u, .int .i64 n, .string p]⟩, .string other] S fun v H' => v = .bool true ∧ Kept S.nx S H' := by
  have hx0 := hx
  obtain ⟨l2, ax, cx, e2, rfl, rx⟩ := hx.rowD
  cases e2
  have hb := rx.len
  have hfl := row_files rx
  have hfo := lat_files (p := nmP other.data.toList) hfl
  have hlen := latV_len hfo
  have hone := latV_one hfo
  obtain ⟨cs0, hcs0⟩ := latV_cells (A := A) (H := S) hfo
  refine x_enter (E := E) (n := 86) (rs := [.tmp 6]) (l := [(2, _), (1, _), (0, _)]) (fn_own Tryz.func5 rfl rfl rfl) hA rfl ?_
  refine sx_seq ?_
  refine sx_region (E := E) ?_
  refine so_boxA rfl rfl (fun h => nomatch h) rfl ?_
  intro N4
  refine so_assign rfl rfl rfl ?_
  refine so_then ?_
  refine sx_seq ?_
  refine sx_region (E := E) ?_
  refine so_move rfl rfl rfl ?_
  refine so_load rfl rfl rfl (by first | exact ld_ownA Tryz.underlying24 rfl inf24 rfl (by repeat (first | exact List.Mem.head _ | apply List.Mem.tail)) (by first | exact cellsOf_le rfl | exact Nat.le_of_ble_eq_true rfl | decide | omega) (by first | exact cellsOf_all | exact take_all rfl | exact cellsOf_part rfl | rfl) | exact ld_dataA Tryz.underlying24 rfl inf24 rfl (by first | assumption | exact InA.add (by assumption) | exact InA.add (InA.add (by assumption))) (by assumption)) ?_
  refine so_callF (AddT l [.v (.string u), .v (.int .i64 n), .v (.string p)]) rfl rfl (fun h => nomatch h) rfl has7 (by repeat (first | exact Opvs.nil | apply Opvs.cons rfl)) (fun H hH => add_ok hH.lt (CellA.gr hH.gr _ _ _ hx0) hu hn hp) ?_
  intro u1 H1 A1 g1 hT
  obtain ⟨v1, rfl, hv1⟩ := hT
  replace hx0 := CellA.gr g1 _ _ _ hx0
  obtain ⟨a1, c1, rfl⟩ := add_rows hv1
  refine so_move rfl rfl rfl ?_
  refine so_extract rfl rfl rfl rfl ?_
  refine so_extract rfl rfl rfl rfl ?_
  refine so_assign rfl rfl rfl ?_
  refine so_assign rfl rfl rfl ?_
  refine so_then ?_
  refine sx_seq ?_
  refine sx_seq ?_
  by_cases he : addE l [.v (.string u), .v (.int .i64 n), .v (.string p)] = 0
  · skip
    have hA2 := addR_ok he
    have hlen2 : (addR l [.v (.string u), .v (.int .i64 n), .v (.string p)]).length = l.length + 1 := by rw [hA2]; exact addL_len _ _
    refine sx_region (E := E) ?_
    refine so_move rfl rfl rfl ?_
    refine so_bin rfl rfl rfl rfl (by first | exact bin_neq_f (by first | rfl | assumption | omega) | exact bin_neq_t (by first | rfl | assumption | omega)) ?_
    refine so_then ?_
    refine sx_false rfl ?_
    refine sx_skip ?_
    refine sk_then ?_
    refine sx_seq ?_
    refine sx_region (E := E) ?_
    refine so_move rfl rfl rfl ?_
    refine so_fieldO (o' := 0) rfl rfl rfl Tryz.underlying24 rfl inf9 rfl rfl ?_
    refine so_load rfl rfl rfl (by first | exact ld_own Tryz.underlying9 rfl (by repeat (first | exact List.Mem.head _ | apply List.Mem.tail)) (by first | exact cellsOf_get rfl | rfl) | exact ld_data Tryz.underlying9 rfl (by first | assumption | exact InA.add (by assumption) | exact InA.add (InA.add (by assumption))) (by assumption)) ?_
    refine so_call rfl rfl (fun h => nomatch h) rfl has13 (by repeat (first | exact Opvs.nil | apply Opvs.cons rfl)) (fun H hH => (slatest_ok hH.lt (CellA.gr hH.gr _ _ _ hv1) u).e (by rw [hA2, show lat (nmP u.data.toList) (addL l [.v (.string u), .v (.int .i64 n), .v (.string p)]) = some [.v (.string u), .v (.int .i64 n), .v (.string p)] from add_latest he])) ?_
    refine so_move rfl rfl rfl ?_
    refine so_extract rfl rfl rfl rfl ?_
    refine so_extract rfl rfl rfl rfl ?_
    refine so_alloc (cs := (.string ⟨#[]⟩ :: .int .i64 0 :: .string ⟨#[]⟩ :: [])) rfl rfl (fun h => nomatch h) inf24 rfl rfl ?_
    intro N9
    refine so_storeA rfl (fun h => nomatch h) rfl rfl inf24 (by first | exact cellsOf_length _ _ | rfl) rfl (by repeat (first | exact .zero | apply Upd.succ)) (by first | exact cellsOf_set rfl | exact cellsOf_setr rfl | exact cellsOf_store rfl | exact store_all rfl | rfl) (by first | exact cellsOf_in rfl rfl | exact cellsOf_in rfl (cellsOf_length _ _) | exact cellsOf_le rfl | exact Nat.le_of_ble_eq_true rfl | omega) (fun h => nomatch h) ?_
    refine so_assign rfl rfl rfl ?_
    refine so_then ?_
    refine sx_seq ?_
    refine sx_region (E := E) ?_
    refine so_move rfl rfl rfl ?_
    refine so_move rfl rfl rfl ?_
    refine so_call rfl rfl (fun h => nomatch h) rfl has13 (by repeat (first | exact Opvs.nil | apply Opvs.cons rfl)) (fun H hH => (slatest_ok hH.lt (CellA.gr hH.gr _ _ _ hx0) other)) ?_
    refine so_move rfl rfl rfl ?_
    refine so_extract rfl rfl rfl rfl ?_
    refine so_extract rfl rfl rfl rfl ?_
    refine so_alloc (cs := (.string ⟨#[]⟩ :: .int .i64 0 :: .string ⟨#[]⟩ :: [])) rfl rfl (fun h => nomatch h) inf24 rfl rfl ?_
    intro N11
    refine so_storeA rfl (fun h => nomatch h) rfl rfl inf24 hlen hone (by repeat (first | exact .zero | apply Upd.succ)) (store_all (cs := [.string ⟨#[]⟩, .int .i64 0, .string ⟨#[]⟩]) hlen) (by rw [hlen]; exact Nat.le_refl _) (fun h => nomatch h) ?_
    refine so_assign rfl rfl rfl ?_
    refine so_then ?_
    refine sx_seq ?_
    by_cases ho : other.data.toList = u.data.toList
    · skip
      refine sx_region (E := E) ?_
      refine so_move rfl rfl rfl ?_
      refine so_move rfl rfl rfl ?_
      refine so_call (v := .tuple ⟨[.agg ⟨[.string u, .int .i64 n, .string p]⟩, .bool true]⟩) rfl rfl (fun h => nomatch h) rfl has13 (by repeat (first | exact Opvs.nil | apply Opvs.cons rfl)) (fun H hH => (slatest_ok hH.lt (CellA.gr hH.gr _ _ _ hv1) other).e (by rw [hA2, ho, show lat (nmP u.data.toList) (addL l [.v (.string u), .v (.int .i64 n), .v (.string p)]) = some [.v (.string u), .v (.int .i64 n), .v (.string p)] from add_latest he]; rfl)) ?_
      refine so_move rfl rfl rfl ?_
      refine so_extract rfl rfl rfl rfl ?_
      refine so_extract rfl rfl rfl rfl ?_
      refine so_alloc (cs := (.string ⟨#[]⟩ :: .int .i64 0 :: .string ⟨#[]⟩ :: [])) rfl rfl (fun h => nomatch h) inf24 rfl rfl ?_
      intro N13
      refine so_storeA rfl (fun h => nomatch h) rfl rfl inf24 (by first | rfl | exact hlen) (by first | rfl | exact hone) (by repeat (first | exact .zero | apply Upd.succ)) (by first | exact store_all (cs := [.string ⟨#[]⟩, .int .i64 0, .string ⟨#[]⟩]) hlen | exact store_all rfl) (by first | exact Nat.le_of_ble_eq_true rfl | (rw [hlen]; exact Nat.le_refl _)) (fun h => nomatch h) ?_
      refine so_assign rfl rfl rfl ?_
      refine so_then ?_
      refine sx_seq ?_
      refine sx_region (E := E) ?_
      refine so_move rfl rfl rfl ?_
      refine so_call rfl rfl (fun h => nomatch h) rfl has9 (by repeat (first | exact Opvs.nil | apply Opvs.cons rfl)) (fun H hH => (check_ok hH.lt (CellA.gr hH.gr _ _ _ hv1)).i (show libE (addR l [.v (.string u), .v (.int .i64 n), .v (.string p)]) = 0 by rw [hA2]; exact addL_libE he)) ?_
      refine so_bin rfl rfl rfl rfl (by first | exact bin_eql_t rfl | exact bin_eql_t (by first | rfl | assumption | omega) | exact bin_eql_f (by first | rfl | assumption | omega)) ?_
      refine so_move rfl rfl rfl ?_
      first | refine so_move rfl rfl rfl ?_ | refine so_skip rfl rfl rfl ?_
      first | refine so_lenL rfl rfl rfl rfl rfl rfl Tryz.underlying22 ?_ | refine so_skip rfl rfl rfl ?_
      first | refine so_move rfl rfl rfl ?_ | refine so_skip rfl rfl rfl ?_
      first | refine so_lenL rfl rfl rfl rfl rfl rfl Tryz.underlying22 ?_ | refine so_skip rfl rfl rfl ?_
      first | refine so_bin rfl rfl rfl rfl (by first | exact bin_incr (by omega) | exact bin_add (wrap64 (by omega) (by omega)) | exact bin_add rfl) ?_ | refine so_skip rfl rfl rfl ?_
      first | refine so_bin rfl rfl rfl rfl (by first | exact bin_eql_t (by omega) | exact bin_eql_t (by first | rfl | assumption | omega) | exact bin_eql_f (by first | rfl | assumption | omega)) ?_ | refine so_skip rfl rfl rfl ?_
      first | refine so_pick_t rfl rfl rfl rfl ?_ | refine so_pick_f rfl rfl rfl rfl ?_
      refine so_move rfl rfl rfl ?_
      first | refine so_move rfl rfl rfl ?_ | refine so_skip rfl rfl rfl ?_
      first | refine so_pick_t rfl rfl rfl rfl ?_ | refine so_pick_f rfl rfl rfl rfl ?_
      refine so_move rfl rfl rfl ?_
      first | refine so_load rfl rfl rfl (by first | exact ld_ownA Tryz.underlying24 rfl inf24 rfl (by repeat (first | exact List.Mem.head _ | apply List.Mem.tail)) (by first | exact cellsOf_le rfl | exact Nat.le_of_ble_eq_true rfl | decide | omega) (by first | exact cellsOf_all | exact take_all rfl | exact cellsOf_part rfl | rfl) | exact ld_dataA Tryz.underlying24 rfl inf24 rfl (by first | assumption | exact InA.add (by assumption) | exact InA.add (InA.add (by assumption))) (by assumption)) ?_ | refine so_skip rfl rfl rfl ?_
      first | refine so_load rfl rfl rfl (by first | exact ld_ownA Tryz.underlying24 rfl inf24 rfl (by repeat (first | exact List.Mem.head _ | apply List.Mem.tail)) (by first | exact cellsOf_le rfl | exact Nat.le_of_ble_eq_true rfl | decide | omega) (by first | exact cellsOf_all | exact take_all rfl | exact cellsOf_part rfl | rfl) | exact ld_dataA Tryz.underlying24 rfl inf24 rfl (by first | assumption | exact InA.add (by assumption) | exact InA.add (InA.add (by assumption))) (by assumption)) ?_ | refine so_skip rfl rfl rfl ?_
      first | refine so_bin rfl rfl rfl rfl (by first | exact (bin_aggsame Tryz.underlying24 rfl (by kernel_rfl) rfl (file3_mk (A := A) (H := S) hu hn hp) (file3_mk (A := A) (H := S) hu hn hp)).1) ?_ | refine so_skip rfl rfl rfl ?_
      first | refine so_pick_t rfl rfl rfl rfl ?_ | refine so_pick_f rfl rfl rfl rfl ?_
      refine so_move rfl rfl rfl ?_
      first | refine so_move rfl rfl rfl ?_ | refine so_skip rfl rfl rfl ?_
      first | refine so_fieldO (o' := 0) rfl rfl rfl Tryz.underlying24 rfl inf9 rfl rfl ?_ | refine so_skip rfl rfl rfl ?_
      first | refine so_load rfl rfl rfl (by first | exact ld_own Tryz.underlying9 rfl (by repeat (first | exact List.Mem.head _ | apply List.Mem.tail)) (by first | exact cellsOf_get rfl | rfl) | exact ld_data Tryz.underlying9 rfl (by first | assumption | exact InA.add (by assumption) | exact InA.add (InA.add (by assumption))) (by assumption)) ?_ | refine so_skip rfl rfl rfl ?_
      first | refine so_bin rfl rfl rfl rfl (by first | exact bin_seql_t ho | exact bin_seql_f ho | exact bin_seql_t (by first | rfl | assumption | decide) | exact bin_seql_f (by first | rfl | assumption | decide)) ?_ | refine so_skip rfl rfl rfl ?_
      first | refine so_move rfl rfl rfl ?_ | refine so_skip rfl rfl rfl ?_
      first | refine so_load rfl rfl rfl (by first | exact ld_ownA Tryz.underlying24 rfl inf24 rfl (by repeat (first | exact List.Mem.head _ | apply List.Mem.tail)) (by rw [hlen]; exact Nat.le_refl _) (by rw [List.drop_zero, List.take_of_length_le (by rw [hlen]; exact Nat.le_refl _)]) | exact ld_ownA Tryz.underlying24 rfl inf24 rfl (by repeat (first | exact List.Mem.head _ | apply List.Mem.tail)) (by first | exact cellsOf_le rfl | exact Nat.le_of_ble_eq_true rfl | decide | omega) (by first | exact cellsOf_all | exact take_all rfl | exact cellsOf_part rfl | rfl) | exact ld_dataA Tryz.underlying24 rfl inf24 rfl (by first | assumption | exact InA.add (by assumption) | exact InA.add (InA.add (by assumption))) (by assumption)) ?_ | refine so_skip rfl rfl rfl ?_
      first | refine so_load rfl rfl rfl (by first | exact ld_ownA Tryz.underlying24 rfl inf24 rfl (by repeat (first | exact List.Mem.head _ | apply List.Mem.tail)) (by rw [hlen]; exact Nat.le_refl _) (by rw [List.drop_zero, List.take_of_length_le (by rw [hlen]; exact Nat.le_refl _)]) | exact ld_ownA Tryz.underlying24 rfl inf24 rfl (by repeat (first | exact List.Mem.head _ | apply List.Mem.tail)) (by first | exact cellsOf_le rfl | exact Nat.le_of_ble_eq_true rfl | decide | omega) (by first | exact cellsOf_all | exact take_all rfl | exact cellsOf_part rfl | rfl) | exact ld_dataA Tryz.underlying24 rfl inf24 rfl (by first | assumption | exact InA.add (by assumption) | exact InA.add (InA.add (by assumption))) (by assumption)) ?_ | refine so_skip rfl rfl rfl ?_
      first | refine so_bin rfl rfl rfl rfl (by first | exact (bin_aggsame Tryz.underlying24 rfl (by kernel_rfl) rfl hcs0 hcs0).1) ?_ | refine so_skip rfl rfl rfl ?_
      first | refine so_move rfl rfl rfl ?_ | refine so_skip rfl rfl rfl ?_
      first | refine so_move rfl rfl rfl ?_ | refine so_skip rfl rfl rfl ?_
      first | refine so_move rfl rfl rfl ?_ | refine so_skip rfl rfl rfl ?_
      first | refine so_bin rfl rfl rfl rfl (by first | exact bin_bool_same Tryz.underlying4) ?_ | refine so_skip rfl rfl rfl ?_
      first | refine so_pick_t rfl rfl rfl rfl ?_ | refine so_pick_f rfl rfl rfl rfl ?_ | refine so_skip rfl rfl rfl ?_
      first | refine so_pick_t rfl rfl rfl rfl ?_ | refine so_pick_f rfl rfl rfl rfl ?_ | refine so_skip rfl rfl rfl ?_
      first | refine so_pick_t rfl rfl rfl rfl ?_ | refine so_pick_f rfl rfl rfl rfl ?_
      refine so_move rfl rfl rfl ?_
      first | refine so_call rfl rfl (fun h => nomatch h) rfl has12 (by repeat (first | exact Opvs.nil | apply Opvs.cons rfl)) (fun H hH => awake_ok H) ?_ | refine so_skip rfl rfl rfl ?_
      first | refine so_pick_t rfl rfl rfl rfl ?_ | refine so_pick_f rfl rfl rfl rfl ?_
      refine so_assign rfl rfl rfl ?_
      refine so_then ?_
      refine sx_ret ?_
      refine sk_return1 (.tmp rfl .nil) ?_
      exact fun H hH => ⟨rfl, hH.kept⟩
    · skip
      refine sx_region (E := E) ?_
      refine so_move rfl rfl rfl ?_
      refine so_move rfl rfl rfl ?_
      refine so_call (v := .tuple ⟨[.agg ⟨latV (lat (nmP other.data.toList) l)⟩, .bool (lat (nmP other.data.toList) l).isSome]⟩) rfl rfl (fun h => nomatch h) rfl has13 (by repeat (first | exact Opvs.nil | apply Opvs.cons rfl)) (fun H hH => (slatest_ok hH.lt (CellA.gr hH.gr _ _ _ hv1) other).e (by rw [hA2, add_other (f := [.v (.string u), .v (.int .i64 n), .v (.string p)]) ho])) ?_
      refine so_move rfl rfl rfl ?_
      refine so_extract rfl rfl rfl rfl ?_
      refine so_extract rfl rfl rfl rfl ?_
      refine so_alloc (cs := (.string ⟨#[]⟩ :: .int .i64 0 :: .string ⟨#[]⟩ :: [])) rfl rfl (fun h => nomatch h) inf24 rfl rfl ?_
      intro N13
      refine so_storeA rfl (fun h => nomatch h) rfl rfl inf24 (by first | rfl | exact hlen) (by first | rfl | exact hone) (by repeat (first | exact .zero | apply Upd.succ)) (by first | exact store_all (cs := [.string ⟨#[]⟩, .int .i64 0, .string ⟨#[]⟩]) hlen | exact store_all rfl) (by first | exact Nat.le_of_ble_eq_true rfl | (rw [hlen]; exact Nat.le_refl _)) (fun h => nomatch h) ?_
      refine so_assign rfl rfl rfl ?_
      refine so_then ?_
      refine sx_seq ?_
      refine sx_region (E := E) ?_
      refine so_move rfl rfl rfl ?_
      refine so_call rfl rfl (fun h => nomatch h) rfl has9 (by repeat (first | exact Opvs.nil | apply Opvs.cons rfl)) (fun H hH => (check_ok hH.lt (CellA.gr hH.gr _ _ _ hv1)).i (show libE (addR l [.v (.string u), .v (.int .i64 n), .v (.string p)]) = 0 by rw [hA2]; exact addL_libE he)) ?_
      refine so_bin rfl rfl rfl rfl (by first | exact bin_eql_t rfl | exact bin_eql_t (by first | rfl | assumption | omega) | exact bin_eql_f (by first | rfl | assumption | omega)) ?_
      refine so_move rfl rfl rfl ?_
      first | refine so_move rfl rfl rfl ?_ | refine so_skip rfl rfl rfl ?_
      first | refine so_lenL rfl rfl rfl rfl rfl rfl Tryz.underlying22 ?_ | refine so_skip rfl rfl rfl ?_
      first | refine so_move rfl rfl rfl ?_ | refine so_skip rfl rfl rfl ?_
      first | refine so_lenL rfl rfl rfl rfl rfl rfl Tryz.underlying22 ?_ | refine so_skip rfl rfl rfl ?_
      first | refine so_bin rfl rfl rfl rfl (by first | exact bin_incr (by omega) | exact bin_add (wrap64 (by omega) (by omega)) | exact bin_add rfl) ?_ | refine so_skip rfl rfl rfl ?_
      first | refine so_bin rfl rfl rfl rfl (by first | exact bin_eql_t (by omega) | exact bin_eql_t (by first | rfl | assumption | omega) | exact bin_eql_f (by first | rfl | assumption | omega)) ?_ | refine so_skip rfl rfl rfl ?_
      first | refine so_pick_t rfl rfl rfl rfl ?_ | refine so_pick_f rfl rfl rfl rfl ?_
      refine so_move rfl rfl rfl ?_
      first | refine so_move rfl rfl rfl ?_ | refine so_skip rfl rfl rfl ?_
      first | refine so_pick_t rfl rfl rfl rfl ?_ | refine so_pick_f rfl rfl rfl rfl ?_
      refine so_move rfl rfl rfl ?_
      first | refine so_load rfl rfl rfl (by first | exact ld_ownA Tryz.underlying24 rfl inf24 rfl (by repeat (first | exact List.Mem.head _ | apply List.Mem.tail)) (by first | exact cellsOf_le rfl | exact Nat.le_of_ble_eq_true rfl | decide | omega) (by first | exact cellsOf_all | exact take_all rfl | exact cellsOf_part rfl | rfl) | exact ld_dataA Tryz.underlying24 rfl inf24 rfl (by first | assumption | exact InA.add (by assumption) | exact InA.add (InA.add (by assumption))) (by assumption)) ?_ | refine so_skip rfl rfl rfl ?_
      first | refine so_load rfl rfl rfl (by first | exact ld_ownA Tryz.underlying24 rfl inf24 rfl (by repeat (first | exact List.Mem.head _ | apply List.Mem.tail)) (by first | exact cellsOf_le rfl | exact Nat.le_of_ble_eq_true rfl | decide | omega) (by first | exact cellsOf_all | exact take_all rfl | exact cellsOf_part rfl | rfl) | exact ld_dataA Tryz.underlying24 rfl inf24 rfl (by first | assumption | exact InA.add (by assumption) | exact InA.add (InA.add (by assumption))) (by assumption)) ?_ | refine so_skip rfl rfl rfl ?_
      first | refine so_bin rfl rfl rfl rfl (by first | exact (bin_aggsame Tryz.underlying24 rfl (by kernel_rfl) rfl (file3_mk (A := A) (H := S) hu hn hp) (file3_mk (A := A) (H := S) hu hn hp)).1) ?_ | refine so_skip rfl rfl rfl ?_
      first | refine so_pick_t rfl rfl rfl rfl ?_ | refine so_pick_f rfl rfl rfl rfl ?_
      refine so_move rfl rfl rfl ?_
      first | refine so_move rfl rfl rfl ?_ | refine so_skip rfl rfl rfl ?_
      first | refine so_fieldO (o' := 0) rfl rfl rfl Tryz.underlying24 rfl inf9 rfl rfl ?_ | refine so_skip rfl rfl rfl ?_
      first | refine so_load rfl rfl rfl (by first | exact ld_own Tryz.underlying9 rfl (by repeat (first | exact List.Mem.head _ | apply List.Mem.tail)) (by first | exact cellsOf_get rfl | rfl) | exact ld_data Tryz.underlying9 rfl (by first | assumption | exact InA.add (by assumption) | exact InA.add (InA.add (by assumption))) (by assumption)) ?_ | refine so_skip rfl rfl rfl ?_
      first | refine so_bin rfl rfl rfl rfl (by first | exact bin_seql_t ho | exact bin_seql_f ho | exact bin_seql_t (by first | rfl | assumption | decide) | exact bin_seql_f (by first | rfl | assumption | decide)) ?_ | refine so_skip rfl rfl rfl ?_
      first | refine so_move rfl rfl rfl ?_ | refine so_skip rfl rfl rfl ?_
      first | refine so_load rfl rfl rfl (by first | exact ld_ownA Tryz.underlying24 rfl inf24 rfl (by repeat (first | exact List.Mem.head _ | apply List.Mem.tail)) (by rw [hlen]; exact Nat.le_refl _) (by rw [List.drop_zero, List.take_of_length_le (by rw [hlen]; exact Nat.le_refl _)]) | exact ld_ownA Tryz.underlying24 rfl inf24 rfl (by repeat (first | exact List.Mem.head _ | apply List.Mem.tail)) (by first | exact cellsOf_le rfl | exact Nat.le_of_ble_eq_true rfl | decide | omega) (by first | exact cellsOf_all | exact take_all rfl | exact cellsOf_part rfl | rfl) | exact ld_dataA Tryz.underlying24 rfl inf24 rfl (by first | assumption | exact InA.add (by assumption) | exact InA.add (InA.add (by assumption))) (by assumption)) ?_ | refine so_skip rfl rfl rfl ?_
      first | refine so_load rfl rfl rfl (by first | exact ld_ownA Tryz.underlying24 rfl inf24 rfl (by repeat (first | exact List.Mem.head _ | apply List.Mem.tail)) (by rw [hlen]; exact Nat.le_refl _) (by rw [List.drop_zero, List.take_of_length_le (by rw [hlen]; exact Nat.le_refl _)]) | exact ld_ownA Tryz.underlying24 rfl inf24 rfl (by repeat (first | exact List.Mem.head _ | apply List.Mem.tail)) (by first | exact cellsOf_le rfl | exact Nat.le_of_ble_eq_true rfl | decide | omega) (by first | exact cellsOf_all | exact take_all rfl | exact cellsOf_part rfl | rfl) | exact ld_dataA Tryz.underlying24 rfl inf24 rfl (by first | assumption | exact InA.add (by assumption) | exact InA.add (InA.add (by assumption))) (by assumption)) ?_ | refine so_skip rfl rfl rfl ?_
      first | refine so_bin rfl rfl rfl rfl (by first | exact (bin_aggsame Tryz.underlying24 rfl (by kernel_rfl) rfl hcs0 hcs0).1) ?_ | refine so_skip rfl rfl rfl ?_
      first | refine so_move rfl rfl rfl ?_ | refine so_skip rfl rfl rfl ?_
      first | refine so_move rfl rfl rfl ?_ | refine so_skip rfl rfl rfl ?_
      first | refine so_move rfl rfl rfl ?_ | refine so_skip rfl rfl rfl ?_
      first | refine so_bin rfl rfl rfl rfl (by first | exact bin_bool_same Tryz.underlying4) ?_ | refine so_skip rfl rfl rfl ?_
      first | refine so_pick_t rfl rfl rfl rfl ?_ | refine so_pick_f rfl rfl rfl rfl ?_ | refine so_skip rfl rfl rfl ?_
      first | refine so_pick_t rfl rfl rfl rfl ?_ | refine so_pick_f rfl rfl rfl rfl ?_ | refine so_skip rfl rfl rfl ?_
      first | refine so_pick_t rfl rfl rfl rfl ?_ | refine so_pick_f rfl rfl rfl rfl ?_
      refine so_move rfl rfl rfl ?_
      first | refine so_call rfl rfl (fun h => nomatch h) rfl has12 (by repeat (first | exact Opvs.nil | apply Opvs.cons rfl)) (fun H hH => awake_ok H) ?_ | refine so_skip rfl rfl rfl ?_
      first | refine so_pick_t rfl rfl rfl rfl ?_ | refine so_pick_f rfl rfl rfl rfl ?_
      refine so_assign rfl rfl rfl ?_
      refine so_then ?_
      refine sx_ret ?_
      refine sk_return1 (.tmp rfl .nil) ?_
      exact fun H hH => ⟨rfl, hH.kept⟩
  · skip
    have hlen0 : (addR l [.v (.string u), .v (.int .i64 n), .v (.string p)]).length = 0 := by rw [addR_err he]; rfl
    refine sx_region (E := E) ?_
    refine so_move rfl rfl rfl ?_
    refine so_bin rfl rfl rfl rfl (by first | exact bin_neq_f (by first | rfl | assumption | omega) | exact bin_neq_t (by first | rfl | assumption | omega)) ?_
    refine so_then ?_
    refine sx_true rfl ?_
    refine sx_seq ?_
    refine sx_region (E := E) ?_
    refine so_move rfl rfl rfl ?_
    refine so_lenL rfl rfl rfl rfl rfl rfl Tryz.underlying22 ?_
    refine so_bin rfl rfl rfl rfl (by first | exact bin_eql_t (by omega) | exact bin_eql_t (by first | rfl | assumption | omega) | exact bin_eql_f (by first | rfl | assumption | omega)) ?_
    refine so_move rfl rfl rfl ?_
    first | refine so_call rfl rfl (fun h => nomatch h) rfl has12 (by repeat (first | exact Opvs.nil | apply Opvs.cons rfl)) (fun H hH => awake_ok H) ?_ | refine so_skip rfl rfl rfl ?_
    first | refine so_pick_t rfl rfl rfl rfl ?_ | refine so_pick_f rfl rfl rfl rfl ?_
    refine so_assign rfl rfl rfl ?_
    refine so_then ?_
    refine sx_ret ?_
    refine sk_then_ret ?_
    refine sk_return1 (.tmp rfl .nil) ?_
    exact fun H hH => ⟨rfl, hH.kept⟩

end Go.Proofs.YthnplnlhibalcaaGreatDoor
