/-
  Walks, laid by program.
-/
import Derived.Test.YtaedeadgbojmnaaD1
set_option linter.unusedVariables false
set_option linter.unusedSimpArgs false
set_option maxRecDepth 100000
namespace Go.Proofs.Ytaedeadgbojmnaa
open Go Go.AM
set_option maxHeartbeats 2000000 in
theorem batchFills_ok {S : AH} {A : Nat → Prop} (hA : ∀ j, A j → j < S.nx) {x : Nat → Value} {c : Nat → CT} (px : Pts A S k51 x c) {z : Value} {al : List (List CT)} (hz : CellA A S (.row 24 k73) z (.row al)) : XCall Try.prog 3 [.agg ⟨cellsOf 85 x⟩, z] S fun v H' => v = .bool true ∧ Kept S.nx S H' := by
  obtain ⟨al2, aa, ca, e2, rfl, ra⟩ := hz.rowD
  cases e2
  refine x_enter (E := E) (n := 32) (rs := [.tmp 4]) (l := [(1, _), (0, _)]) (fn_own Try.func3 rfl rfl rfl) hA rfl ?_
  refine sx_seq ?_
  refine sx_region (E := E) ?_
  refine so_boxA rfl rfl (fun h => nomatch h) rfl ?_
  intro N2
  refine so_assign rfl rfl rfl ?_
  refine so_then ?_
  refine sx_seq ?_
  refine sx_region (E := E) ?_
  refine so_load rfl rfl rfl (by first | exact ld_ownA Try.underlying51 rfl inf51 rfl (by repeat (first | exact List.Mem.head _ | apply List.Mem.tail)) (by first | exact cellsOf_le rfl | decide | omega) (by first | exact cellsOf_all | exact take_all rfl | exact cellsOf_part rfl | rfl) | exact ld_dataA Try.underlying51 rfl inf51 rfl (by first | assumption | exact InA.add (by assumption) | exact InA.add (InA.add (by assumption))) (by assumption)) ?_
  refine so_move rfl rfl rfl ?_
  refine so_callF (FillT c al) rfl rfl (fun h => nomatch h) rfl has7 (by repeat (first | exact Opvs.nil | apply Opvs.cons rfl)) (fun H hH => fill_ok hH.lt (px.gr hH.gr) (CellA.gr hH.gr _ _ _ hz)) ?_
  intro u1 H1 A1 g1 hT
  obtain ⟨ys, e, c1, rfl, hs1, hy1⟩ := hT
  obtain ⟨y1, rfl⟩ := edit_fn hy1
  replace px := px.gr g1
  replace hz := CellA.gr g1 _ _ _ hz
  refine so_move rfl rfl rfl ?_
  refine so_extract rfl rfl rfl rfl ?_
  refine so_extract rfl rfl rfl rfl ?_
  refine so_alloc (cs := (.int .i64 0 :: .int .i64 0 :: .int .i64 0 :: .int .i64 0 :: .int .i64 0 :: .int .i64 0 :: .string ⟨#[]⟩ :: .string ⟨#[]⟩ :: .int .i64 0 :: .int .i64 0 :: .int .i64 0 :: .string ⟨#[]⟩ :: .bool false :: .bool false :: .bool false :: .int .i64 0 :: .int .i64 0 :: .int .i64 0 :: .int .i64 0 :: .slice none 0 0 :: .int .i64 0 :: .int .i64 0 :: .int .i64 0 :: .int .i64 0 :: .int .i64 0 :: .int .i64 0 :: .int .i64 0 :: .int .i64 0 :: .int .i64 0 :: .slice none 0 0 :: .int .i64 0 :: .int .i64 0 :: .int .i64 0 :: .int .i64 0 :: .int .i64 0 :: .slice none 0 0 :: .int .i64 0 :: .slice none 0 0 :: .slice none 0 0 :: .int .i64 0 :: .int .i64 0 :: .int .i64 0 :: .int .i64 0 :: .string ⟨#[]⟩ :: .int .i64 0 :: .int .i64 0 :: .int .i64 0 :: .int .i64 0 :: .int .i64 0 :: .int .i64 0 :: .slice none 0 0 :: .int .i64 0 :: .int .i64 0 :: .slice none 0 0 :: .int .i64 0 :: .int .i64 0 :: .slice none 0 0 :: .int .i64 0 :: .int .i64 0 :: .int .i64 0 :: .int .i64 0 :: .int .i64 0 :: .int .i64 0 :: .int .i64 0 :: .int .i64 0 :: .int .i64 0 :: .int .i64 0 :: .int .i64 0 :: .int .i64 0 :: .int .i64 0 :: .int .i64 0 :: .slice none 0 0 :: .bool false :: .slice none 0 0 :: .int .i64 0 :: .int .i64 0 :: .int .i64 0 :: .int .i64 0 :: .int .i64 0 :: .int .i64 0 :: .int .i64 0 :: .int .i64 0 :: .int .i64 0 :: .int .i64 0 :: [])) rfl rfl (fun h => nomatch h) inf48 rfl rfl ?_
  intro N5
  refine so_storeA rfl (fun h => nomatch h) rfl rfl inf48 (by first | exact cellsOf_length _ _ | rfl) (CellsA.one hy1) (by repeat (first | exact .zero | apply Upd.succ)) (by first | exact cellsOf_set rfl | exact cellsOf_setr rfl | exact cellsOf_store rfl | exact store_all rfl | rfl) (by first | exact cellsOf_in rfl rfl | exact cellsOf_in rfl (cellsOf_length _ _) | exact cellsOf_le rfl | exact Nat.le_of_ble_eq_true rfl | omega) (fun h => nomatch h) ?_
  refine so_assign rfl rfl rfl ?_
  refine so_then ?_
  refine sx_seq ?_
  refine sx_region (E := E) ?_
  refine so_load rfl rfl rfl (by first | exact ld_ownA Try.underlying51 rfl inf51 rfl (by repeat (first | exact List.Mem.head _ | apply List.Mem.tail)) (by first | exact cellsOf_le rfl | decide | omega) (by first | exact cellsOf_all | exact take_all rfl | exact cellsOf_part rfl | rfl) | exact ld_dataA Try.underlying51 rfl inf51 rfl (by first | assumption | exact InA.add (by assumption) | exact InA.add (InA.add (by assumption))) (by assumption)) ?_
  refine so_move rfl rfl rfl ?_
  refine so_callF (FillT c al) rfl rfl (fun h => nomatch h) rfl has8 (by repeat (first | exact Opvs.nil | apply Opvs.cons rfl)) (fun H hH => rfill_ok hH.lt (px.gr hH.gr) (CellA.gr hH.gr _ _ _ hz)) ?_
  intro u2 H2 A2 g2 hT
  obtain ⟨zs, e2, c2, rfl, hs2, hy2⟩ := hT
  obtain ⟨y2, rfl⟩ := edit_fn hy2
  obtain ⟨rfl, rfl⟩ := hs1.same hs2
  replace hy1 := CellsA.gr g2 _ _ _ hy1
  refine so_move rfl rfl rfl ?_
  refine so_extract rfl rfl rfl rfl ?_
  refine so_extract rfl rfl rfl rfl ?_
  refine so_alloc (cs := (.int .i64 0 :: .int .i64 0 :: .int .i64 0 :: .int .i64 0 :: .int .i64 0 :: .int .i64 0 :: .string ⟨#[]⟩ :: .string ⟨#[]⟩ :: .int .i64 0 :: .int .i64 0 :: .int .i64 0 :: .string ⟨#[]⟩ :: .bool false :: .bool false :: .bool false :: .int .i64 0 :: .int .i64 0 :: .int .i64 0 :: .int .i64 0 :: .slice none 0 0 :: .int .i64 0 :: .int .i64 0 :: .int .i64 0 :: .int .i64 0 :: .int .i64 0 :: .int .i64 0 :: .int .i64 0 :: .int .i64 0 :: .int .i64 0 :: .slice none 0 0 :: .int .i64 0 :: .int .i64 0 :: .int .i64 0 :: .int .i64 0 :: .int .i64 0 :: .slice none 0 0 :: .int .i64 0 :: .slice none 0 0 :: .slice none 0 0 :: .int .i64 0 :: .int .i64 0 :: .int .i64 0 :: .int .i64 0 :: .string ⟨#[]⟩ :: .int .i64 0 :: .int .i64 0 :: .int .i64 0 :: .int .i64 0 :: .int .i64 0 :: .int .i64 0 :: .slice none 0 0 :: .int .i64 0 :: .int .i64 0 :: .slice none 0 0 :: .int .i64 0 :: .int .i64 0 :: .slice none 0 0 :: .int .i64 0 :: .int .i64 0 :: .int .i64 0 :: .int .i64 0 :: .int .i64 0 :: .int .i64 0 :: .int .i64 0 :: .int .i64 0 :: .int .i64 0 :: .int .i64 0 :: .int .i64 0 :: .int .i64 0 :: .int .i64 0 :: .int .i64 0 :: .slice none 0 0 :: .bool false :: .slice none 0 0 :: .int .i64 0 :: .int .i64 0 :: .int .i64 0 :: .int .i64 0 :: .int .i64 0 :: .int .i64 0 :: .int .i64 0 :: .int .i64 0 :: .int .i64 0 :: .int .i64 0 :: [])) rfl rfl (fun h => nomatch h) inf48 rfl rfl ?_
  intro N7
  refine so_storeA rfl (fun h => nomatch h) rfl rfl inf48 (by first | exact cellsOf_length _ _ | rfl) (CellsA.one hy2) (by repeat (first | exact .zero | apply Upd.succ)) (by first | exact cellsOf_set rfl | exact cellsOf_setr rfl | exact cellsOf_store rfl | exact store_all rfl | rfl) (by first | exact cellsOf_in rfl rfl | exact cellsOf_in rfl (cellsOf_length _ _) | exact cellsOf_le rfl | exact Nat.le_of_ble_eq_true rfl | omega) (fun h => nomatch h) ?_
  refine so_assign rfl rfl rfl ?_
  refine so_then ?_
  refine sx_seq ?_
  refine sx_region (E := E) ?_
  refine so_move rfl rfl rfl ?_
  refine so_move rfl rfl rfl ?_
  refine so_bin rfl rfl rfl rfl (by first | exact bin_eql_t (by first | rfl | assumption | omega) | exact bin_eql_f (by first | rfl | assumption | omega)) ?_
  refine so_move rfl rfl rfl ?_
  first | refine so_load rfl rfl rfl (by first | exact ld_ownA Try.underlying48 rfl inf48 rfl (by repeat (first | exact List.Mem.head _ | apply List.Mem.tail)) (by first | exact cellsOf_le rfl | decide | omega) (by first | exact cellsOf_all | exact take_all rfl | exact cellsOf_part rfl | rfl) | exact ld_dataA Try.underlying48 rfl inf48 rfl (by first | assumption | exact InA.add (by assumption) | exact InA.add (InA.add (by assumption))) (by assumption)) ?_ | refine so_skip rfl rfl rfl ?_
  first | refine so_load rfl rfl rfl (by first | exact ld_ownA Try.underlying48 rfl inf48 rfl (by repeat (first | exact List.Mem.head _ | apply List.Mem.tail)) (by first | exact cellsOf_le rfl | decide | omega) (by first | exact cellsOf_all | exact take_all rfl | exact cellsOf_part rfl | rfl) | exact ld_dataA Try.underlying48 rfl inf48 rfl (by first | assumption | exact InA.add (by assumption) | exact InA.add (InA.add (by assumption))) (by assumption)) ?_ | refine so_skip rfl rfl rfl ?_
  first | refine so_call rfl rfl (fun h => nomatch h) rfl has9 (by repeat (first | exact Opvs.nil | apply Opvs.cons rfl)) (fun H hH => sameEdit_ok hH.lt (CellsA.gr hH.gr _ _ _ hy1) (CellsA.gr hH.gr _ _ _ hy2)) ?_ | refine so_skip rfl rfl rfl ?_
  first | refine so_pick_t rfl rfl rfl rfl ?_ | refine so_pick_f rfl rfl rfl rfl ?_
  refine so_move rfl rfl rfl ?_
  first | refine so_call rfl rfl (fun h => nomatch h) rfl has10 (by repeat (first | exact Opvs.nil | apply Opvs.cons rfl)) (fun H hH => example_ok H) ?_ | refine so_skip rfl rfl rfl ?_
  first | refine so_pick_t rfl rfl rfl rfl ?_ | refine so_pick_f rfl rfl rfl rfl ?_
  refine so_assign rfl rfl rfl ?_
  refine so_then ?_
  refine sx_ret ?_
  refine sk_return1 (.tmp rfl .nil) ?_
  exact fun H hH => ⟨rfl, hH.kept⟩

end Go.Proofs.Ytaedeadgbojmnaa
