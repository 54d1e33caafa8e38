/-
  Walks, laid by program.
-/
import Derived.Test.YtljakaaebljiiaaGreatDoorB10
import Derived.Test.YtljakaaebljiiaaGreatDoorD1
set_option linter.unusedVariables false
set_option linter.unusedSimpArgs false
set_option maxRecDepth 100000
namespace Go.Proofs.YtljakaaebljiiaaGreatDoor
open Go Go.AM

theorem rows_slice {A : Nat → Prop} {H : AH} {v : Value} {l : List (List CT)} (h : CellA A H (.row 32 k35) v (.row l)) : ∃ a c, v = .slice a l.length c := by
  obtain ⟨l2, a, c, e, rfl, _⟩ := h.rowD
  cases e
  exact ⟨a, c, rfl⟩
theorem RowT.open {w h e : Int} {l : List (List CT)} {u : Value} {H : AH} {A : Nat → Prop} (q : RowT w h e l u H A) : ∃ a c, u = .tuple ⟨[.agg ⟨[.int .i64 w, .int .i64 h, .slice a l.length c]⟩, .int .i64 e]⟩ ∧ CellA A H (.row 32 k35) (.slice a l.length c) (.row l) := by
  obtain ⟨s, rfl, hs⟩ := q
  obtain ⟨a, c, rfl⟩ := rows_slice hs
  exact ⟨a, c, rfl, hs⟩
theorem round_T {S : AH} {A : Nat → Prop} (hA : ∀ j, A j → j < S.nx) {w h : Int} {x : Value} {l : List (List CT)} (hx : CellA A S (.row 32 k35) x (.row l)) {d w' h' e : Int} {l' : List (List CT)} (q : RndT w h d l = RowT w' h' e l') : XCall Tryz.prog 9 [.agg ⟨[.int .i64 w, .int .i64 h, x]⟩, .int .i64 d] S fun u H' => Kept S.nx S H' ∧ RowT w' h' e l' u H' fun j => A j ∨ (S.nx ≤ j ∧ j < H'.nx) :=
  (round_ok hA hx).mono fun u H' _ k => ⟨k.1, by rw [← q]; exact k.2⟩
set_option maxHeartbeats 1000000 in
theorem convertRounds_ok {S : AH} {A : Nat → Prop} (hA : ∀ j, A j → j < S.nx) {w h : Int} {x : Value} {l : List (List CT)} (hx : CellA A S (.row 32 k35) x (.row l)) {d : Int} : XCall Tryz.prog 4 [.agg ⟨[.int .i64 w, .int .i64 h, x]⟩, .int .i64 d] S fun v H' => v = .bool true ∧ Kept S.nx S H' := by
  have hx0 := hx
  obtain ⟨l2, ax, cx, e2, rfl, rx⟩ := hx.rowD
  cases e2
  have hb := rx.len
  refine x_enter (E := E) (n := 32) (rs := [.tmp 4]) (l := [(1, _), (0, _)]) (fn_own Tryz.func4 rfl rfl rfl) hA rfl ?_
  refine sx_seq ?_
  refine sx_region (E := E) ?_
  refine so_boxA rfl rfl (fun h => nomatch h) rfl ?_
  intro N2
  refine so_assign rfl rfl rfl ?_
  refine so_then ?_
  refine sx_seq ?_
  refine sx_region (E := E) ?_
  refine so_load rfl rfl rfl (by first | exact ld_ownA Tryz.underlying27 rfl inf27 rfl (by repeat (first | exact List.Mem.head _ | apply List.Mem.tail)) (by first | exact cellsOf_le rfl | exact Nat.le_of_ble_eq_true rfl | decide | omega) (by first | exact cellsOf_all | exact take_all rfl | exact cellsOf_part rfl | rfl) | exact ld_dataA Tryz.underlying27 rfl inf27 rfl (by first | assumption | exact InA.add (by assumption) | exact InA.add (InA.add (by assumption))) (by assumption)) ?_
  refine so_move rfl rfl rfl ?_
  refine so_callF (RndT w h d l) rfl rfl (fun h => nomatch h) rfl has9 (by repeat (first | exact Opvs.nil | apply Opvs.cons rfl)) (fun H hH => round_ok hH.lt (CellA.gr hH.gr _ _ _ hx0)) ?_
  intro u1 H1 A1 g1 hT
  obtain ⟨a1, c1, rfl, hv1⟩ := RowT.open hT
  replace hx0 := CellA.gr g1 _ _ _ hx0
  refine so_move rfl rfl rfl ?_
  refine so_extract rfl rfl rfl rfl ?_
  refine so_extract rfl rfl rfl rfl ?_
  refine so_alloc (cs := (.int .i64 0 :: .int .i64 0 :: .slice none 0 0 :: [])) rfl rfl (fun h => nomatch h) inf27 rfl rfl ?_
  intro N5
  refine so_storeA rfl (fun h => nomatch h) rfl rfl inf27 (by first | exact cellsOf_length _ _ | rfl) rfl (by repeat (first | exact .zero | apply Upd.succ)) (by first | exact cellsOf_set rfl | exact cellsOf_setr rfl | exact cellsOf_store rfl | exact store_all rfl | rfl) (by first | exact cellsOf_in rfl rfl | exact cellsOf_in rfl (cellsOf_length _ _) | exact cellsOf_le rfl | exact Nat.le_of_ble_eq_true rfl | omega) (fun h => nomatch h) ?_
  refine so_assign rfl rfl rfl ?_
  refine so_then ?_
  refine sx_seq ?_
  refine sx_region (E := E) ?_
  refine so_load rfl rfl rfl (by first | exact ld_ownA Tryz.underlying27 rfl inf27 rfl (by repeat (first | exact List.Mem.head _ | apply List.Mem.tail)) (by first | exact cellsOf_le rfl | exact Nat.le_of_ble_eq_true rfl | decide | omega) (by first | exact cellsOf_all | exact take_all rfl | exact cellsOf_part rfl | rfl) | exact ld_dataA Tryz.underlying27 rfl inf27 rfl (by first | assumption | exact InA.add (by assumption) | exact InA.add (InA.add (by assumption))) (by assumption)) ?_
  refine so_move rfl rfl rfl ?_
  refine so_callF (RndT w h d l) rfl rfl (fun h => nomatch h) rfl has10 (by repeat (first | exact Opvs.nil | apply Opvs.cons rfl)) (fun H hH => rround_ok hH.lt (CellA.gr hH.gr _ _ _ hx0)) ?_
  intro u2 H2 A2 g2 hT
  obtain ⟨a2, c2, rfl, hv2⟩ := RowT.open hT
  replace hx0 := CellA.gr g2 _ _ _ hx0
  replace hv1 := CellA.gr g2 _ _ _ hv1
  refine so_move rfl rfl rfl ?_
  refine so_extract rfl rfl rfl rfl ?_
  refine so_extract rfl rfl rfl rfl ?_
  refine so_alloc (cs := (.int .i64 0 :: .int .i64 0 :: .slice none 0 0 :: [])) rfl rfl (fun h => nomatch h) inf27 rfl rfl ?_
  intro N7
  refine so_storeA rfl (fun h => nomatch h) rfl rfl inf27 (by first | exact cellsOf_length _ _ | rfl) rfl (by repeat (first | exact .zero | apply Upd.succ)) (by first | exact cellsOf_set rfl | exact cellsOf_setr rfl | exact cellsOf_store rfl | exact store_all rfl | rfl) (by first | exact cellsOf_in rfl rfl | exact cellsOf_in rfl (cellsOf_length _ _) | exact cellsOf_le rfl | exact Nat.le_of_ble_eq_true rfl | omega) (fun h => nomatch h) ?_
  refine so_assign rfl rfl rfl ?_
  refine so_then ?_
  refine sx_seq ?_
  refine sx_region (E := E) ?_
  refine so_call rfl rfl (fun h => nomatch h) rfl has6 (by repeat (first | exact Opvs.nil | apply Opvs.cons rfl)) (fun H hH => awake_ok H) ?_
  refine so_move rfl rfl rfl ?_
  first | refine so_move rfl rfl rfl ?_ | refine so_skip rfl rfl rfl ?_
  first | refine so_move rfl rfl rfl ?_ | refine so_skip rfl rfl rfl ?_
  first | refine so_bin rfl rfl rfl rfl (by first | exact bin_eql_t rfl | exact bin_eql_t (by first | rfl | assumption | omega) | exact bin_eql_f (by first | rfl | assumption | omega)) ?_ | refine so_skip rfl rfl rfl ?_
  first | refine so_pick_t rfl rfl rfl rfl ?_ | refine so_pick_f rfl rfl rfl rfl ?_
  refine so_move rfl rfl rfl ?_
  first | refine so_load rfl rfl rfl (by first | exact ld_ownA Tryz.underlying27 rfl inf27 rfl (by repeat (first | exact List.Mem.head _ | apply List.Mem.tail)) (by first | exact cellsOf_le rfl | exact Nat.le_of_ble_eq_true rfl | decide | omega) (by first | exact cellsOf_all | exact take_all rfl | exact cellsOf_part rfl | rfl) | exact ld_dataA Tryz.underlying27 rfl inf27 rfl (by first | assumption | exact InA.add (by assumption) | exact InA.add (InA.add (by assumption))) (by assumption)) ?_ | refine so_skip rfl rfl rfl ?_
  first | refine so_load rfl rfl rfl (by first | exact ld_ownA Tryz.underlying27 rfl inf27 rfl (by repeat (first | exact List.Mem.head _ | apply List.Mem.tail)) (by first | exact cellsOf_le rfl | exact Nat.le_of_ble_eq_true rfl | decide | omega) (by first | exact cellsOf_all | exact take_all rfl | exact cellsOf_part rfl | rfl) | exact ld_dataA Tryz.underlying27 rfl inf27 rfl (by first | assumption | exact InA.add (by assumption) | exact InA.add (InA.add (by assumption))) (by assumption)) ?_ | refine so_skip rfl rfl rfl ?_
  first | refine so_call rfl rfl (fun h => nomatch h) rfl has11 (by repeat (first | exact Opvs.nil | apply Opvs.cons rfl)) (fun H hH => same_ok hH.lt (CellA.gr hH.gr _ _ _ hv1) (CellA.gr hH.gr _ _ _ hv2)) ?_ | refine so_skip rfl rfl rfl ?_
  first | refine so_pick_t rfl rfl rfl rfl ?_ | refine so_pick_f rfl rfl rfl rfl ?_
  refine so_assign rfl rfl rfl ?_
  refine so_then ?_
  refine sx_ret ?_
  refine sk_return1 (.tmp rfl .nil) ?_
  exact fun H hH => ⟨rfl, hH.kept⟩

set_option maxHeartbeats 2000000 in
theorem convertTwice_ok {S : AH} {A : Nat → Prop} (hA : ∀ j, A j → j < S.nx) {w h : Int} {x : Value} {l : List (List CT)} (hx : CellA A S (.row 32 k35) x (.row l)) : XCall Tryz.prog 5 [.agg ⟨[.int .i64 w, .int .i64 h, x]⟩] S fun v H' => v = .bool true ∧ Kept S.nx S H' := by
  have hx0 := hx
  obtain ⟨l2, ax, cx, e2, rfl, rx⟩ := hx.rowD
  cases e2
  have hb := rx.len
  have hpl := row_pix rx
  refine x_enter (E := E) (n := 51) (rs := [.tmp 2]) (l := [(0, _)]) (fn_own Tryz.func5 rfl rfl rfl) hA rfl ?_
  refine sx_seq ?_
  refine sx_region (E := E) ?_
  refine so_boxA rfl rfl (fun h => nomatch h) rfl ?_
  intro N1
  refine so_assign rfl rfl rfl ?_
  refine so_then ?_
  refine sx_seq ?_
  by_cases he : imgE w h l = 0
  · skip
    have he2 : imgE w h (mapD 8 l) = 0 := by rw [mapD_8]; exact imgE_map he hpl
    have hm2 : mapD 8 (mapD 8 l) = mapD 8 l := by rw [mapD_8, mapD_8]; exact map_twice hpl
    refine sx_region (E := E) ?_
    refine so_load rfl rfl rfl (by first | exact ld_ownA Tryz.underlying27 rfl inf27 rfl (by repeat (first | exact List.Mem.head _ | apply List.Mem.tail)) (by first | exact cellsOf_le rfl | exact Nat.le_of_ble_eq_true rfl | decide | omega) (by first | exact cellsOf_all | exact take_all rfl | exact cellsOf_part rfl | rfl) | exact ld_dataA Tryz.underlying27 rfl inf27 rfl (by first | assumption | exact InA.add (by assumption) | exact InA.add (InA.add (by assumption))) (by assumption)) ?_
    refine so_callF (RowT w h 0 (mapD 8 l)) rfl rfl (fun h => nomatch h) rfl has9 (by repeat (first | exact Opvs.nil | apply Opvs.cons rfl)) (fun H hH => round_T hH.lt (CellA.gr hH.gr _ _ _ hx0) (RndT_ok he (by decide))) ?_
    intro u1 H1 A1 g1 hT
    obtain ⟨a1, c1, rfl, hv1⟩ := RowT.open hT
    replace hx0 := CellA.gr g1 _ _ _ hx0
    refine so_move rfl rfl rfl ?_
    refine so_extract rfl rfl rfl rfl ?_
    refine so_extract rfl rfl rfl rfl ?_
    refine so_alloc (cs := (.int .i64 0 :: .int .i64 0 :: .slice none 0 0 :: [])) rfl rfl (fun h => nomatch h) inf27 rfl rfl ?_
    intro N3
    refine so_storeA rfl (fun h => nomatch h) rfl rfl inf27 (by first | exact cellsOf_length _ _ | rfl) rfl (by repeat (first | exact .zero | apply Upd.succ)) (by first | exact cellsOf_set rfl | exact cellsOf_setr rfl | exact cellsOf_store rfl | exact store_all rfl | rfl) (by first | exact cellsOf_in rfl rfl | exact cellsOf_in rfl (cellsOf_length _ _) | exact cellsOf_le rfl | exact Nat.le_of_ble_eq_true rfl | omega) (fun h => nomatch h) ?_
    refine so_assign rfl rfl rfl ?_
    refine so_then ?_
    refine sx_seq ?_
    refine sx_seq ?_
    refine sx_region (E := E) ?_
    refine so_call rfl rfl (fun h => nomatch h) rfl has6 (by repeat (first | exact Opvs.nil | apply Opvs.cons rfl)) (fun H hH => awake_ok H) ?_
    refine so_not rfl rfl rfl rfl ?_
    refine so_move rfl rfl rfl ?_
    first | refine so_move rfl rfl rfl ?_ | refine so_skip rfl rfl rfl ?_
    first | refine so_bin rfl rfl rfl rfl (by first | exact bin_neq_f (by first | rfl | assumption | omega) | exact bin_neq_t (by first | rfl | assumption | omega)) ?_ | refine so_skip rfl rfl rfl ?_
    first | refine so_pick_t rfl rfl rfl rfl ?_ | refine so_pick_f rfl rfl rfl rfl ?_
    refine so_then ?_
    refine sx_false rfl ?_
    refine sx_skip ?_
    refine sk_then ?_
    refine sx_seq ?_
    refine sx_region (E := E) ?_
    refine so_load rfl rfl rfl (by first | exact ld_ownA Tryz.underlying27 rfl inf27 rfl (by repeat (first | exact List.Mem.head _ | apply List.Mem.tail)) (by first | exact cellsOf_le rfl | exact Nat.le_of_ble_eq_true rfl | decide | omega) (by first | exact cellsOf_all | exact take_all rfl | exact cellsOf_part rfl | rfl) | exact ld_dataA Tryz.underlying27 rfl inf27 rfl (by first | assumption | exact InA.add (by assumption) | exact InA.add (InA.add (by assumption))) (by assumption)) ?_
    refine so_callF (RowT w h 0 (mapD 8 l)) rfl rfl (fun h => nomatch h) rfl has9 (by repeat (first | exact Opvs.nil | apply Opvs.cons rfl)) (fun H hH => round_T hH.lt (CellA.gr hH.gr _ _ _ hv1) (by rw [RndT_ok he2 (by decide), hm2])) ?_
    intro u2 H2 A2 g2 hT
    obtain ⟨a2, c2, rfl, hv2⟩ := RowT.open hT
    replace hx0 := CellA.gr g2 _ _ _ hx0
    replace hv1 := CellA.gr g2 _ _ _ hv1
    refine so_move rfl rfl rfl ?_
    refine so_extract rfl rfl rfl rfl ?_
    refine so_extract rfl rfl rfl rfl ?_
    refine so_alloc (cs := (.int .i64 0 :: .int .i64 0 :: .slice none 0 0 :: [])) rfl rfl (fun h => nomatch h) inf27 rfl rfl ?_
    intro N5
    refine so_storeA rfl (fun h => nomatch h) rfl rfl inf27 (by first | exact cellsOf_length _ _ | rfl) rfl (by repeat (first | exact .zero | apply Upd.succ)) (by first | exact cellsOf_set rfl | exact cellsOf_setr rfl | exact cellsOf_store rfl | exact store_all rfl | rfl) (by first | exact cellsOf_in rfl rfl | exact cellsOf_in rfl (cellsOf_length _ _) | exact cellsOf_le rfl | exact Nat.le_of_ble_eq_true rfl | omega) (fun h => nomatch h) ?_
    refine so_assign rfl rfl rfl ?_
    refine so_then ?_
    refine sx_seq ?_
    refine sx_region (E := E) ?_
    refine so_load rfl rfl rfl (by first | exact ld_ownA Tryz.underlying27 rfl inf27 rfl (by repeat (first | exact List.Mem.head _ | apply List.Mem.tail)) (by first | exact cellsOf_le rfl | exact Nat.le_of_ble_eq_true rfl | decide | omega) (by first | exact cellsOf_all | exact take_all rfl | exact cellsOf_part rfl | rfl) | exact ld_dataA Tryz.underlying27 rfl inf27 rfl (by first | assumption | exact InA.add (by assumption) | exact InA.add (InA.add (by assumption))) (by assumption)) ?_
    refine so_callF (RowT w h 0 l) rfl rfl (fun h => nomatch h) rfl has9 (by repeat (first | exact Opvs.nil | apply Opvs.cons rfl)) (fun H hH => round_T hH.lt (CellA.gr hH.gr _ _ _ hx0) (by rw [RndT_ok he (by decide), mapD_16])) ?_
    intro u3 H3 A3 g3 hT
    obtain ⟨a3, c3, rfl, hv3⟩ := RowT.open hT
    replace hx0 := CellA.gr g3 _ _ _ hx0
    replace hv1 := CellA.gr g3 _ _ _ hv1
    replace hv2 := CellA.gr g3 _ _ _ hv2
    refine so_move rfl rfl rfl ?_
    refine so_extract rfl rfl rfl rfl ?_
    refine so_extract rfl rfl rfl rfl ?_
    refine so_alloc (cs := (.int .i64 0 :: .int .i64 0 :: .slice none 0 0 :: [])) rfl rfl (fun h => nomatch h) inf27 rfl rfl ?_
    intro N6
    refine so_storeA rfl (fun h => nomatch h) rfl rfl inf27 (by first | exact cellsOf_length _ _ | rfl) rfl (by repeat (first | exact .zero | apply Upd.succ)) (by first | exact cellsOf_set rfl | exact cellsOf_setr rfl | exact cellsOf_store rfl | exact store_all rfl | rfl) (by first | exact cellsOf_in rfl rfl | exact cellsOf_in rfl (cellsOf_length _ _) | exact cellsOf_le rfl | exact Nat.le_of_ble_eq_true rfl | omega) (fun h => nomatch h) ?_
    refine so_assign rfl rfl rfl ?_
    refine so_then ?_
    refine sx_seq ?_
    refine sx_region (E := E) ?_
    refine so_move rfl rfl rfl ?_
    refine so_bin rfl rfl rfl rfl (by first | exact bin_eql_t (by first | rfl | assumption | omega) | exact bin_eql_f (by first | rfl | assumption | omega)) ?_
    refine so_move rfl rfl rfl ?_
    first | refine so_move rfl rfl rfl ?_ | refine so_skip rfl rfl rfl ?_
    first | refine so_bin rfl rfl rfl rfl (by first | exact bin_eql_t (by first | rfl | assumption | omega) | exact bin_eql_f (by first | rfl | assumption | omega)) ?_ | refine so_skip rfl rfl rfl ?_
    first | refine so_pick_t rfl rfl rfl rfl ?_ | refine so_pick_f rfl rfl rfl rfl ?_
    refine so_move rfl rfl rfl ?_
    first | refine so_load rfl rfl rfl (by first | exact ld_ownA Tryz.underlying27 rfl inf27 rfl (by repeat (first | exact List.Mem.head _ | apply List.Mem.tail)) (by first | exact cellsOf_le rfl | exact Nat.le_of_ble_eq_true rfl | decide | omega) (by first | exact cellsOf_all | exact take_all rfl | exact cellsOf_part rfl | rfl) | exact ld_dataA Tryz.underlying27 rfl inf27 rfl (by first | assumption | exact InA.add (by assumption) | exact InA.add (InA.add (by assumption))) (by assumption)) ?_ | refine so_skip rfl rfl rfl ?_
    first | refine so_load rfl rfl rfl (by first | exact ld_ownA Tryz.underlying27 rfl inf27 rfl (by repeat (first | exact List.Mem.head _ | apply List.Mem.tail)) (by first | exact cellsOf_le rfl | exact Nat.le_of_ble_eq_true rfl | decide | omega) (by first | exact cellsOf_all | exact take_all rfl | exact cellsOf_part rfl | rfl) | exact ld_dataA Tryz.underlying27 rfl inf27 rfl (by first | assumption | exact InA.add (by assumption) | exact InA.add (InA.add (by assumption))) (by assumption)) ?_ | refine so_skip rfl rfl rfl ?_
    first | refine so_call rfl rfl (fun h => nomatch h) rfl has11 (by repeat (first | exact Opvs.nil | apply Opvs.cons rfl)) (fun H hH => same_ok hH.lt (CellA.gr hH.gr _ _ _ hv1) (CellA.gr hH.gr _ _ _ hv2)) ?_ | refine so_skip rfl rfl rfl ?_
    first | refine so_pick_t rfl rfl rfl rfl ?_ | refine so_pick_f rfl rfl rfl rfl ?_
    refine so_move rfl rfl rfl ?_
    first | refine so_load rfl rfl rfl (by first | exact ld_ownA Tryz.underlying27 rfl inf27 rfl (by repeat (first | exact List.Mem.head _ | apply List.Mem.tail)) (by first | exact cellsOf_le rfl | exact Nat.le_of_ble_eq_true rfl | decide | omega) (by first | exact cellsOf_all | exact take_all rfl | exact cellsOf_part rfl | rfl) | exact ld_dataA Tryz.underlying27 rfl inf27 rfl (by first | assumption | exact InA.add (by assumption) | exact InA.add (InA.add (by assumption))) (by assumption)) ?_ | refine so_skip rfl rfl rfl ?_
    first | refine so_load rfl rfl rfl (by first | exact ld_ownA Tryz.underlying27 rfl inf27 rfl (by repeat (first | exact List.Mem.head _ | apply List.Mem.tail)) (by first | exact cellsOf_le rfl | exact Nat.le_of_ble_eq_true rfl | decide | omega) (by first | exact cellsOf_all | exact take_all rfl | exact cellsOf_part rfl | rfl) | exact ld_dataA Tryz.underlying27 rfl inf27 rfl (by first | assumption | exact InA.add (by assumption) | exact InA.add (InA.add (by assumption))) (by assumption)) ?_ | refine so_skip rfl rfl rfl ?_
    first | refine so_call rfl rfl (fun h => nomatch h) rfl has11 (by repeat (first | exact Opvs.nil | apply Opvs.cons rfl)) (fun H hH => same_ok hH.lt (CellA.gr hH.gr _ _ _ hv3) (CellA.gr hH.gr _ _ _ hx0)) ?_ | refine so_skip rfl rfl rfl ?_
    first | refine so_pick_t rfl rfl rfl rfl ?_ | refine so_pick_f rfl rfl rfl rfl ?_
    refine so_assign rfl rfl rfl ?_
    refine so_then ?_
    refine sx_ret ?_
    refine sk_return1 (.tmp rfl .nil) ?_
    exact fun H hH => ⟨rfl, hH.kept⟩
  · skip
    refine sx_region (E := E) ?_
    refine so_load rfl rfl rfl (by first | exact ld_ownA Tryz.underlying27 rfl inf27 rfl (by repeat (first | exact List.Mem.head _ | apply List.Mem.tail)) (by first | exact cellsOf_le rfl | exact Nat.le_of_ble_eq_true rfl | decide | omega) (by first | exact cellsOf_all | exact take_all rfl | exact cellsOf_part rfl | rfl) | exact ld_dataA Tryz.underlying27 rfl inf27 rfl (by first | assumption | exact InA.add (by assumption) | exact InA.add (InA.add (by assumption))) (by assumption)) ?_
    refine so_callF (RowT 0 0 (imgE w h l) []) rfl rfl (fun h => nomatch h) rfl has9 (by repeat (first | exact Opvs.nil | apply Opvs.cons rfl)) (fun H hH => round_T hH.lt (CellA.gr hH.gr _ _ _ hx0) (RndT_err he)) ?_
    intro u1 H1 A1 g1 hT
    obtain ⟨a1, c1, rfl, hv1⟩ := RowT.open hT
    replace hx0 := CellA.gr g1 _ _ _ hx0
    refine so_move rfl rfl rfl ?_
    refine so_extract rfl rfl rfl rfl ?_
    refine so_extract rfl rfl rfl rfl ?_
    refine so_alloc (cs := (.int .i64 0 :: .int .i64 0 :: .slice none 0 0 :: [])) rfl rfl (fun h => nomatch h) inf27 rfl rfl ?_
    intro N3
    refine so_storeA rfl (fun h => nomatch h) rfl rfl inf27 (by first | exact cellsOf_length _ _ | rfl) rfl (by repeat (first | exact .zero | apply Upd.succ)) (by first | exact cellsOf_set rfl | exact cellsOf_setr rfl | exact cellsOf_store rfl | exact store_all rfl | rfl) (by first | exact cellsOf_in rfl rfl | exact cellsOf_in rfl (cellsOf_length _ _) | exact cellsOf_le rfl | exact Nat.le_of_ble_eq_true rfl | omega) (fun h => nomatch h) ?_
    refine so_assign rfl rfl rfl ?_
    refine so_then ?_
    refine sx_seq ?_
    refine sx_seq ?_
    refine sx_region (E := E) ?_
    refine so_call rfl rfl (fun h => nomatch h) rfl has6 (by repeat (first | exact Opvs.nil | apply Opvs.cons rfl)) (fun H hH => awake_ok H) ?_
    refine so_not rfl rfl rfl rfl ?_
    refine so_move rfl rfl rfl ?_
    first | refine so_move rfl rfl rfl ?_ | refine so_skip rfl rfl rfl ?_
    first | refine so_bin rfl rfl rfl rfl (by first | exact bin_neq_f (by first | rfl | assumption | omega) | exact bin_neq_t (by first | rfl | assumption | omega)) ?_ | refine so_skip rfl rfl rfl ?_
    first | refine so_pick_t rfl rfl rfl rfl ?_ | refine so_pick_f rfl rfl rfl rfl ?_
    refine so_then ?_
    refine sx_true rfl ?_
    refine sx_seq ?_
    refine sx_region (E := E) ?_
    refine so_call rfl rfl (fun h => nomatch h) rfl has6 (by repeat (first | exact Opvs.nil | apply Opvs.cons rfl)) (fun H hH => awake_ok H) ?_
    refine so_move rfl rfl rfl ?_
    first | refine so_load rfl rfl rfl (by first | exact ld_ownA Tryz.underlying27 rfl inf27 rfl (by repeat (first | exact List.Mem.head _ | apply List.Mem.tail)) (by first | exact cellsOf_le rfl | exact Nat.le_of_ble_eq_true rfl | decide | omega) (by first | exact cellsOf_all | exact take_all rfl | exact cellsOf_part rfl | rfl) | exact ld_dataA Tryz.underlying27 rfl inf27 rfl (by first | assumption | exact InA.add (by assumption) | exact InA.add (InA.add (by assumption))) (by assumption)) ?_ | refine so_skip rfl rfl rfl ?_
    first | refine so_build rfl rfl (by repeat (first | exact Opps.nil | apply Opps.cons rfl)) (by rfl) ?_ | refine so_skip rfl rfl rfl ?_
    first | refine so_call rfl rfl (fun h => nomatch h) rfl has11 (by repeat (first | exact Opvs.nil | apply Opvs.cons rfl)) (fun H hH => same_ok hH.lt (CellA.gr hH.gr _ _ _ hv1) nil_row) ?_ | refine so_skip rfl rfl rfl ?_
    first | refine so_pick_t rfl rfl rfl rfl ?_ | refine so_pick_f rfl rfl rfl rfl ?_
    refine so_assign rfl rfl rfl ?_
    refine so_then ?_
    refine sx_ret ?_
    refine sk_then_ret ?_
    refine sk_return1 (.tmp rfl .nil) ?_
    exact fun H hH => ⟨rfl, hH.kept⟩

end Go.Proofs.YtljakaaebljiiaaGreatDoor
