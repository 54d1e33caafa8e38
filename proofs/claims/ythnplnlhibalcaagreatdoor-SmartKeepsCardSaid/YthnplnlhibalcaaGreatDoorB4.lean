/-
  Walks, laid by program.
-/
import Derived.Test.YthnplnlhibalcaaGreatDoorB3
set_option linter.unusedVariables false
set_option linter.unusedSimpArgs false
set_option maxRecDepth 100000
namespace Go.Proofs.YthnplnlhibalcaaGreatDoor
open Go Go.AM

theorem lat_cases {l : List (List CT)} (p : List CT → Bool) (h : ∀ c ∈ l, FileLike c) (r : Int) : lat p l = none ∨ (∃ du dn dp, lat p l = some [.v (.string du), .v (.int .i64 dn), .v (.string dp)] ∧ dn ≤ r) ∨ (∃ du dn dp, lat p l = some [.v (.string du), .v (.int .i64 dn), .v (.string dp)] ∧ ¬ dn ≤ r) := by
  cases e : lat p l with
  | none => exact .inl rfl
  | some d =>
    obtain ⟨u, n, q, rfl, _⟩ := lat_files h d e
    by_cases hr : n ≤ r
    · exact .inr (.inl ⟨u, n, q, rfl, hr⟩)
    · exact .inr (.inr ⟨u, n, q, rfl, hr⟩)
set_option maxHeartbeats 1000000 in
theorem wants_ok {S : AH} {A : Nat → Prop} (hA : ∀ j, A j → j < S.nx) {x : Value} {l : List (List CT)} (hx : CellA A S (.row 40 k24) x (.row l)) {li lr lv lw lh : Int} {lq : ByteArray} {px : Value} (hlv : (Lit.int .i64 lv).wf = true) : XCall Tryz.prog 15 [.agg ⟨[.int .i64 li, .string lq, .int .i64 lr, .int .i64 lv, .int .i64 lw, .int .i64 lh, px]⟩, x] S fun v H' => v = .tuple ⟨[.int .i64 (want lr lq.data.toList lv l).1, .bool (want lr lq.data.toList lv l).2]⟩ ∧ Kept S.nx S H' := by
  obtain ⟨l2, ax, cx, e2, rfl, rx⟩ := hx.rowD
  cases e2
  have hb := rx.len
  have hfl := row_files rx
  refine x_enter (E := E) (n := 39) (rs := [.tmp 4, .tmp 5]) (l := [(1, _), (0, _)]) (fn_own Tryz.func15 rfl rfl rfl) hA rfl ?_
  refine sx_seq ?_
  refine sx_region (E := E) ?_
  refine so_boxA rfl rfl (fun h => nomatch h) rfl ?_
  intro N2
  refine so_assign rfl rfl rfl ?_
  refine so_assign rfl rfl rfl ?_
  refine so_then ?_
  refine sx_seq ?_
  refine sx_region (E := E) ?_
  refine so_build rfl rfl (by repeat (first | exact Opps.nil | apply Opps.cons rfl)) (by rfl) ?_
  refine so_alloc (cs := (.string ⟨#[]⟩ :: .int .i64 0 :: .string ⟨#[]⟩ :: [])) rfl rfl (fun h => nomatch h) inf24 rfl rfl ?_
  intro N6
  refine so_storeA rfl (fun h => nomatch h) rfl rfl inf24 (by first | exact cellsOf_length _ _ | rfl) rfl (by repeat (first | exact .zero | apply Upd.succ)) (by first | exact cellsOf_set rfl | exact cellsOf_setr rfl | exact cellsOf_store rfl | exact store_all rfl | rfl) (by first | exact cellsOf_in rfl rfl | exact cellsOf_in rfl (cellsOf_length _ _) | exact cellsOf_le rfl | exact Nat.le_of_ble_eq_true rfl | omega) (fun h => nomatch h) ?_
  refine so_assign rfl rfl rfl ?_
  refine so_then ?_
  refine sx_seq ?_
  refine sx_seq ?_
  refine sx_region (E := E) ?_
  refine so_fieldO (o' := 2) rfl rfl rfl Tryz.underlying36 rfl inf3 rfl rfl ?_
  refine so_load rfl rfl rfl (by first | exact ld_own Tryz.underlying3 rfl (by repeat (first | exact List.Mem.head _ | apply List.Mem.tail)) (by first | exact cellsOf_get rfl | rfl) | exact ld_data Tryz.underlying3 rfl (by first | assumption | exact InA.add (by assumption) | exact InA.add (InA.add (by assumption))) (by assumption)) ?_
  refine so_then ?_
  refine sx_block ?_
  refine sx_seq ?_
  rcases rule3 lr with rfl | rfl | ⟨hr1, hr2⟩
  · skip
    refine sx_region (E := E) ?_
    refine so_bin rfl rfl rfl rfl (by first | exact bin_eql_t (by first | rfl | assumption | omega) | exact bin_eql_f (by first | rfl | assumption | omega)) ?_
    refine so_assign rfl rfl rfl ?_
    refine so_then ?_
    refine sx_true rfl ?_
    rcases lat_cases (nmP lq.data.toList) hfl lv with ho | ⟨du, dn, dp, ho, hle⟩ | ⟨du, dn, dp, ho, hle⟩
    · skip
      refine sx_region (E := E) ?_
      refine so_move rfl rfl rfl ?_
      refine so_fieldO (o' := 1) rfl rfl rfl Tryz.underlying36 rfl inf9 rfl rfl ?_
      refine so_load rfl rfl rfl (by first | exact ld_own Tryz.underlying9 rfl (by repeat (first | exact List.Mem.head _ | apply List.Mem.tail)) (by first | exact cellsOf_get rfl | rfl) | exact ld_data Tryz.underlying9 rfl (by first | assumption | exact InA.add (by assumption) | exact InA.add (InA.add (by assumption))) (by assumption)) ?_
      refine so_call rfl rfl (fun h => nomatch h) rfl has13 (by repeat (first | exact Opvs.nil | apply Opvs.cons rfl)) (fun H hH => (slatest_ok hH.lt (CellA.gr hH.gr _ _ _ hx) lq).e (by rw [ho])) ?_
      refine so_move rfl rfl rfl ?_
      refine so_extract rfl rfl rfl rfl ?_
      refine so_extract rfl rfl rfl rfl ?_
      refine so_storeA rfl (fun h => nomatch h) rfl rfl inf24 (by first | exact cellsOf_length _ _ | rfl) rfl (by repeat (first | exact .zero | apply Upd.succ)) (by first | exact cellsOf_set rfl | exact cellsOf_setr rfl | exact cellsOf_store rfl | exact store_all rfl | rfl) (by first | exact cellsOf_in rfl rfl | exact cellsOf_in rfl (cellsOf_length _ _) | exact cellsOf_le rfl | exact Nat.le_of_ble_eq_true rfl | omega) (fun h => nomatch h) ?_
      refine so_assign rfl rfl rfl ?_
      refine so_nil ?_
      refine sk_block ?_
      refine sk_then ?_
      refine sx_seq ?_
      refine sx_seq ?_
      refine sx_region (E := E) ?_
      refine so_move rfl rfl rfl ?_
      refine so_not rfl rfl rfl rfl ?_
      refine so_move rfl rfl rfl ?_
      first | refine so_fieldO (o' := 1) rfl rfl rfl Tryz.underlying24 rfl inf3 rfl rfl ?_ | refine so_skip rfl rfl rfl ?_
      first | refine so_load rfl rfl rfl (by first | exact ld_own Tryz.underlying3 rfl (by repeat (first | exact List.Mem.head _ | apply List.Mem.tail)) (by first | exact cellsOf_get rfl | rfl) | exact ld_data Tryz.underlying3 rfl (by first | assumption | exact InA.add (by assumption) | exact InA.add (InA.add (by assumption))) (by assumption)) ?_ | refine so_skip rfl rfl rfl ?_
      first | refine so_fieldO (o' := 3) rfl rfl rfl Tryz.underlying36 rfl inf3 rfl rfl ?_ | refine so_skip rfl rfl rfl ?_
      first | refine so_load rfl rfl rfl (by first | exact ld_own Tryz.underlying3 rfl (by repeat (first | exact List.Mem.head _ | apply List.Mem.tail)) (by first | exact cellsOf_get rfl | rfl) | exact ld_data Tryz.underlying3 rfl (by first | assumption | exact InA.add (by assumption) | exact InA.add (InA.add (by assumption))) (by assumption)) ?_ | refine so_skip rfl rfl rfl ?_
      first | refine so_bin rfl rfl rfl rfl (by first | exact bin_leq_t (by omega) | exact bin_leq_f (by omega)) ?_ | refine so_skip rfl rfl rfl ?_
      first | refine so_pick_t rfl rfl rfl rfl ?_ | refine so_pick_f rfl rfl rfl rfl ?_
      refine so_then ?_
      refine sx_true rfl ?_
      refine sx_seq ?_
      refine sx_region (E := E) ?_
      refine so_assign rfl rfl rfl ?_
      refine so_assign rfl rfl rfl ?_
      refine so_then ?_
      refine sx_ret ?_
      refine sk_then_ret ?_
      refine sk_return2 (.tmp rfl (.tmp rfl .nil)) ?_
      exact fun H hH => ⟨by rw [want1_none ho], hH.kept⟩
    · skip
      refine sx_region (E := E) ?_
      refine so_move rfl rfl rfl ?_
      refine so_fieldO (o' := 1) rfl rfl rfl Tryz.underlying36 rfl inf9 rfl rfl ?_
      refine so_load rfl rfl rfl (by first | exact ld_own Tryz.underlying9 rfl (by repeat (first | exact List.Mem.head _ | apply List.Mem.tail)) (by first | exact cellsOf_get rfl | rfl) | exact ld_data Tryz.underlying9 rfl (by first | assumption | exact InA.add (by assumption) | exact InA.add (InA.add (by assumption))) (by assumption)) ?_
      refine so_call rfl rfl (fun h => nomatch h) rfl has13 (by repeat (first | exact Opvs.nil | apply Opvs.cons rfl)) (fun H hH => (slatest_ok hH.lt (CellA.gr hH.gr _ _ _ hx) lq).e (by rw [ho])) ?_
      refine so_move rfl rfl rfl ?_
      refine so_extract rfl rfl rfl rfl ?_
      refine so_extract rfl rfl rfl rfl ?_
      refine so_storeA rfl (fun h => nomatch h) rfl rfl inf24 (by first | exact cellsOf_length _ _ | rfl) rfl (by repeat (first | exact .zero | apply Upd.succ)) (by first | exact cellsOf_set rfl | exact cellsOf_setr rfl | exact cellsOf_store rfl | exact store_all rfl | rfl) (by first | exact cellsOf_in rfl rfl | exact cellsOf_in rfl (cellsOf_length _ _) | exact cellsOf_le rfl | exact Nat.le_of_ble_eq_true rfl | omega) (fun h => nomatch h) ?_
      refine so_assign rfl rfl rfl ?_
      refine so_nil ?_
      refine sk_block ?_
      refine sk_then ?_
      refine sx_seq ?_
      refine sx_seq ?_
      refine sx_region (E := E) ?_
      refine so_move rfl rfl rfl ?_
      refine so_not rfl rfl rfl rfl ?_
      refine so_move rfl rfl rfl ?_
      first | refine so_fieldO (o' := 1) rfl rfl rfl Tryz.underlying24 rfl inf3 rfl rfl ?_ | refine so_skip rfl rfl rfl ?_
      first | refine so_load rfl rfl rfl (by first | exact ld_own Tryz.underlying3 rfl (by repeat (first | exact List.Mem.head _ | apply List.Mem.tail)) (by first | exact cellsOf_get rfl | rfl) | exact ld_data Tryz.underlying3 rfl (by first | assumption | exact InA.add (by assumption) | exact InA.add (InA.add (by assumption))) (by assumption)) ?_ | refine so_skip rfl rfl rfl ?_
      first | refine so_fieldO (o' := 3) rfl rfl rfl Tryz.underlying36 rfl inf3 rfl rfl ?_ | refine so_skip rfl rfl rfl ?_
      first | refine so_load rfl rfl rfl (by first | exact ld_own Tryz.underlying3 rfl (by repeat (first | exact List.Mem.head _ | apply List.Mem.tail)) (by first | exact cellsOf_get rfl | rfl) | exact ld_data Tryz.underlying3 rfl (by first | assumption | exact InA.add (by assumption) | exact InA.add (InA.add (by assumption))) (by assumption)) ?_ | refine so_skip rfl rfl rfl ?_
      first | refine so_bin rfl rfl rfl rfl (by first | exact bin_leq_t (by omega) | exact bin_leq_f (by omega)) ?_ | refine so_skip rfl rfl rfl ?_
      first | refine so_pick_t rfl rfl rfl rfl ?_ | refine so_pick_f rfl rfl rfl rfl ?_
      refine so_then ?_
      refine sx_true rfl ?_
      refine sx_seq ?_
      refine sx_region (E := E) ?_
      refine so_assign rfl rfl rfl ?_
      refine so_assign rfl rfl rfl ?_
      refine so_then ?_
      refine sx_ret ?_
      refine sk_then_ret ?_
      refine sk_return2 (.tmp rfl (.tmp rfl .nil)) ?_
      exact fun H hH => ⟨by rw [want1_le ho hle], hH.kept⟩
    · skip
      refine sx_region (E := E) ?_
      refine so_move rfl rfl rfl ?_
      refine so_fieldO (o' := 1) rfl rfl rfl Tryz.underlying36 rfl inf9 rfl rfl ?_
      refine so_load rfl rfl rfl (by first | exact ld_own Tryz.underlying9 rfl (by repeat (first | exact List.Mem.head _ | apply List.Mem.tail)) (by first | exact cellsOf_get rfl | rfl) | exact ld_data Tryz.underlying9 rfl (by first | assumption | exact InA.add (by assumption) | exact InA.add (InA.add (by assumption))) (by assumption)) ?_
      refine so_call rfl rfl (fun h => nomatch h) rfl has13 (by repeat (first | exact Opvs.nil | apply Opvs.cons rfl)) (fun H hH => (slatest_ok hH.lt (CellA.gr hH.gr _ _ _ hx) lq).e (by rw [ho])) ?_
      refine so_move rfl rfl rfl ?_
      refine so_extract rfl rfl rfl rfl ?_
      refine so_extract rfl rfl rfl rfl ?_
      refine so_storeA rfl (fun h => nomatch h) rfl rfl inf24 (by first | exact cellsOf_length _ _ | rfl) rfl (by repeat (first | exact .zero | apply Upd.succ)) (by first | exact cellsOf_set rfl | exact cellsOf_setr rfl | exact cellsOf_store rfl | exact store_all rfl | rfl) (by first | exact cellsOf_in rfl rfl | exact cellsOf_in rfl (cellsOf_length _ _) | exact cellsOf_le rfl | exact Nat.le_of_ble_eq_true rfl | omega) (fun h => nomatch h) ?_
      refine so_assign rfl rfl rfl ?_
      refine so_nil ?_
      refine sk_block ?_
      refine sk_then ?_
      refine sx_seq ?_
      refine sx_seq ?_
      refine sx_region (E := E) ?_
      refine so_move rfl rfl rfl ?_
      refine so_not rfl rfl rfl rfl ?_
      refine so_move rfl rfl rfl ?_
      first | refine so_fieldO (o' := 1) rfl rfl rfl Tryz.underlying24 rfl inf3 rfl rfl ?_ | refine so_skip rfl rfl rfl ?_
      first | refine so_load rfl rfl rfl (by first | exact ld_own Tryz.underlying3 rfl (by repeat (first | exact List.Mem.head _ | apply List.Mem.tail)) (by first | exact cellsOf_get rfl | rfl) | exact ld_data Tryz.underlying3 rfl (by first | assumption | exact InA.add (by assumption) | exact InA.add (InA.add (by assumption))) (by assumption)) ?_ | refine so_skip rfl rfl rfl ?_
      first | refine so_fieldO (o' := 3) rfl rfl rfl Tryz.underlying36 rfl inf3 rfl rfl ?_ | refine so_skip rfl rfl rfl ?_
      first | refine so_load rfl rfl rfl (by first | exact ld_own Tryz.underlying3 rfl (by repeat (first | exact List.Mem.head _ | apply List.Mem.tail)) (by first | exact cellsOf_get rfl | rfl) | exact ld_data Tryz.underlying3 rfl (by first | assumption | exact InA.add (by assumption) | exact InA.add (InA.add (by assumption))) (by assumption)) ?_ | refine so_skip rfl rfl rfl ?_
      first | refine so_bin rfl rfl rfl rfl (by first | exact bin_leq_t (by omega) | exact bin_leq_f (by omega)) ?_ | refine so_skip rfl rfl rfl ?_
      first | refine so_pick_t rfl rfl rfl rfl ?_ | refine so_pick_f rfl rfl rfl rfl ?_
      refine so_then ?_
      refine sx_false rfl ?_
      refine sx_skip ?_
      refine sk_then ?_
      refine sx_seq ?_
      refine sx_region (E := E) ?_
      refine so_fieldO (o' := 1) rfl rfl rfl Tryz.underlying24 rfl inf3 rfl rfl ?_
      refine so_load rfl rfl rfl (by first | exact ld_own Tryz.underlying3 rfl (by repeat (first | exact List.Mem.head _ | apply List.Mem.tail)) (by first | exact cellsOf_get rfl | rfl) | exact ld_data Tryz.underlying3 rfl (by first | assumption | exact InA.add (by assumption) | exact InA.add (InA.add (by assumption))) (by assumption)) ?_
      refine so_assign rfl rfl rfl ?_
      refine so_assign rfl rfl rfl ?_
      refine so_then ?_
      refine sx_ret ?_
      refine sk_return2 (.tmp rfl (.tmp rfl .nil)) ?_
      exact fun H hH => ⟨by rw [want1_gt ho hle]; rfl, hH.kept⟩
  · skip
    refine sx_region (E := E) ?_
    refine so_bin rfl rfl rfl rfl (by first | exact bin_eql_t (by first | rfl | assumption | omega) | exact bin_eql_f (by first | rfl | assumption | omega)) ?_
    refine so_assign rfl rfl rfl ?_
    refine so_then ?_
    refine sx_false rfl ?_
    refine sx_seq ?_
    refine sx_region (E := E) ?_
    refine so_bin rfl rfl rfl rfl (by first | exact bin_eql_t (by first | rfl | assumption | omega) | exact bin_eql_f (by first | rfl | assumption | omega)) ?_
    refine so_assign rfl rfl rfl ?_
    refine so_then ?_
    refine sx_true rfl ?_
    rcases lat_cases (majP lq.data.toList lv) hfl lv with ho | ⟨du, dn, dp, ho, hle⟩ | ⟨du, dn, dp, ho, hle⟩
    · skip
      refine sx_region (E := E) ?_
      refine so_move rfl rfl rfl ?_
      refine so_makeFunc rfl rfl (by repeat (first | exact Opvs.nil | apply Opvs.cons rfl)) (by repeat (first | exact Opvs.nil | apply Opvs.cons rfl)) ?_
      refine so_call rfl rfl (fun h => nomatch h) rfl has26 (by repeat (first | exact Opvs.nil | apply Opvs.cons rfl)) (fun H hH => (latest_ok hH.lt (CellA.gr hH.gr _ _ _ hx) has28 (fun H2 hk u p n hn => major_ok (Nat.lt_of_lt_of_le (hH.own _ (List.Mem.tail _ (List.Mem.head _))).2.2.1 hk.nx) ((hk.get _ (hH.own _ (List.Mem.tail _ (List.Mem.head _))).2.2.1).trans (hH.own _ (List.Mem.tail _ (List.Mem.head _))).1) rfl rfl hlv u p hn)).e (by rw [ho])) ?_
      refine so_move rfl rfl rfl ?_
      refine so_extract rfl rfl rfl rfl ?_
      refine so_extract rfl rfl rfl rfl ?_
      refine so_storeA rfl (fun h => nomatch h) rfl rfl inf24 (by first | exact cellsOf_length _ _ | rfl) rfl (by repeat (first | exact .zero | apply Upd.succ)) (by first | exact cellsOf_set rfl | exact cellsOf_setr rfl | exact cellsOf_store rfl | exact store_all rfl | rfl) (by first | exact cellsOf_in rfl rfl | exact cellsOf_in rfl (cellsOf_length _ _) | exact cellsOf_le rfl | exact Nat.le_of_ble_eq_true rfl | omega) (fun h => nomatch h) ?_
      refine so_assign rfl rfl rfl ?_
      refine so_nil ?_
      refine sk_block ?_
      refine sk_then ?_
      refine sx_seq ?_
      refine sx_seq ?_
      refine sx_region (E := E) ?_
      refine so_move rfl rfl rfl ?_
      refine so_not rfl rfl rfl rfl ?_
      refine so_move rfl rfl rfl ?_
      first | refine so_fieldO (o' := 1) rfl rfl rfl Tryz.underlying24 rfl inf3 rfl rfl ?_ | refine so_skip rfl rfl rfl ?_
      first | refine so_load rfl rfl rfl (by first | exact ld_own Tryz.underlying3 rfl (by repeat (first | exact List.Mem.head _ | apply List.Mem.tail)) (by first | exact cellsOf_get rfl | rfl) | exact ld_data Tryz.underlying3 rfl (by first | assumption | exact InA.add (by assumption) | exact InA.add (InA.add (by assumption))) (by assumption)) ?_ | refine so_skip rfl rfl rfl ?_
      first | refine so_fieldO (o' := 3) rfl rfl rfl Tryz.underlying36 rfl inf3 rfl rfl ?_ | refine so_skip rfl rfl rfl ?_
      first | refine so_load rfl rfl rfl (by first | exact ld_own Tryz.underlying3 rfl (by repeat (first | exact List.Mem.head _ | apply List.Mem.tail)) (by first | exact cellsOf_get rfl | rfl) | exact ld_data Tryz.underlying3 rfl (by first | assumption | exact InA.add (by assumption) | exact InA.add (InA.add (by assumption))) (by assumption)) ?_ | refine so_skip rfl rfl rfl ?_
      first | refine so_bin rfl rfl rfl rfl (by first | exact bin_leq_t (by omega) | exact bin_leq_f (by omega)) ?_ | refine so_skip rfl rfl rfl ?_
      first | refine so_pick_t rfl rfl rfl rfl ?_ | refine so_pick_f rfl rfl rfl rfl ?_
      refine so_then ?_
      refine sx_true rfl ?_
      refine sx_seq ?_
      refine sx_region (E := E) ?_
      refine so_assign rfl rfl rfl ?_
      refine so_assign rfl rfl rfl ?_
      refine so_then ?_
      refine sx_ret ?_
      refine sk_then_ret ?_
      refine sk_return2 (.tmp rfl (.tmp rfl .nil)) ?_
      exact fun H hH => ⟨by rw [want2_none ho], hH.kept⟩
    · skip
      refine sx_region (E := E) ?_
      refine so_move rfl rfl rfl ?_
      refine so_makeFunc rfl rfl (by repeat (first | exact Opvs.nil | apply Opvs.cons rfl)) (by repeat (first | exact Opvs.nil | apply Opvs.cons rfl)) ?_
      refine so_call rfl rfl (fun h => nomatch h) rfl has26 (by repeat (first | exact Opvs.nil | apply Opvs.cons rfl)) (fun H hH => (latest_ok hH.lt (CellA.gr hH.gr _ _ _ hx) has28 (fun H2 hk u p n hn => major_ok (Nat.lt_of_lt_of_le (hH.own _ (List.Mem.tail _ (List.Mem.head _))).2.2.1 hk.nx) ((hk.get _ (hH.own _ (List.Mem.tail _ (List.Mem.head _))).2.2.1).trans (hH.own _ (List.Mem.tail _ (List.Mem.head _))).1) rfl rfl hlv u p hn)).e (by rw [ho])) ?_
      refine so_move rfl rfl rfl ?_
      refine so_extract rfl rfl rfl rfl ?_
      refine so_extract rfl rfl rfl rfl ?_
      refine so_storeA rfl (fun h => nomatch h) rfl rfl inf24 (by first | exact cellsOf_length _ _ | rfl) rfl (by repeat (first | exact .zero | apply Upd.succ)) (by first | exact cellsOf_set rfl | exact cellsOf_setr rfl | exact cellsOf_store rfl | exact store_all rfl | rfl) (by first | exact cellsOf_in rfl rfl | exact cellsOf_in rfl (cellsOf_length _ _) | exact cellsOf_le rfl | exact Nat.le_of_ble_eq_true rfl | omega) (fun h => nomatch h) ?_
      refine so_assign rfl rfl rfl ?_
      refine so_nil ?_
      refine sk_block ?_
      refine sk_then ?_
      refine sx_seq ?_
      refine sx_seq ?_
      refine sx_region (E := E) ?_
      refine so_move rfl rfl rfl ?_
      refine so_not rfl rfl rfl rfl ?_
      refine so_move rfl rfl rfl ?_
      first | refine so_fieldO (o' := 1) rfl rfl rfl Tryz.underlying24 rfl inf3 rfl rfl ?_ | refine so_skip rfl rfl rfl ?_
      first | refine so_load rfl rfl rfl (by first | exact ld_own Tryz.underlying3 rfl (by repeat (first | exact List.Mem.head _ | apply List.Mem.tail)) (by first | exact cellsOf_get rfl | rfl) | exact ld_data Tryz.underlying3 rfl (by first | assumption | exact InA.add (by assumption) | exact InA.add (InA.add (by assumption))) (by assumption)) ?_ | refine so_skip rfl rfl rfl ?_
      first | refine so_fieldO (o' := 3) rfl rfl rfl Tryz.underlying36 rfl inf3 rfl rfl ?_ | refine so_skip rfl rfl rfl ?_
      first | refine so_load rfl rfl rfl (by first | exact ld_own Tryz.underlying3 rfl (by repeat (first | exact List.Mem.head _ | apply List.Mem.tail)) (by first | exact cellsOf_get rfl | rfl) | exact ld_data Tryz.underlying3 rfl (by first | assumption | exact InA.add (by assumption) | exact InA.add (InA.add (by assumption))) (by assumption)) ?_ | refine so_skip rfl rfl rfl ?_
      first | refine so_bin rfl rfl rfl rfl (by first | exact bin_leq_t (by omega) | exact bin_leq_f (by omega)) ?_ | refine so_skip rfl rfl rfl ?_
      first | refine so_pick_t rfl rfl rfl rfl ?_ | refine so_pick_f rfl rfl rfl rfl ?_
      refine so_then ?_
      refine sx_true rfl ?_
      refine sx_seq ?_
      refine sx_region (E := E) ?_
      refine so_assign rfl rfl rfl ?_
      refine so_assign rfl rfl rfl ?_
      refine so_then ?_
      refine sx_ret ?_
      refine sk_then_ret ?_
      refine sk_return2 (.tmp rfl (.tmp rfl .nil)) ?_
      exact fun H hH => ⟨by rw [want2_le ho hle], hH.kept⟩
    · skip
      refine sx_region (E := E) ?_
      refine so_move rfl rfl rfl ?_
      refine so_makeFunc rfl rfl (by repeat (first | exact Opvs.nil | apply Opvs.cons rfl)) (by repeat (first | exact Opvs.nil | apply Opvs.cons rfl)) ?_
      refine so_call rfl rfl (fun h => nomatch h) rfl has26 (by repeat (first | exact Opvs.nil | apply Opvs.cons rfl)) (fun H hH => (latest_ok hH.lt (CellA.gr hH.gr _ _ _ hx) has28 (fun H2 hk u p n hn => major_ok (Nat.lt_of_lt_of_le (hH.own _ (List.Mem.tail _ (List.Mem.head _))).2.2.1 hk.nx) ((hk.get _ (hH.own _ (List.Mem.tail _ (List.Mem.head _))).2.2.1).trans (hH.own _ (List.Mem.tail _ (List.Mem.head _))).1) rfl rfl hlv u p hn)).e (by rw [ho])) ?_
      refine so_move rfl rfl rfl ?_
      refine so_extract rfl rfl rfl rfl ?_
      refine so_extract rfl rfl rfl rfl ?_
      refine so_storeA rfl (fun h => nomatch h) rfl rfl inf24 (by first | exact cellsOf_length _ _ | rfl) rfl (by repeat (first | exact .zero | apply Upd.succ)) (by first | exact cellsOf_set rfl | exact cellsOf_setr rfl | exact cellsOf_store rfl | exact store_all rfl | rfl) (by first | exact cellsOf_in rfl rfl | exact cellsOf_in rfl (cellsOf_length _ _) | exact cellsOf_le rfl | exact Nat.le_of_ble_eq_true rfl | omega) (fun h => nomatch h) ?_
      refine so_assign rfl rfl rfl ?_
      refine so_nil ?_
      refine sk_block ?_
      refine sk_then ?_
      refine sx_seq ?_
      refine sx_seq ?_
      refine sx_region (E := E) ?_
      refine so_move rfl rfl rfl ?_
      refine so_not rfl rfl rfl rfl ?_
      refine so_move rfl rfl rfl ?_
      first | refine so_fieldO (o' := 1) rfl rfl rfl Tryz.underlying24 rfl inf3 rfl rfl ?_ | refine so_skip rfl rfl rfl ?_
      first | refine so_load rfl rfl rfl (by first | exact ld_own Tryz.underlying3 rfl (by repeat (first | exact List.Mem.head _ | apply List.Mem.tail)) (by first | exact cellsOf_get rfl | rfl) | exact ld_data Tryz.underlying3 rfl (by first | assumption | exact InA.add (by assumption) | exact InA.add (InA.add (by assumption))) (by assumption)) ?_ | refine so_skip rfl rfl rfl ?_
      first | refine so_fieldO (o' := 3) rfl rfl rfl Tryz.underlying36 rfl inf3 rfl rfl ?_ | refine so_skip rfl rfl rfl ?_
      first | refine so_load rfl rfl rfl (by first | exact ld_own Tryz.underlying3 rfl (by repeat (first | exact List.Mem.head _ | apply List.Mem.tail)) (by first | exact cellsOf_get rfl | rfl) | exact ld_data Tryz.underlying3 rfl (by first | assumption | exact InA.add (by assumption) | exact InA.add (InA.add (by assumption))) (by assumption)) ?_ | refine so_skip rfl rfl rfl ?_
      first | refine so_bin rfl rfl rfl rfl (by first | exact bin_leq_t (by omega) | exact bin_leq_f (by omega)) ?_ | refine so_skip rfl rfl rfl ?_
      first | refine so_pick_t rfl rfl rfl rfl ?_ | refine so_pick_f rfl rfl rfl rfl ?_
      refine so_then ?_
      refine sx_false rfl ?_
      refine sx_skip ?_
      refine sk_then ?_
      refine sx_seq ?_
      refine sx_region (E := E) ?_
      refine so_fieldO (o' := 1) rfl rfl rfl Tryz.underlying24 rfl inf3 rfl rfl ?_
      refine so_load rfl rfl rfl (by first | exact ld_own Tryz.underlying3 rfl (by repeat (first | exact List.Mem.head _ | apply List.Mem.tail)) (by first | exact cellsOf_get rfl | rfl) | exact ld_data Tryz.underlying3 rfl (by first | assumption | exact InA.add (by assumption) | exact InA.add (InA.add (by assumption))) (by assumption)) ?_
      refine so_assign rfl rfl rfl ?_
      refine so_assign rfl rfl rfl ?_
      refine so_then ?_
      refine sx_ret ?_
      refine sk_return2 (.tmp rfl (.tmp rfl .nil)) ?_
      exact fun H hH => ⟨by rw [want2_gt ho hle]; rfl, hH.kept⟩
  · skip
    refine sx_region (E := E) ?_
    refine so_bin rfl rfl rfl rfl (by first | exact bin_eql_t (by first | rfl | assumption | omega) | exact bin_eql_f (by first | rfl | assumption | omega)) ?_
    refine so_assign rfl rfl rfl ?_
    refine so_then ?_
    refine sx_false rfl ?_
    refine sx_seq ?_
    refine sx_region (E := E) ?_
    refine so_bin rfl rfl rfl rfl (by first | exact bin_eql_t (by first | rfl | assumption | omega) | exact bin_eql_f (by first | rfl | assumption | omega)) ?_
    refine so_assign rfl rfl rfl ?_
    refine so_then ?_
    refine sx_false rfl ?_
    refine sx_skip ?_
    refine sk_block ?_
    refine sk_then ?_
    refine sx_seq ?_
    refine sx_seq ?_
    refine sx_region (E := E) ?_
    refine so_move rfl rfl rfl ?_
    refine so_not rfl rfl rfl rfl ?_
    refine so_move rfl rfl rfl ?_
    first | refine so_fieldO (o' := 1) rfl rfl rfl Tryz.underlying24 rfl inf3 rfl rfl ?_ | refine so_skip rfl rfl rfl ?_
    first | refine so_load rfl rfl rfl (by first | exact ld_own Tryz.underlying3 rfl (by repeat (first | exact List.Mem.head _ | apply List.Mem.tail)) (by first | exact cellsOf_get rfl | rfl) | exact ld_data Tryz.underlying3 rfl (by first | assumption | exact InA.add (by assumption) | exact InA.add (InA.add (by assumption))) (by assumption)) ?_ | refine so_skip rfl rfl rfl ?_
    first | refine so_fieldO (o' := 3) rfl rfl rfl Tryz.underlying36 rfl inf3 rfl rfl ?_ | refine so_skip rfl rfl rfl ?_
    first | refine so_load rfl rfl rfl (by first | exact ld_own Tryz.underlying3 rfl (by repeat (first | exact List.Mem.head _ | apply List.Mem.tail)) (by first | exact cellsOf_get rfl | rfl) | exact ld_data Tryz.underlying3 rfl (by first | assumption | exact InA.add (by assumption) | exact InA.add (InA.add (by assumption))) (by assumption)) ?_ | refine so_skip rfl rfl rfl ?_
    first | refine so_bin rfl rfl rfl rfl (by first | exact bin_leq_t (by omega) | exact bin_leq_f (by omega)) ?_ | refine so_skip rfl rfl rfl ?_
    first | refine so_pick_t rfl rfl rfl rfl ?_ | refine so_pick_f rfl rfl rfl rfl ?_
    refine so_then ?_
    refine sx_true rfl ?_
    refine sx_seq ?_
    refine sx_region (E := E) ?_
    refine so_assign rfl rfl rfl ?_
    refine so_assign rfl rfl rfl ?_
    refine so_then ?_
    refine sx_ret ?_
    refine sk_then_ret ?_
    refine sk_return2 (.tmp rfl (.tmp rfl .nil)) ?_
    exact fun H hH => ⟨by rw [want_other hr1 hr2], hH.kept⟩

set_option maxHeartbeats 1000000 in
theorem rwants_ok {S : AH} {A : Nat → Prop} (hA : ∀ j, A j → j < S.nx) {x : Value} {l : List (List CT)} (hx : CellA A S (.row 40 k24) x (.row l)) {li lr lv lw lh : Int} {lq : ByteArray} {px : Value} (hlv : (Lit.int .i64 lv).wf = true) : XCall Tryz.prog 16 [.agg ⟨[.int .i64 li, .string lq, .int .i64 lr, .int .i64 lv, .int .i64 lw, .int .i64 lh, px]⟩, x] S fun v H' => v = .tuple ⟨[.int .i64 (want lr lq.data.toList lv l).1, .bool (want lr lq.data.toList lv l).2]⟩ ∧ Kept S.nx S H' := by
  obtain ⟨l2, ax, cx, e2, rfl, rx⟩ := hx.rowD
  cases e2
  have hb := rx.len
  refine x_enter (E := E) (n := 55) (rs := [.tmp 4, .tmp 5]) (l := [(1, _), (0, _)]) (fn_own Tryz.func16 rfl rfl rfl) hA rfl ?_
  refine sx_seq ?_
  refine sx_region (E := E) ?_
  refine so_boxA rfl rfl (fun h => nomatch h) rfl ?_
  intro N2
  refine so_assign rfl rfl rfl ?_
  refine so_assign rfl rfl rfl ?_
  refine so_then ?_
  refine sx_seq ?_
  rcases rule3 lr with rfl | rfl | ⟨hr1, hr2⟩
  · skip
    refine sx_region (E := E) ?_
    refine so_fieldO (o' := 3) rfl rfl rfl Tryz.underlying36 rfl inf3 rfl rfl ?_
    refine so_load rfl rfl rfl (by first | exact ld_own Tryz.underlying3 rfl (by repeat (first | exact List.Mem.head _ | apply List.Mem.tail)) (by first | exact cellsOf_get rfl | rfl) | exact ld_data Tryz.underlying3 rfl (by first | assumption | exact InA.add (by assumption) | exact InA.add (InA.add (by assumption))) (by assumption)) ?_
    refine so_assign rfl rfl rfl ?_
    refine so_assign rfl rfl rfl ?_
    refine so_then ?_
    refine sx_seq ?_
    refine sx_seq ?_
    refine sx_region (E := E) ?_
    refine so_move rfl rfl rfl ?_
    refine so_lenL rfl rfl rfl rfl rfl rfl Tryz.underlying22 ?_
    refine so_move rfl rfl rfl ?_
    refine so_then ?_
    refine sx_block ?_
    refine sx_loop (σ := Nat × Int × Bool) (fun z => l.length - z.1) (fun z => [(1, .slice ax l.length cx), (2, .pointer (some ⟨2 * N2 + 1, 0, none⟩)), (6, .int .i64 z.2.1), (7, .bool z.2.2), (13, .int .i64 ((l.length : Nat) : Int)), (14, .int .i64 ((z.1 : Nat) : Int))]) (fun _ => S) (fun _ => A) (fun _ => [(N2, .cells [.int .i64 li, .string lq, .int .i64 1, .int .i64 lv, .int .i64 lw, .int .i64 lh, px] (boxsz E 36) true)]) (fun z => z.1 ≤ l.length ∧ (z.2.1, z.2.2) = wantR lv (lat (wantP 1 lq.data.toList lv) (l.take z.1))) ((0, lv, false)) (⟨Nat.zero_le _, rfl⟩) (by repeat (first | exact .nil | refine .cons rfl ?_)) rfl rfl (by repeat (first | exact List.nil_sublist _ | apply List.Sublist.cons_cons | apply List.Sublist.cons)) ?_
    intro s hJ t1
    obtain ⟨k, w1, w2⟩ := s
    obtain ⟨hJ, hw⟩ := hJ
    dsimp only at hJ hw ⊢
    refine sx_seq ?_
    rcases Nat.lt_or_ge k l.length with hk | hk
    · skip
      obtain ⟨qx, us, d, eqx, ix, hc, lx, kx⟩ := rx.at' k hk
      cases eqx
      obtain ⟨u, n, p, rfl, rfl, hu, hn, hp⟩ := file3 kx
      refine sx_region (E := E) ?_
      refine so_bin rfl rfl rfl rfl (by first | exact bin_lss_t (by omega) | exact bin_lss_f (by omega)) ?_
      refine so_then ?_
      refine sx_seq ?_
      refine sx_true rfl ?_
      refine sx_skip ?_
      refine sk_then ?_
      refine sx_seq ?_
      refine sx_block ?_
      refine sx_seq ?_
      refine sx_region (E := E) ?_
      refine so_move rfl rfl rfl ?_
      refine so_assign rfl rfl rfl ?_
      refine so_then ?_
      refine sx_seq ?_
      refine sx_region (E := E) ?_
      refine so_move rfl rfl rfl ?_
      refine so_move rfl rfl rfl ?_
      first | refine so_indexO rfl rfl rfl rfl Tryz.underlying22 inf24 rfl (by omega) rfl ?_ | refine so_index rfl rfl rfl rfl Tryz.underlying22 inf24 rfl (by omega) ?_
      refine so_load rfl rfl rfl (by first | exact ld_ownA Tryz.underlying24 rfl inf24 rfl (by repeat (first | exact List.Mem.head _ | apply List.Mem.tail)) (by first | exact cellsOf_le rfl | exact Nat.le_of_ble_eq_true rfl | decide | omega) (by first | exact cellsOf_all | exact take_all rfl | exact cellsOf_part rfl | rfl) | exact ld_dataA Tryz.underlying24 rfl inf24 rfl (by first | assumption | exact InA.add (by assumption) | exact InA.add (InA.add (by assumption))) (by assumption)) ?_
      refine so_alloc (cs := (.string ⟨#[]⟩ :: .int .i64 0 :: .string ⟨#[]⟩ :: [])) rfl rfl (fun h => nomatch h) inf24 rfl rfl ?_
      intro N9
      refine so_storeA rfl (fun h => nomatch h) rfl rfl inf24 (by first | exact cellsOf_length _ _ | rfl) rfl (by repeat (first | exact .zero | apply Upd.succ)) (by first | exact cellsOf_set rfl | exact cellsOf_setr rfl | exact cellsOf_store rfl | exact store_all rfl | rfl) (by first | exact cellsOf_in rfl rfl | exact cellsOf_in rfl (cellsOf_length _ _) | exact cellsOf_le rfl | exact Nat.le_of_ble_eq_true rfl | omega) (fun h => nomatch h) ?_
      refine so_then ?_
      refine sx_seq ?_
      refine sx_seq ?_
      rcases eq3 u.data.toList lq.data.toList (n ≤ w1) with heq | ⟨heq, hh1⟩ | ⟨heq, hh1⟩
      · skip
        refine sx_region (E := E) ?_
        refine so_fieldO (o' := 0) rfl rfl rfl Tryz.underlying24 rfl inf9 rfl rfl ?_
        refine so_load rfl rfl rfl (by first | exact ld_own Tryz.underlying9 rfl (by repeat (first | exact List.Mem.head _ | apply List.Mem.tail)) (by first | exact cellsOf_get rfl | rfl) | exact ld_data Tryz.underlying9 rfl (by first | assumption | exact InA.add (by assumption) | exact InA.add (InA.add (by assumption))) (by assumption)) ?_
        refine so_fieldO (o' := 1) rfl rfl rfl Tryz.underlying36 rfl inf9 rfl rfl ?_
        refine so_load rfl rfl rfl (by first | exact ld_own Tryz.underlying9 rfl (by repeat (first | exact List.Mem.head _ | apply List.Mem.tail)) (by first | exact cellsOf_get rfl | rfl) | exact ld_data Tryz.underlying9 rfl (by first | assumption | exact InA.add (by assumption) | exact InA.add (InA.add (by assumption))) (by assumption)) ?_
        refine so_bin rfl rfl rfl rfl (by first | exact bin_sneq_f (by first | rfl | assumption | decide) | exact bin_sneq_t (by first | rfl | assumption | decide)) ?_
        refine so_move rfl rfl rfl ?_
        first | refine so_fieldO (o' := 1) rfl rfl rfl Tryz.underlying24 rfl inf3 rfl rfl ?_ | refine so_skip rfl rfl rfl ?_
        first | refine so_load rfl rfl rfl (by first | exact ld_own Tryz.underlying3 rfl (by repeat (first | exact List.Mem.head _ | apply List.Mem.tail)) (by first | exact cellsOf_get rfl | rfl) | exact ld_data Tryz.underlying3 rfl (by first | assumption | exact InA.add (by assumption) | exact InA.add (InA.add (by assumption))) (by assumption)) ?_ | refine so_skip rfl rfl rfl ?_
        first | refine so_move rfl rfl rfl ?_ | refine so_skip rfl rfl rfl ?_
        first | refine so_bin rfl rfl rfl rfl (by first | exact bin_leq_t (by omega) | exact bin_leq_f (by omega)) ?_ | refine so_skip rfl rfl rfl ?_
        first | refine so_pick_t rfl rfl rfl rfl ?_ | refine so_pick_f rfl rfl rfl rfl ?_
        refine so_then ?_
        refine sx_true rfl ?_
        refine sx_exit ?_
        refine sk_then_exit ?_
        refine sk_block_exit ?_
        refine sk_then ?_
        refine sx_region (E := E) ?_
        refine so_bin rfl rfl rfl rfl (by first | exact bin_incr (by omega) | exact bin_add (wrap64 (by omega) (by omega)) | exact bin_add rfl) ?_
        refine so_move rfl rfl rfl ?_
        refine so_nil ?_
        exact sk_round (k + 1, w1, w2) (show l.length - (k + 1) < l.length - k by omega) ⟨show k + 1 ≤ l.length by omega, by rw [lat_step hc, wantR_leave (.inl (by simp [wantP, nmOf, CT.str, heq])), ← hw]⟩ (by repeat (first | exact .nil | refine .cons rfl ?_)) rfl rfl (by repeat (first | exact List.nil_sublist _ | apply List.Sublist.cons_cons | apply List.Sublist.cons))
      · skip
        refine sx_region (E := E) ?_
        refine so_fieldO (o' := 0) rfl rfl rfl Tryz.underlying24 rfl inf9 rfl rfl ?_
        refine so_load rfl rfl rfl (by first | exact ld_own Tryz.underlying9 rfl (by repeat (first | exact List.Mem.head _ | apply List.Mem.tail)) (by first | exact cellsOf_get rfl | rfl) | exact ld_data Tryz.underlying9 rfl (by first | assumption | exact InA.add (by assumption) | exact InA.add (InA.add (by assumption))) (by assumption)) ?_
        refine so_fieldO (o' := 1) rfl rfl rfl Tryz.underlying36 rfl inf9 rfl rfl ?_
        refine so_load rfl rfl rfl (by first | exact ld_own Tryz.underlying9 rfl (by repeat (first | exact List.Mem.head _ | apply List.Mem.tail)) (by first | exact cellsOf_get rfl | rfl) | exact ld_data Tryz.underlying9 rfl (by first | assumption | exact InA.add (by assumption) | exact InA.add (InA.add (by assumption))) (by assumption)) ?_
        refine so_bin rfl rfl rfl rfl (by first | exact bin_sneq_f (by first | rfl | assumption | decide) | exact bin_sneq_t (by first | rfl | assumption | decide)) ?_
        refine so_move rfl rfl rfl ?_
        first | refine so_fieldO (o' := 1) rfl rfl rfl Tryz.underlying24 rfl inf3 rfl rfl ?_ | refine so_skip rfl rfl rfl ?_
        first | refine so_load rfl rfl rfl (by first | exact ld_own Tryz.underlying3 rfl (by repeat (first | exact List.Mem.head _ | apply List.Mem.tail)) (by first | exact cellsOf_get rfl | rfl) | exact ld_data Tryz.underlying3 rfl (by first | assumption | exact InA.add (by assumption) | exact InA.add (InA.add (by assumption))) (by assumption)) ?_ | refine so_skip rfl rfl rfl ?_
        first | refine so_move rfl rfl rfl ?_ | refine so_skip rfl rfl rfl ?_
        first | refine so_bin rfl rfl rfl rfl (by first | exact bin_leq_t (by omega) | exact bin_leq_f (by omega)) ?_ | refine so_skip rfl rfl rfl ?_
        first | refine so_pick_t rfl rfl rfl rfl ?_ | refine so_pick_f rfl rfl rfl rfl ?_
        refine so_then ?_
        refine sx_true rfl ?_
        refine sx_exit ?_
        refine sk_then_exit ?_
        refine sk_block_exit ?_
        refine sk_then ?_
        refine sx_region (E := E) ?_
        refine so_bin rfl rfl rfl rfl (by first | exact bin_incr (by omega) | exact bin_add (wrap64 (by omega) (by omega)) | exact bin_add rfl) ?_
        refine so_move rfl rfl rfl ?_
        refine so_nil ?_
        exact sk_round (k + 1, w1, w2) (show l.length - (k + 1) < l.length - k by omega) ⟨show k + 1 ≤ l.length by omega, by rw [lat_step hc, wantR_leave (.inr (by rw [← hw]; exact hh1)), ← hw]⟩ (by repeat (first | exact .nil | refine .cons rfl ?_)) rfl rfl (by repeat (first | exact List.nil_sublist _ | apply List.Sublist.cons_cons | apply List.Sublist.cons))
      · skip
        refine sx_region (E := E) ?_
        refine so_fieldO (o' := 0) rfl rfl rfl Tryz.underlying24 rfl inf9 rfl rfl ?_
        refine so_load rfl rfl rfl (by first | exact ld_own Tryz.underlying9 rfl (by repeat (first | exact List.Mem.head _ | apply List.Mem.tail)) (by first | exact cellsOf_get rfl | rfl) | exact ld_data Tryz.underlying9 rfl (by first | assumption | exact InA.add (by assumption) | exact InA.add (InA.add (by assumption))) (by assumption)) ?_
        refine so_fieldO (o' := 1) rfl rfl rfl Tryz.underlying36 rfl inf9 rfl rfl ?_
        refine so_load rfl rfl rfl (by first | exact ld_own Tryz.underlying9 rfl (by repeat (first | exact List.Mem.head _ | apply List.Mem.tail)) (by first | exact cellsOf_get rfl | rfl) | exact ld_data Tryz.underlying9 rfl (by first | assumption | exact InA.add (by assumption) | exact InA.add (InA.add (by assumption))) (by assumption)) ?_
        refine so_bin rfl rfl rfl rfl (by first | exact bin_sneq_f (by first | rfl | assumption | decide) | exact bin_sneq_t (by first | rfl | assumption | decide)) ?_
        refine so_move rfl rfl rfl ?_
        first | refine so_fieldO (o' := 1) rfl rfl rfl Tryz.underlying24 rfl inf3 rfl rfl ?_ | refine so_skip rfl rfl rfl ?_
        first | refine so_load rfl rfl rfl (by first | exact ld_own Tryz.underlying3 rfl (by repeat (first | exact List.Mem.head _ | apply List.Mem.tail)) (by first | exact cellsOf_get rfl | rfl) | exact ld_data Tryz.underlying3 rfl (by first | assumption | exact InA.add (by assumption) | exact InA.add (InA.add (by assumption))) (by assumption)) ?_ | refine so_skip rfl rfl rfl ?_
        first | refine so_move rfl rfl rfl ?_ | refine so_skip rfl rfl rfl ?_
        first | refine so_bin rfl rfl rfl rfl (by first | exact bin_leq_t (by omega) | exact bin_leq_f (by omega)) ?_ | refine so_skip rfl rfl rfl ?_
        first | refine so_pick_t rfl rfl rfl rfl ?_ | refine so_pick_f rfl rfl rfl rfl ?_
        refine so_then ?_
        refine sx_false rfl ?_
        refine sx_skip ?_
        refine sk_then ?_
        refine sx_seq ?_
        skip
        · skip
          refine sx_draw (E := E) mixed [10, 13] _ (List.Sublist.refl _) (by kernel_rfl) (by kernel_rfl) (by decide) ?_
          refine so_fieldO (o' := 2) rfl rfl rfl Tryz.underlying36 rfl inf3 rfl rfl ?_
          refine so_load rfl rfl rfl (by first | exact ld_own Tryz.underlying3 rfl (by repeat (first | exact List.Mem.head _ | apply List.Mem.tail)) (by first | exact cellsOf_get rfl | rfl) | exact ld_data Tryz.underlying3 rfl (by first | assumption | exact InA.add (by assumption) | exact InA.add (InA.add (by assumption))) (by assumption)) ?_
          refine so_bin rfl rfl rfl rfl (by first | exact bin_eql_t (by first | rfl | assumption | omega) | exact bin_eql_f (by first | rfl | assumption | omega)) ?_
          refine so_move rfl rfl rfl ?_
          first | refine so_fieldO (o' := 2) rfl rfl rfl Tryz.underlying36 rfl inf3 rfl rfl ?_ | refine so_skip rfl rfl rfl ?_
          first | refine so_load rfl rfl rfl (by first | exact ld_own Tryz.underlying3 rfl (by repeat (first | exact List.Mem.head _ | apply List.Mem.tail)) (by first | exact cellsOf_get rfl | rfl) | exact ld_data Tryz.underlying3 rfl (by first | assumption | exact InA.add (by assumption) | exact InA.add (InA.add (by assumption))) (by assumption)) ?_ | refine so_skip rfl rfl rfl ?_
          first | refine so_bin rfl rfl rfl rfl (by first | exact bin_eql_t (by first | rfl | assumption | omega) | exact bin_eql_f (by first | rfl | assumption | omega)) ?_ | refine so_skip rfl rfl rfl ?_
          first | refine so_move rfl rfl rfl ?_ | refine so_skip rfl rfl rfl ?_
          first | refine so_fieldO (o' := 1) rfl rfl rfl Tryz.underlying24 rfl inf3 rfl rfl ?_ | refine so_skip rfl rfl rfl ?_
          first | refine so_load rfl rfl rfl (by first | exact ld_own Tryz.underlying3 rfl (by repeat (first | exact List.Mem.head _ | apply List.Mem.tail)) (by first | exact cellsOf_get rfl | rfl) | exact ld_data Tryz.underlying3 rfl (by first | assumption | exact InA.add (by assumption) | exact InA.add (InA.add (by assumption))) (by assumption)) ?_ | refine so_skip rfl rfl rfl ?_
          first | refine so_call rfl rfl (fun _ => (by repeat (first | exact List.Mem.head _ | apply List.Mem.tail))) rfl has30 (by repeat (first | exact Opvs.nil | apply Opvs.cons rfl)) (fun H hH => hundred_ok hn) ?_ | refine so_skip rfl rfl rfl ?_
          first | refine so_fieldO (o' := 3) rfl rfl rfl Tryz.underlying36 rfl inf3 rfl rfl ?_ | refine so_skip rfl rfl rfl ?_
          first | refine so_load rfl rfl rfl (by first | exact ld_own Tryz.underlying3 rfl (by repeat (first | exact List.Mem.head _ | apply List.Mem.tail)) (by first | exact cellsOf_get rfl | rfl) | exact ld_data Tryz.underlying3 rfl (by first | assumption | exact InA.add (by assumption) | exact InA.add (InA.add (by assumption))) (by assumption)) ?_ | refine so_skip rfl rfl rfl ?_
          first | refine so_call rfl rfl (fun _ => (by repeat (first | exact List.Mem.head _ | apply List.Mem.tail))) rfl has30 (by repeat (first | exact Opvs.nil | apply Opvs.cons rfl)) (fun H hH => hundred_ok hlv) ?_ | refine so_skip rfl rfl rfl ?_
          first | refine so_bin rfl rfl rfl rfl (by first | exact bin_eql_t (by first | rfl | assumption | omega) | exact bin_eql_f (by first | rfl | assumption | omega)) ?_ | refine so_skip rfl rfl rfl ?_
          first | refine so_pick_t rfl rfl rfl rfl ?_ | refine so_pick_f rfl rfl rfl rfl ?_ | refine so_skip rfl rfl rfl ?_
          first | refine so_pick_t rfl rfl rfl rfl ?_ | refine so_pick_f rfl rfl rfl rfl ?_
          refine so_then ?_
          refine sx_true rfl ?_
          refine sx_region (E := E) ?_
          refine so_fieldO (o' := 1) rfl rfl rfl Tryz.underlying24 rfl inf3 rfl rfl ?_
          refine so_load rfl rfl rfl (by first | exact ld_own Tryz.underlying3 rfl (by repeat (first | exact List.Mem.head _ | apply List.Mem.tail)) (by first | exact cellsOf_get rfl | rfl) | exact ld_data Tryz.underlying3 rfl (by first | assumption | exact InA.add (by assumption) | exact InA.add (InA.add (by assumption))) (by assumption)) ?_
          refine so_assign rfl rfl rfl ?_
          refine so_assign rfl rfl rfl ?_
          refine so_nil ?_
          refine sk_block ?_
          refine sk_then ?_
          refine sx_region (E := E) ?_
          refine so_bin rfl rfl rfl rfl (by first | exact bin_incr (by omega) | exact bin_add (wrap64 (by omega) (by omega)) | exact bin_add rfl) ?_
          refine so_move rfl rfl rfl ?_
          refine so_nil ?_
          exact sk_round (k + 1, n, true) (show l.length - (k + 1) < l.length - k by omega) ⟨show k + 1 ≤ l.length by omega, by rw [lat_step hc, wantR_take (by simp [wantP, nmOf, CT.str, heq]) (by rw [← hw]; show w1 < n; omega)]; rfl⟩ (by repeat (first | exact .nil | refine .cons rfl ?_)) rfl rfl (by repeat (first | exact List.nil_sublist _ | apply List.Sublist.cons_cons | apply List.Sublist.cons))
    · skip
      rw [List.take_of_length_le (by omega)] at hw
      refine sx_region (E := E) ?_
      refine so_bin rfl rfl rfl rfl (by first | exact bin_lss_t (by omega) | exact bin_lss_f (by omega)) ?_
      refine so_then ?_
      refine sx_seq ?_
      refine sx_false rfl ?_
      refine sx_exit ?_
      refine sk_then_exit ?_
      refine sk_loop_exit ?_
      refine sk_block_exit ?_
      refine sk_then ?_
      refine sx_seq ?_
      refine sx_seq ?_
      cases w2
      · skip
        refine sx_region (E := E) ?_
        refine so_move rfl rfl rfl ?_
        refine so_not rfl rfl rfl rfl ?_
        refine so_then ?_
        refine sx_true rfl ?_
        refine sx_seq ?_
        refine sx_region (E := E) ?_
        refine so_assign rfl rfl rfl ?_
        refine so_assign rfl rfl rfl ?_
        refine so_then ?_
        refine sx_ret ?_
        refine sk_then_ret ?_
        refine sk_return2 (.tmp rfl (.tmp rfl .nil)) ?_
        exact fun H hH => ⟨by rw [want, wantS_of_R, ← hw, if_neg (by simp)], hH.kept⟩
      · skip
        refine sx_region (E := E) ?_
        refine so_move rfl rfl rfl ?_
        refine so_not rfl rfl rfl rfl ?_
        refine so_then ?_
        refine sx_false rfl ?_
        refine sx_skip ?_
        refine sk_then ?_
        refine sx_seq ?_
        refine sx_region (E := E) ?_
        refine so_move rfl rfl rfl ?_
        refine so_assign rfl rfl rfl ?_
        refine so_assign rfl rfl rfl ?_
        refine so_then ?_
        refine sx_ret ?_
        refine sk_return2 (.tmp rfl (.tmp rfl .nil)) ?_
        exact fun H hH => ⟨by rw [want, wantS_of_R, ← hw, if_pos rfl], hH.kept⟩
  · skip
    refine sx_region (E := E) ?_
    refine so_fieldO (o' := 3) rfl rfl rfl Tryz.underlying36 rfl inf3 rfl rfl ?_
    refine so_load rfl rfl rfl (by first | exact ld_own Tryz.underlying3 rfl (by repeat (first | exact List.Mem.head _ | apply List.Mem.tail)) (by first | exact cellsOf_get rfl | rfl) | exact ld_data Tryz.underlying3 rfl (by first | assumption | exact InA.add (by assumption) | exact InA.add (InA.add (by assumption))) (by assumption)) ?_
    refine so_assign rfl rfl rfl ?_
    refine so_assign rfl rfl rfl ?_
    refine so_then ?_
    refine sx_seq ?_
    refine sx_seq ?_
    refine sx_region (E := E) ?_
    refine so_move rfl rfl rfl ?_
    refine so_lenL rfl rfl rfl rfl rfl rfl Tryz.underlying22 ?_
    refine so_move rfl rfl rfl ?_
    refine so_then ?_
    refine sx_block ?_
    refine sx_loop (σ := Nat × Int × Bool) (fun z => l.length - z.1) (fun z => [(1, .slice ax l.length cx), (2, .pointer (some ⟨2 * N2 + 1, 0, none⟩)), (6, .int .i64 z.2.1), (7, .bool z.2.2), (13, .int .i64 ((l.length : Nat) : Int)), (14, .int .i64 ((z.1 : Nat) : Int))]) (fun _ => S) (fun _ => A) (fun _ => [(N2, .cells [.int .i64 li, .string lq, .int .i64 2, .int .i64 lv, .int .i64 lw, .int .i64 lh, px] (boxsz E 36) true)]) (fun z => z.1 ≤ l.length ∧ (z.2.1, z.2.2) = wantR lv (lat (wantP 2 lq.data.toList lv) (l.take z.1))) ((0, lv, false)) (⟨Nat.zero_le _, rfl⟩) (by repeat (first | exact .nil | refine .cons rfl ?_)) rfl rfl (by repeat (first | exact List.nil_sublist _ | apply List.Sublist.cons_cons | apply List.Sublist.cons)) ?_
    intro s hJ t1
    obtain ⟨k, w1, w2⟩ := s
    obtain ⟨hJ, hw⟩ := hJ
    dsimp only at hJ hw ⊢
    refine sx_seq ?_
    rcases Nat.lt_or_ge k l.length with hk | hk
    · skip
      obtain ⟨qx, us, d, eqx, ix, hc, lx, kx⟩ := rx.at' k hk
      cases eqx
      obtain ⟨u, n, p, rfl, rfl, hu, hn, hp⟩ := file3 kx
      refine sx_region (E := E) ?_
      refine so_bin rfl rfl rfl rfl (by first | exact bin_lss_t (by omega) | exact bin_lss_f (by omega)) ?_
      refine so_then ?_
      refine sx_seq ?_
      refine sx_true rfl ?_
      refine sx_skip ?_
      refine sk_then ?_
      refine sx_seq ?_
      refine sx_block ?_
      refine sx_seq ?_
      refine sx_region (E := E) ?_
      refine so_move rfl rfl rfl ?_
      refine so_assign rfl rfl rfl ?_
      refine so_then ?_
      refine sx_seq ?_
      refine sx_region (E := E) ?_
      refine so_move rfl rfl rfl ?_
      refine so_move rfl rfl rfl ?_
      first | refine so_indexO rfl rfl rfl rfl Tryz.underlying22 inf24 rfl (by omega) rfl ?_ | refine so_index rfl rfl rfl rfl Tryz.underlying22 inf24 rfl (by omega) ?_
      refine so_load rfl rfl rfl (by first | exact ld_ownA Tryz.underlying24 rfl inf24 rfl (by repeat (first | exact List.Mem.head _ | apply List.Mem.tail)) (by first | exact cellsOf_le rfl | exact Nat.le_of_ble_eq_true rfl | decide | omega) (by first | exact cellsOf_all | exact take_all rfl | exact cellsOf_part rfl | rfl) | exact ld_dataA Tryz.underlying24 rfl inf24 rfl (by first | assumption | exact InA.add (by assumption) | exact InA.add (InA.add (by assumption))) (by assumption)) ?_
      refine so_alloc (cs := (.string ⟨#[]⟩ :: .int .i64 0 :: .string ⟨#[]⟩ :: [])) rfl rfl (fun h => nomatch h) inf24 rfl rfl ?_
      intro N9
      refine so_storeA rfl (fun h => nomatch h) rfl rfl inf24 (by first | exact cellsOf_length _ _ | rfl) rfl (by repeat (first | exact .zero | apply Upd.succ)) (by first | exact cellsOf_set rfl | exact cellsOf_setr rfl | exact cellsOf_store rfl | exact store_all rfl | rfl) (by first | exact cellsOf_in rfl rfl | exact cellsOf_in rfl (cellsOf_length _ _) | exact cellsOf_le rfl | exact Nat.le_of_ble_eq_true rfl | omega) (fun h => nomatch h) ?_
      refine so_then ?_
      refine sx_seq ?_
      refine sx_seq ?_
      rcases eq3 u.data.toList lq.data.toList (n ≤ w1) with heq | ⟨heq, hh1⟩ | ⟨heq, hh1⟩
      · skip
        refine sx_region (E := E) ?_
        refine so_fieldO (o' := 0) rfl rfl rfl Tryz.underlying24 rfl inf9 rfl rfl ?_
        refine so_load rfl rfl rfl (by first | exact ld_own Tryz.underlying9 rfl (by repeat (first | exact List.Mem.head _ | apply List.Mem.tail)) (by first | exact cellsOf_get rfl | rfl) | exact ld_data Tryz.underlying9 rfl (by first | assumption | exact InA.add (by assumption) | exact InA.add (InA.add (by assumption))) (by assumption)) ?_
        refine so_fieldO (o' := 1) rfl rfl rfl Tryz.underlying36 rfl inf9 rfl rfl ?_
        refine so_load rfl rfl rfl (by first | exact ld_own Tryz.underlying9 rfl (by repeat (first | exact List.Mem.head _ | apply List.Mem.tail)) (by first | exact cellsOf_get rfl | rfl) | exact ld_data Tryz.underlying9 rfl (by first | assumption | exact InA.add (by assumption) | exact InA.add (InA.add (by assumption))) (by assumption)) ?_
        refine so_bin rfl rfl rfl rfl (by first | exact bin_sneq_f (by first | rfl | assumption | decide) | exact bin_sneq_t (by first | rfl | assumption | decide)) ?_
        refine so_move rfl rfl rfl ?_
        first | refine so_fieldO (o' := 1) rfl rfl rfl Tryz.underlying24 rfl inf3 rfl rfl ?_ | refine so_skip rfl rfl rfl ?_
        first | refine so_load rfl rfl rfl (by first | exact ld_own Tryz.underlying3 rfl (by repeat (first | exact List.Mem.head _ | apply List.Mem.tail)) (by first | exact cellsOf_get rfl | rfl) | exact ld_data Tryz.underlying3 rfl (by first | assumption | exact InA.add (by assumption) | exact InA.add (InA.add (by assumption))) (by assumption)) ?_ | refine so_skip rfl rfl rfl ?_
        first | refine so_move rfl rfl rfl ?_ | refine so_skip rfl rfl rfl ?_
        first | refine so_bin rfl rfl rfl rfl (by first | exact bin_leq_t (by omega) | exact bin_leq_f (by omega)) ?_ | refine so_skip rfl rfl rfl ?_
        first | refine so_pick_t rfl rfl rfl rfl ?_ | refine so_pick_f rfl rfl rfl rfl ?_
        refine so_then ?_
        refine sx_true rfl ?_
        refine sx_exit ?_
        refine sk_then_exit ?_
        refine sk_block_exit ?_
        refine sk_then ?_
        refine sx_region (E := E) ?_
        refine so_bin rfl rfl rfl rfl (by first | exact bin_incr (by omega) | exact bin_add (wrap64 (by omega) (by omega)) | exact bin_add rfl) ?_
        refine so_move rfl rfl rfl ?_
        refine so_nil ?_
        exact sk_round (k + 1, w1, w2) (show l.length - (k + 1) < l.length - k by omega) ⟨show k + 1 ≤ l.length by omega, by rw [lat_step hc, wantR_leave (.inl (by simp [wantP, nmOf, CT.str, heq])), ← hw]⟩ (by repeat (first | exact .nil | refine .cons rfl ?_)) rfl rfl (by repeat (first | exact List.nil_sublist _ | apply List.Sublist.cons_cons | apply List.Sublist.cons))
      · skip
        refine sx_region (E := E) ?_
        refine so_fieldO (o' := 0) rfl rfl rfl Tryz.underlying24 rfl inf9 rfl rfl ?_
        refine so_load rfl rfl rfl (by first | exact ld_own Tryz.underlying9 rfl (by repeat (first | exact List.Mem.head _ | apply List.Mem.tail)) (by first | exact cellsOf_get rfl | rfl) | exact ld_data Tryz.underlying9 rfl (by first | assumption | exact InA.add (by assumption) | exact InA.add (InA.add (by assumption))) (by assumption)) ?_
        refine so_fieldO (o' := 1) rfl rfl rfl Tryz.underlying36 rfl inf9 rfl rfl ?_
        refine so_load rfl rfl rfl (by first | exact ld_own Tryz.underlying9 rfl (by repeat (first | exact List.Mem.head _ | apply List.Mem.tail)) (by first | exact cellsOf_get rfl | rfl) | exact ld_data Tryz.underlying9 rfl (by first | assumption | exact InA.add (by assumption) | exact InA.add (InA.add (by assumption))) (by assumption)) ?_
        refine so_bin rfl rfl rfl rfl (by first | exact bin_sneq_f (by first | rfl | assumption | decide) | exact bin_sneq_t (by first | rfl | assumption | decide)) ?_
        refine so_move rfl rfl rfl ?_
        first | refine so_fieldO (o' := 1) rfl rfl rfl Tryz.underlying24 rfl inf3 rfl rfl ?_ | refine so_skip rfl rfl rfl ?_
        first | refine so_load rfl rfl rfl (by first | exact ld_own Tryz.underlying3 rfl (by repeat (first | exact List.Mem.head _ | apply List.Mem.tail)) (by first | exact cellsOf_get rfl | rfl) | exact ld_data Tryz.underlying3 rfl (by first | assumption | exact InA.add (by assumption) | exact InA.add (InA.add (by assumption))) (by assumption)) ?_ | refine so_skip rfl rfl rfl ?_
        first | refine so_move rfl rfl rfl ?_ | refine so_skip rfl rfl rfl ?_
        first | refine so_bin rfl rfl rfl rfl (by first | exact bin_leq_t (by omega) | exact bin_leq_f (by omega)) ?_ | refine so_skip rfl rfl rfl ?_
        first | refine so_pick_t rfl rfl rfl rfl ?_ | refine so_pick_f rfl rfl rfl rfl ?_
        refine so_then ?_
        refine sx_true rfl ?_
        refine sx_exit ?_
        refine sk_then_exit ?_
        refine sk_block_exit ?_
        refine sk_then ?_
        refine sx_region (E := E) ?_
        refine so_bin rfl rfl rfl rfl (by first | exact bin_incr (by omega) | exact bin_add (wrap64 (by omega) (by omega)) | exact bin_add rfl) ?_
        refine so_move rfl rfl rfl ?_
        refine so_nil ?_
        exact sk_round (k + 1, w1, w2) (show l.length - (k + 1) < l.length - k by omega) ⟨show k + 1 ≤ l.length by omega, by rw [lat_step hc, wantR_leave (.inr (by rw [← hw]; exact hh1)), ← hw]⟩ (by repeat (first | exact .nil | refine .cons rfl ?_)) rfl rfl (by repeat (first | exact List.nil_sublist _ | apply List.Sublist.cons_cons | apply List.Sublist.cons))
      · skip
        refine sx_region (E := E) ?_
        refine so_fieldO (o' := 0) rfl rfl rfl Tryz.underlying24 rfl inf9 rfl rfl ?_
        refine so_load rfl rfl rfl (by first | exact ld_own Tryz.underlying9 rfl (by repeat (first | exact List.Mem.head _ | apply List.Mem.tail)) (by first | exact cellsOf_get rfl | rfl) | exact ld_data Tryz.underlying9 rfl (by first | assumption | exact InA.add (by assumption) | exact InA.add (InA.add (by assumption))) (by assumption)) ?_
        refine so_fieldO (o' := 1) rfl rfl rfl Tryz.underlying36 rfl inf9 rfl rfl ?_
        refine so_load rfl rfl rfl (by first | exact ld_own Tryz.underlying9 rfl (by repeat (first | exact List.Mem.head _ | apply List.Mem.tail)) (by first | exact cellsOf_get rfl | rfl) | exact ld_data Tryz.underlying9 rfl (by first | assumption | exact InA.add (by assumption) | exact InA.add (InA.add (by assumption))) (by assumption)) ?_
        refine so_bin rfl rfl rfl rfl (by first | exact bin_sneq_f (by first | rfl | assumption | decide) | exact bin_sneq_t (by first | rfl | assumption | decide)) ?_
        refine so_move rfl rfl rfl ?_
        first | refine so_fieldO (o' := 1) rfl rfl rfl Tryz.underlying24 rfl inf3 rfl rfl ?_ | refine so_skip rfl rfl rfl ?_
        first | refine so_load rfl rfl rfl (by first | exact ld_own Tryz.underlying3 rfl (by repeat (first | exact List.Mem.head _ | apply List.Mem.tail)) (by first | exact cellsOf_get rfl | rfl) | exact ld_data Tryz.underlying3 rfl (by first | assumption | exact InA.add (by assumption) | exact InA.add (InA.add (by assumption))) (by assumption)) ?_ | refine so_skip rfl rfl rfl ?_
        first | refine so_move rfl rfl rfl ?_ | refine so_skip rfl rfl rfl ?_
        first | refine so_bin rfl rfl rfl rfl (by first | exact bin_leq_t (by omega) | exact bin_leq_f (by omega)) ?_ | refine so_skip rfl rfl rfl ?_
        first | refine so_pick_t rfl rfl rfl rfl ?_ | refine so_pick_f rfl rfl rfl rfl ?_
        refine so_then ?_
        refine sx_false rfl ?_
        refine sx_skip ?_
        refine sk_then ?_
        refine sx_seq ?_
        by_cases hh : n / 100 = lv / 100
        · skip
          refine sx_draw (E := E) mixed [10, 13] _ (List.Sublist.refl _) (by kernel_rfl) (by kernel_rfl) (by decide) ?_
          refine so_fieldO (o' := 2) rfl rfl rfl Tryz.underlying36 rfl inf3 rfl rfl ?_
          refine so_load rfl rfl rfl (by first | exact ld_own Tryz.underlying3 rfl (by repeat (first | exact List.Mem.head _ | apply List.Mem.tail)) (by first | exact cellsOf_get rfl | rfl) | exact ld_data Tryz.underlying3 rfl (by first | assumption | exact InA.add (by assumption) | exact InA.add (InA.add (by assumption))) (by assumption)) ?_
          refine so_bin rfl rfl rfl rfl (by first | exact bin_eql_t (by first | rfl | assumption | omega) | exact bin_eql_f (by first | rfl | assumption | omega)) ?_
          refine so_move rfl rfl rfl ?_
          first | refine so_fieldO (o' := 2) rfl rfl rfl Tryz.underlying36 rfl inf3 rfl rfl ?_ | refine so_skip rfl rfl rfl ?_
          first | refine so_load rfl rfl rfl (by first | exact ld_own Tryz.underlying3 rfl (by repeat (first | exact List.Mem.head _ | apply List.Mem.tail)) (by first | exact cellsOf_get rfl | rfl) | exact ld_data Tryz.underlying3 rfl (by first | assumption | exact InA.add (by assumption) | exact InA.add (InA.add (by assumption))) (by assumption)) ?_ | refine so_skip rfl rfl rfl ?_
          first | refine so_bin rfl rfl rfl rfl (by first | exact bin_eql_t (by first | rfl | assumption | omega) | exact bin_eql_f (by first | rfl | assumption | omega)) ?_ | refine so_skip rfl rfl rfl ?_
          first | refine so_move rfl rfl rfl ?_ | refine so_skip rfl rfl rfl ?_
          first | refine so_fieldO (o' := 1) rfl rfl rfl Tryz.underlying24 rfl inf3 rfl rfl ?_ | refine so_skip rfl rfl rfl ?_
          first | refine so_load rfl rfl rfl (by first | exact ld_own Tryz.underlying3 rfl (by repeat (first | exact List.Mem.head _ | apply List.Mem.tail)) (by first | exact cellsOf_get rfl | rfl) | exact ld_data Tryz.underlying3 rfl (by first | assumption | exact InA.add (by assumption) | exact InA.add (InA.add (by assumption))) (by assumption)) ?_ | refine so_skip rfl rfl rfl ?_
          first | refine so_call rfl rfl (fun _ => (by repeat (first | exact List.Mem.head _ | apply List.Mem.tail))) rfl has30 (by repeat (first | exact Opvs.nil | apply Opvs.cons rfl)) (fun H hH => hundred_ok hn) ?_ | refine so_skip rfl rfl rfl ?_
          first | refine so_fieldO (o' := 3) rfl rfl rfl Tryz.underlying36 rfl inf3 rfl rfl ?_ | refine so_skip rfl rfl rfl ?_
          first | refine so_load rfl rfl rfl (by first | exact ld_own Tryz.underlying3 rfl (by repeat (first | exact List.Mem.head _ | apply List.Mem.tail)) (by first | exact cellsOf_get rfl | rfl) | exact ld_data Tryz.underlying3 rfl (by first | assumption | exact InA.add (by assumption) | exact InA.add (InA.add (by assumption))) (by assumption)) ?_ | refine so_skip rfl rfl rfl ?_
          first | refine so_call rfl rfl (fun _ => (by repeat (first | exact List.Mem.head _ | apply List.Mem.tail))) rfl has30 (by repeat (first | exact Opvs.nil | apply Opvs.cons rfl)) (fun H hH => hundred_ok hlv) ?_ | refine so_skip rfl rfl rfl ?_
          first | refine so_bin rfl rfl rfl rfl (by first | exact bin_eql_t (by first | rfl | assumption | omega) | exact bin_eql_f (by first | rfl | assumption | omega)) ?_ | refine so_skip rfl rfl rfl ?_
          first | refine so_pick_t rfl rfl rfl rfl ?_ | refine so_pick_f rfl rfl rfl rfl ?_ | refine so_skip rfl rfl rfl ?_
          first | refine so_pick_t rfl rfl rfl rfl ?_ | refine so_pick_f rfl rfl rfl rfl ?_
          refine so_then ?_
          refine sx_true rfl ?_
          refine sx_region (E := E) ?_
          refine so_fieldO (o' := 1) rfl rfl rfl Tryz.underlying24 rfl inf3 rfl rfl ?_
          refine so_load rfl rfl rfl (by first | exact ld_own Tryz.underlying3 rfl (by repeat (first | exact List.Mem.head _ | apply List.Mem.tail)) (by first | exact cellsOf_get rfl | rfl) | exact ld_data Tryz.underlying3 rfl (by first | assumption | exact InA.add (by assumption) | exact InA.add (InA.add (by assumption))) (by assumption)) ?_
          refine so_assign rfl rfl rfl ?_
          refine so_assign rfl rfl rfl ?_
          refine so_nil ?_
          refine sk_block ?_
          refine sk_then ?_
          refine sx_region (E := E) ?_
          refine so_bin rfl rfl rfl rfl (by first | exact bin_incr (by omega) | exact bin_add (wrap64 (by omega) (by omega)) | exact bin_add rfl) ?_
          refine so_move rfl rfl rfl ?_
          refine so_nil ?_
          exact sk_round (k + 1, n, true) (show l.length - (k + 1) < l.length - k by omega) ⟨show k + 1 ≤ l.length by omega, by rw [lat_step hc, wantR_take (by simp [wantP, nmOf, rvOf, CT.str, heq, hh]) (by rw [← hw]; show w1 < n; omega)]; rfl⟩ (by repeat (first | exact .nil | refine .cons rfl ?_)) rfl rfl (by repeat (first | exact List.nil_sublist _ | apply List.Sublist.cons_cons | apply List.Sublist.cons))
        · skip
          refine sx_draw (E := E) mixed [10, 13] _ (List.Sublist.refl _) (by kernel_rfl) (by kernel_rfl) (by decide) ?_
          refine so_fieldO (o' := 2) rfl rfl rfl Tryz.underlying36 rfl inf3 rfl rfl ?_
          refine so_load rfl rfl rfl (by first | exact ld_own Tryz.underlying3 rfl (by repeat (first | exact List.Mem.head _ | apply List.Mem.tail)) (by first | exact cellsOf_get rfl | rfl) | exact ld_data Tryz.underlying3 rfl (by first | assumption | exact InA.add (by assumption) | exact InA.add (InA.add (by assumption))) (by assumption)) ?_
          refine so_bin rfl rfl rfl rfl (by first | exact bin_eql_t (by first | rfl | assumption | omega) | exact bin_eql_f (by first | rfl | assumption | omega)) ?_
          refine so_move rfl rfl rfl ?_
          first | refine so_fieldO (o' := 2) rfl rfl rfl Tryz.underlying36 rfl inf3 rfl rfl ?_ | refine so_skip rfl rfl rfl ?_
          first | refine so_load rfl rfl rfl (by first | exact ld_own Tryz.underlying3 rfl (by repeat (first | exact List.Mem.head _ | apply List.Mem.tail)) (by first | exact cellsOf_get rfl | rfl) | exact ld_data Tryz.underlying3 rfl (by first | assumption | exact InA.add (by assumption) | exact InA.add (InA.add (by assumption))) (by assumption)) ?_ | refine so_skip rfl rfl rfl ?_
          first | refine so_bin rfl rfl rfl rfl (by first | exact bin_eql_t (by first | rfl | assumption | omega) | exact bin_eql_f (by first | rfl | assumption | omega)) ?_ | refine so_skip rfl rfl rfl ?_
          first | refine so_move rfl rfl rfl ?_ | refine so_skip rfl rfl rfl ?_
          first | refine so_fieldO (o' := 1) rfl rfl rfl Tryz.underlying24 rfl inf3 rfl rfl ?_ | refine so_skip rfl rfl rfl ?_
          first | refine so_load rfl rfl rfl (by first | exact ld_own Tryz.underlying3 rfl (by repeat (first | exact List.Mem.head _ | apply List.Mem.tail)) (by first | exact cellsOf_get rfl | rfl) | exact ld_data Tryz.underlying3 rfl (by first | assumption | exact InA.add (by assumption) | exact InA.add (InA.add (by assumption))) (by assumption)) ?_ | refine so_skip rfl rfl rfl ?_
          first | refine so_call rfl rfl (fun _ => (by repeat (first | exact List.Mem.head _ | apply List.Mem.tail))) rfl has30 (by repeat (first | exact Opvs.nil | apply Opvs.cons rfl)) (fun H hH => hundred_ok hn) ?_ | refine so_skip rfl rfl rfl ?_
          first | refine so_fieldO (o' := 3) rfl rfl rfl Tryz.underlying36 rfl inf3 rfl rfl ?_ | refine so_skip rfl rfl rfl ?_
          first | refine so_load rfl rfl rfl (by first | exact ld_own Tryz.underlying3 rfl (by repeat (first | exact List.Mem.head _ | apply List.Mem.tail)) (by first | exact cellsOf_get rfl | rfl) | exact ld_data Tryz.underlying3 rfl (by first | assumption | exact InA.add (by assumption) | exact InA.add (InA.add (by assumption))) (by assumption)) ?_ | refine so_skip rfl rfl rfl ?_
          first | refine so_call rfl rfl (fun _ => (by repeat (first | exact List.Mem.head _ | apply List.Mem.tail))) rfl has30 (by repeat (first | exact Opvs.nil | apply Opvs.cons rfl)) (fun H hH => hundred_ok hlv) ?_ | refine so_skip rfl rfl rfl ?_
          first | refine so_bin rfl rfl rfl rfl (by first | exact bin_eql_t (by first | rfl | assumption | omega) | exact bin_eql_f (by first | rfl | assumption | omega)) ?_ | refine so_skip rfl rfl rfl ?_
          first | refine so_pick_t rfl rfl rfl rfl ?_ | refine so_pick_f rfl rfl rfl rfl ?_ | refine so_skip rfl rfl rfl ?_
          first | refine so_pick_t rfl rfl rfl rfl ?_ | refine so_pick_f rfl rfl rfl rfl ?_
          refine so_then ?_
          refine sx_false rfl ?_
          refine sx_skip ?_
          refine sk_block ?_
          refine sk_then ?_
          refine sx_region (E := E) ?_
          refine so_bin rfl rfl rfl rfl (by first | exact bin_incr (by omega) | exact bin_add (wrap64 (by omega) (by omega)) | exact bin_add rfl) ?_
          refine so_move rfl rfl rfl ?_
          refine so_nil ?_
          exact sk_round (k + 1, w1, w2) (show l.length - (k + 1) < l.length - k by omega) ⟨show k + 1 ≤ l.length by omega, by rw [lat_step hc, wantR_leave (.inl (by simp [wantP, nmOf, rvOf, CT.str, hh])), ← hw]⟩ (by repeat (first | exact .nil | refine .cons rfl ?_)) rfl rfl (by repeat (first | exact List.nil_sublist _ | apply List.Sublist.cons_cons | apply List.Sublist.cons))
    · skip
      rw [List.take_of_length_le (by omega)] at hw
      refine sx_region (E := E) ?_
      refine so_bin rfl rfl rfl rfl (by first | exact bin_lss_t (by omega) | exact bin_lss_f (by omega)) ?_
      refine so_then ?_
      refine sx_seq ?_
      refine sx_false rfl ?_
      refine sx_exit ?_
      refine sk_then_exit ?_
      refine sk_loop_exit ?_
      refine sk_block_exit ?_
      refine sk_then ?_
      refine sx_seq ?_
      refine sx_seq ?_
      cases w2
      · skip
        refine sx_region (E := E) ?_
        refine so_move rfl rfl rfl ?_
        refine so_not rfl rfl rfl rfl ?_
        refine so_then ?_
        refine sx_true rfl ?_
        refine sx_seq ?_
        refine sx_region (E := E) ?_
        refine so_assign rfl rfl rfl ?_
        refine so_assign rfl rfl rfl ?_
        refine so_then ?_
        refine sx_ret ?_
        refine sk_then_ret ?_
        refine sk_return2 (.tmp rfl (.tmp rfl .nil)) ?_
        exact fun H hH => ⟨by rw [want, wantS_of_R, ← hw, if_neg (by simp)], hH.kept⟩
      · skip
        refine sx_region (E := E) ?_
        refine so_move rfl rfl rfl ?_
        refine so_not rfl rfl rfl rfl ?_
        refine so_then ?_
        refine sx_false rfl ?_
        refine sx_skip ?_
        refine sk_then ?_
        refine sx_seq ?_
        refine sx_region (E := E) ?_
        refine so_move rfl rfl rfl ?_
        refine so_assign rfl rfl rfl ?_
        refine so_assign rfl rfl rfl ?_
        refine so_then ?_
        refine sx_ret ?_
        refine sk_return2 (.tmp rfl (.tmp rfl .nil)) ?_
        exact fun H hH => ⟨by rw [want, wantS_of_R, ← hw, if_pos rfl], hH.kept⟩
  · skip
    refine sx_region (E := E) ?_
    refine so_fieldO (o' := 3) rfl rfl rfl Tryz.underlying36 rfl inf3 rfl rfl ?_
    refine so_load rfl rfl rfl (by first | exact ld_own Tryz.underlying3 rfl (by repeat (first | exact List.Mem.head _ | apply List.Mem.tail)) (by first | exact cellsOf_get rfl | rfl) | exact ld_data Tryz.underlying3 rfl (by first | assumption | exact InA.add (by assumption) | exact InA.add (InA.add (by assumption))) (by assumption)) ?_
    refine so_assign rfl rfl rfl ?_
    refine so_assign rfl rfl rfl ?_
    refine so_then ?_
    refine sx_seq ?_
    refine sx_seq ?_
    refine sx_region (E := E) ?_
    refine so_move rfl rfl rfl ?_
    refine so_lenL rfl rfl rfl rfl rfl rfl Tryz.underlying22 ?_
    refine so_move rfl rfl rfl ?_
    refine so_then ?_
    refine sx_block ?_
    refine sx_loop (σ := Nat × Int × Bool) (fun z => l.length - z.1) (fun z => [(1, .slice ax l.length cx), (2, .pointer (some ⟨2 * N2 + 1, 0, none⟩)), (6, .int .i64 z.2.1), (7, .bool z.2.2), (13, .int .i64 ((l.length : Nat) : Int)), (14, .int .i64 ((z.1 : Nat) : Int))]) (fun _ => S) (fun _ => A) (fun _ => [(N2, .cells [.int .i64 li, .string lq, .int .i64 lr, .int .i64 lv, .int .i64 lw, .int .i64 lh, px] (boxsz E 36) true)]) (fun z => z.1 ≤ l.length ∧ (z.2.1, z.2.2) = wantR lv (lat (wantP lr lq.data.toList lv) (l.take z.1))) ((0, lv, false)) (⟨Nat.zero_le _, rfl⟩) (by repeat (first | exact .nil | refine .cons rfl ?_)) rfl rfl (by repeat (first | exact List.nil_sublist _ | apply List.Sublist.cons_cons | apply List.Sublist.cons)) ?_
    intro s hJ t1
    obtain ⟨k, w1, w2⟩ := s
    obtain ⟨hJ, hw⟩ := hJ
    dsimp only at hJ hw ⊢
    refine sx_seq ?_
    rcases Nat.lt_or_ge k l.length with hk | hk
    · skip
      obtain ⟨qx, us, d, eqx, ix, hc, lx, kx⟩ := rx.at' k hk
      cases eqx
      obtain ⟨u, n, p, rfl, rfl, hu, hn, hp⟩ := file3 kx
      refine sx_region (E := E) ?_
      refine so_bin rfl rfl rfl rfl (by first | exact bin_lss_t (by omega) | exact bin_lss_f (by omega)) ?_
      refine so_then ?_
      refine sx_seq ?_
      refine sx_true rfl ?_
      refine sx_skip ?_
      refine sk_then ?_
      refine sx_seq ?_
      refine sx_block ?_
      refine sx_seq ?_
      refine sx_region (E := E) ?_
      refine so_move rfl rfl rfl ?_
      refine so_assign rfl rfl rfl ?_
      refine so_then ?_
      refine sx_seq ?_
      refine sx_region (E := E) ?_
      refine so_move rfl rfl rfl ?_
      refine so_move rfl rfl rfl ?_
      first | refine so_indexO rfl rfl rfl rfl Tryz.underlying22 inf24 rfl (by omega) rfl ?_ | refine so_index rfl rfl rfl rfl Tryz.underlying22 inf24 rfl (by omega) ?_
      refine so_load rfl rfl rfl (by first | exact ld_ownA Tryz.underlying24 rfl inf24 rfl (by repeat (first | exact List.Mem.head _ | apply List.Mem.tail)) (by first | exact cellsOf_le rfl | exact Nat.le_of_ble_eq_true rfl | decide | omega) (by first | exact cellsOf_all | exact take_all rfl | exact cellsOf_part rfl | rfl) | exact ld_dataA Tryz.underlying24 rfl inf24 rfl (by first | assumption | exact InA.add (by assumption) | exact InA.add (InA.add (by assumption))) (by assumption)) ?_
      refine so_alloc (cs := (.string ⟨#[]⟩ :: .int .i64 0 :: .string ⟨#[]⟩ :: [])) rfl rfl (fun h => nomatch h) inf24 rfl rfl ?_
      intro N9
      refine so_storeA rfl (fun h => nomatch h) rfl rfl inf24 (by first | exact cellsOf_length _ _ | rfl) rfl (by repeat (first | exact .zero | apply Upd.succ)) (by first | exact cellsOf_set rfl | exact cellsOf_setr rfl | exact cellsOf_store rfl | exact store_all rfl | rfl) (by first | exact cellsOf_in rfl rfl | exact cellsOf_in rfl (cellsOf_length _ _) | exact cellsOf_le rfl | exact Nat.le_of_ble_eq_true rfl | omega) (fun h => nomatch h) ?_
      refine so_then ?_
      refine sx_seq ?_
      refine sx_seq ?_
      rcases eq3 u.data.toList lq.data.toList (n ≤ w1) with heq | ⟨heq, hh1⟩ | ⟨heq, hh1⟩
      · skip
        refine sx_region (E := E) ?_
        refine so_fieldO (o' := 0) rfl rfl rfl Tryz.underlying24 rfl inf9 rfl rfl ?_
        refine so_load rfl rfl rfl (by first | exact ld_own Tryz.underlying9 rfl (by repeat (first | exact List.Mem.head _ | apply List.Mem.tail)) (by first | exact cellsOf_get rfl | rfl) | exact ld_data Tryz.underlying9 rfl (by first | assumption | exact InA.add (by assumption) | exact InA.add (InA.add (by assumption))) (by assumption)) ?_
        refine so_fieldO (o' := 1) rfl rfl rfl Tryz.underlying36 rfl inf9 rfl rfl ?_
        refine so_load rfl rfl rfl (by first | exact ld_own Tryz.underlying9 rfl (by repeat (first | exact List.Mem.head _ | apply List.Mem.tail)) (by first | exact cellsOf_get rfl | rfl) | exact ld_data Tryz.underlying9 rfl (by first | assumption | exact InA.add (by assumption) | exact InA.add (InA.add (by assumption))) (by assumption)) ?_
        refine so_bin rfl rfl rfl rfl (by first | exact bin_sneq_f (by first | rfl | assumption | decide) | exact bin_sneq_t (by first | rfl | assumption | decide)) ?_
        refine so_move rfl rfl rfl ?_
        first | refine so_fieldO (o' := 1) rfl rfl rfl Tryz.underlying24 rfl inf3 rfl rfl ?_ | refine so_skip rfl rfl rfl ?_
        first | refine so_load rfl rfl rfl (by first | exact ld_own Tryz.underlying3 rfl (by repeat (first | exact List.Mem.head _ | apply List.Mem.tail)) (by first | exact cellsOf_get rfl | rfl) | exact ld_data Tryz.underlying3 rfl (by first | assumption | exact InA.add (by assumption) | exact InA.add (InA.add (by assumption))) (by assumption)) ?_ | refine so_skip rfl rfl rfl ?_
        first | refine so_move rfl rfl rfl ?_ | refine so_skip rfl rfl rfl ?_
        first | refine so_bin rfl rfl rfl rfl (by first | exact bin_leq_t (by omega) | exact bin_leq_f (by omega)) ?_ | refine so_skip rfl rfl rfl ?_
        first | refine so_pick_t rfl rfl rfl rfl ?_ | refine so_pick_f rfl rfl rfl rfl ?_
        refine so_then ?_
        refine sx_true rfl ?_
        refine sx_exit ?_
        refine sk_then_exit ?_
        refine sk_block_exit ?_
        refine sk_then ?_
        refine sx_region (E := E) ?_
        refine so_bin rfl rfl rfl rfl (by first | exact bin_incr (by omega) | exact bin_add (wrap64 (by omega) (by omega)) | exact bin_add rfl) ?_
        refine so_move rfl rfl rfl ?_
        refine so_nil ?_
        exact sk_round (k + 1, w1, w2) (show l.length - (k + 1) < l.length - k by omega) ⟨show k + 1 ≤ l.length by omega, by rw [lat_step hc, wantR_leave (.inl (by simp [wantP, nmOf, CT.str, heq])), ← hw]⟩ (by repeat (first | exact .nil | refine .cons rfl ?_)) rfl rfl (by repeat (first | exact List.nil_sublist _ | apply List.Sublist.cons_cons | apply List.Sublist.cons))
      · skip
        refine sx_region (E := E) ?_
        refine so_fieldO (o' := 0) rfl rfl rfl Tryz.underlying24 rfl inf9 rfl rfl ?_
        refine so_load rfl rfl rfl (by first | exact ld_own Tryz.underlying9 rfl (by repeat (first | exact List.Mem.head _ | apply List.Mem.tail)) (by first | exact cellsOf_get rfl | rfl) | exact ld_data Tryz.underlying9 rfl (by first | assumption | exact InA.add (by assumption) | exact InA.add (InA.add (by assumption))) (by assumption)) ?_
        refine so_fieldO (o' := 1) rfl rfl rfl Tryz.underlying36 rfl inf9 rfl rfl ?_
        refine so_load rfl rfl rfl (by first | exact ld_own Tryz.underlying9 rfl (by repeat (first | exact List.Mem.head _ | apply List.Mem.tail)) (by first | exact cellsOf_get rfl | rfl) | exact ld_data Tryz.underlying9 rfl (by first | assumption | exact InA.add (by assumption) | exact InA.add (InA.add (by assumption))) (by assumption)) ?_
        refine so_bin rfl rfl rfl rfl (by first | exact bin_sneq_f (by first | rfl | assumption | decide) | exact bin_sneq_t (by first | rfl | assumption | decide)) ?_
        refine so_move rfl rfl rfl ?_
        first | refine so_fieldO (o' := 1) rfl rfl rfl Tryz.underlying24 rfl inf3 rfl rfl ?_ | refine so_skip rfl rfl rfl ?_
        first | refine so_load rfl rfl rfl (by first | exact ld_own Tryz.underlying3 rfl (by repeat (first | exact List.Mem.head _ | apply List.Mem.tail)) (by first | exact cellsOf_get rfl | rfl) | exact ld_data Tryz.underlying3 rfl (by first | assumption | exact InA.add (by assumption) | exact InA.add (InA.add (by assumption))) (by assumption)) ?_ | refine so_skip rfl rfl rfl ?_
        first | refine so_move rfl rfl rfl ?_ | refine so_skip rfl rfl rfl ?_
        first | refine so_bin rfl rfl rfl rfl (by first | exact bin_leq_t (by omega) | exact bin_leq_f (by omega)) ?_ | refine so_skip rfl rfl rfl ?_
        first | refine so_pick_t rfl rfl rfl rfl ?_ | refine so_pick_f rfl rfl rfl rfl ?_
        refine so_then ?_
        refine sx_true rfl ?_
        refine sx_exit ?_
        refine sk_then_exit ?_
        refine sk_block_exit ?_
        refine sk_then ?_
        refine sx_region (E := E) ?_
        refine so_bin rfl rfl rfl rfl (by first | exact bin_incr (by omega) | exact bin_add (wrap64 (by omega) (by omega)) | exact bin_add rfl) ?_
        refine so_move rfl rfl rfl ?_
        refine so_nil ?_
        exact sk_round (k + 1, w1, w2) (show l.length - (k + 1) < l.length - k by omega) ⟨show k + 1 ≤ l.length by omega, by rw [lat_step hc, wantR_leave (.inr (by rw [← hw]; exact hh1)), ← hw]⟩ (by repeat (first | exact .nil | refine .cons rfl ?_)) rfl rfl (by repeat (first | exact List.nil_sublist _ | apply List.Sublist.cons_cons | apply List.Sublist.cons))
      · skip
        refine sx_region (E := E) ?_
        refine so_fieldO (o' := 0) rfl rfl rfl Tryz.underlying24 rfl inf9 rfl rfl ?_
        refine so_load rfl rfl rfl (by first | exact ld_own Tryz.underlying9 rfl (by repeat (first | exact List.Mem.head _ | apply List.Mem.tail)) (by first | exact cellsOf_get rfl | rfl) | exact ld_data Tryz.underlying9 rfl (by first | assumption | exact InA.add (by assumption) | exact InA.add (InA.add (by assumption))) (by assumption)) ?_
        refine so_fieldO (o' := 1) rfl rfl rfl Tryz.underlying36 rfl inf9 rfl rfl ?_
        refine so_load rfl rfl rfl (by first | exact ld_own Tryz.underlying9 rfl (by repeat (first | exact List.Mem.head _ | apply List.Mem.tail)) (by first | exact cellsOf_get rfl | rfl) | exact ld_data Tryz.underlying9 rfl (by first | assumption | exact InA.add (by assumption) | exact InA.add (InA.add (by assumption))) (by assumption)) ?_
        refine so_bin rfl rfl rfl rfl (by first | exact bin_sneq_f (by first | rfl | assumption | decide) | exact bin_sneq_t (by first | rfl | assumption | decide)) ?_
        refine so_move rfl rfl rfl ?_
        first | refine so_fieldO (o' := 1) rfl rfl rfl Tryz.underlying24 rfl inf3 rfl rfl ?_ | refine so_skip rfl rfl rfl ?_
        first | refine so_load rfl rfl rfl (by first | exact ld_own Tryz.underlying3 rfl (by repeat (first | exact List.Mem.head _ | apply List.Mem.tail)) (by first | exact cellsOf_get rfl | rfl) | exact ld_data Tryz.underlying3 rfl (by first | assumption | exact InA.add (by assumption) | exact InA.add (InA.add (by assumption))) (by assumption)) ?_ | refine so_skip rfl rfl rfl ?_
        first | refine so_move rfl rfl rfl ?_ | refine so_skip rfl rfl rfl ?_
        first | refine so_bin rfl rfl rfl rfl (by first | exact bin_leq_t (by omega) | exact bin_leq_f (by omega)) ?_ | refine so_skip rfl rfl rfl ?_
        first | refine so_pick_t rfl rfl rfl rfl ?_ | refine so_pick_f rfl rfl rfl rfl ?_
        refine so_then ?_
        refine sx_false rfl ?_
        refine sx_skip ?_
        refine sk_then ?_
        refine sx_seq ?_
        skip
        · skip
          refine sx_draw (E := E) mixed [10, 13] _ (List.Sublist.refl _) (by kernel_rfl) (by kernel_rfl) (by decide) ?_
          refine so_fieldO (o' := 2) rfl rfl rfl Tryz.underlying36 rfl inf3 rfl rfl ?_
          refine so_load rfl rfl rfl (by first | exact ld_own Tryz.underlying3 rfl (by repeat (first | exact List.Mem.head _ | apply List.Mem.tail)) (by first | exact cellsOf_get rfl | rfl) | exact ld_data Tryz.underlying3 rfl (by first | assumption | exact InA.add (by assumption) | exact InA.add (InA.add (by assumption))) (by assumption)) ?_
          refine so_bin rfl rfl rfl rfl (by first | exact bin_eql_t (by first | rfl | assumption | omega) | exact bin_eql_f (by first | rfl | assumption | omega)) ?_
          refine so_move rfl rfl rfl ?_
          first | refine so_fieldO (o' := 2) rfl rfl rfl Tryz.underlying36 rfl inf3 rfl rfl ?_ | refine so_skip rfl rfl rfl ?_
          first | refine so_load rfl rfl rfl (by first | exact ld_own Tryz.underlying3 rfl (by repeat (first | exact List.Mem.head _ | apply List.Mem.tail)) (by first | exact cellsOf_get rfl | rfl) | exact ld_data Tryz.underlying3 rfl (by first | assumption | exact InA.add (by assumption) | exact InA.add (InA.add (by assumption))) (by assumption)) ?_ | refine so_skip rfl rfl rfl ?_
          first | refine so_bin rfl rfl rfl rfl (by first | exact bin_eql_t (by first | rfl | assumption | omega) | exact bin_eql_f (by first | rfl | assumption | omega)) ?_ | refine so_skip rfl rfl rfl ?_
          first | refine so_move rfl rfl rfl ?_ | refine so_skip rfl rfl rfl ?_
          first | refine so_fieldO (o' := 1) rfl rfl rfl Tryz.underlying24 rfl inf3 rfl rfl ?_ | refine so_skip rfl rfl rfl ?_
          first | refine so_load rfl rfl rfl (by first | exact ld_own Tryz.underlying3 rfl (by repeat (first | exact List.Mem.head _ | apply List.Mem.tail)) (by first | exact cellsOf_get rfl | rfl) | exact ld_data Tryz.underlying3 rfl (by first | assumption | exact InA.add (by assumption) | exact InA.add (InA.add (by assumption))) (by assumption)) ?_ | refine so_skip rfl rfl rfl ?_
          first | refine so_call rfl rfl (fun _ => (by repeat (first | exact List.Mem.head _ | apply List.Mem.tail))) rfl has30 (by repeat (first | exact Opvs.nil | apply Opvs.cons rfl)) (fun H hH => hundred_ok hn) ?_ | refine so_skip rfl rfl rfl ?_
          first | refine so_fieldO (o' := 3) rfl rfl rfl Tryz.underlying36 rfl inf3 rfl rfl ?_ | refine so_skip rfl rfl rfl ?_
          first | refine so_load rfl rfl rfl (by first | exact ld_own Tryz.underlying3 rfl (by repeat (first | exact List.Mem.head _ | apply List.Mem.tail)) (by first | exact cellsOf_get rfl | rfl) | exact ld_data Tryz.underlying3 rfl (by first | assumption | exact InA.add (by assumption) | exact InA.add (InA.add (by assumption))) (by assumption)) ?_ | refine so_skip rfl rfl rfl ?_
          first | refine so_call rfl rfl (fun _ => (by repeat (first | exact List.Mem.head _ | apply List.Mem.tail))) rfl has30 (by repeat (first | exact Opvs.nil | apply Opvs.cons rfl)) (fun H hH => hundred_ok hlv) ?_ | refine so_skip rfl rfl rfl ?_
          first | refine so_bin rfl rfl rfl rfl (by first | exact bin_eql_t (by first | rfl | assumption | omega) | exact bin_eql_f (by first | rfl | assumption | omega)) ?_ | refine so_skip rfl rfl rfl ?_
          first | refine so_pick_t rfl rfl rfl rfl ?_ | refine so_pick_f rfl rfl rfl rfl ?_ | refine so_skip rfl rfl rfl ?_
          first | refine so_pick_t rfl rfl rfl rfl ?_ | refine so_pick_f rfl rfl rfl rfl ?_
          refine so_then ?_
          refine sx_false rfl ?_
          refine sx_skip ?_
          refine sk_block ?_
          refine sk_then ?_
          refine sx_region (E := E) ?_
          refine so_bin rfl rfl rfl rfl (by first | exact bin_incr (by omega) | exact bin_add (wrap64 (by omega) (by omega)) | exact bin_add rfl) ?_
          refine so_move rfl rfl rfl ?_
          refine so_nil ?_
          exact sk_round (k + 1, w1, w2) (show l.length - (k + 1) < l.length - k by omega) ⟨show k + 1 ≤ l.length by omega, by rw [lat_step hc, wantR_leave (.inl (by simp [wantP, hr1, hr2])), ← hw]⟩ (by repeat (first | exact .nil | refine .cons rfl ?_)) rfl rfl (by repeat (first | exact List.nil_sublist _ | apply List.Sublist.cons_cons | apply List.Sublist.cons))
    · skip
      rw [List.take_of_length_le (by omega)] at hw
      refine sx_region (E := E) ?_
      refine so_bin rfl rfl rfl rfl (by first | exact bin_lss_t (by omega) | exact bin_lss_f (by omega)) ?_
      refine so_then ?_
      refine sx_seq ?_
      refine sx_false rfl ?_
      refine sx_exit ?_
      refine sk_then_exit ?_
      refine sk_loop_exit ?_
      refine sk_block_exit ?_
      refine sk_then ?_
      refine sx_seq ?_
      refine sx_seq ?_
      cases w2
      · skip
        refine sx_region (E := E) ?_
        refine so_move rfl rfl rfl ?_
        refine so_not rfl rfl rfl rfl ?_
        refine so_then ?_
        refine sx_true rfl ?_
        refine sx_seq ?_
        refine sx_region (E := E) ?_
        refine so_assign rfl rfl rfl ?_
        refine so_assign rfl rfl rfl ?_
        refine so_then ?_
        refine sx_ret ?_
        refine sk_then_ret ?_
        refine sk_return2 (.tmp rfl (.tmp rfl .nil)) ?_
        exact fun H hH => ⟨by rw [want, wantS_of_R, ← hw, if_neg (by simp)], hH.kept⟩
      · skip
        refine sx_region (E := E) ?_
        refine so_move rfl rfl rfl ?_
        refine so_not rfl rfl rfl rfl ?_
        refine so_then ?_
        refine sx_false rfl ?_
        refine sx_skip ?_
        refine sk_then ?_
        refine sx_seq ?_
        refine sx_region (E := E) ?_
        refine so_move rfl rfl rfl ?_
        refine so_assign rfl rfl rfl ?_
        refine so_assign rfl rfl rfl ?_
        refine so_then ?_
        refine sx_ret ?_
        refine sk_return2 (.tmp rfl (.tmp rfl .nil)) ?_
        exact fun H hH => ⟨by rw [want, wantS_of_R, ← hw, if_pos rfl], hH.kept⟩

end Go.Proofs.YthnplnlhibalcaaGreatDoor
