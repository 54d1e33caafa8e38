/-
  Walks, laid by program.
-/
import Derived.Test.YthnplnlhibalcaaGreatDoorB4
import Derived.Test.YthnplnlhibalcaaGreatDoorD1
set_option linter.unusedVariables false
set_option linter.unusedSimpArgs false
set_option maxRecDepth 100000
namespace Go.Proofs.YthnplnlhibalcaaGreatDoor
open Go Go.AM

theorem want_two (rule : Int) (q : Txt) (r : Int) (l : List (List CT)) : want rule q r l = (0, false) ∨ ∃ m, want rule q r l = (m, true) := by
  rcases h : want rule q r l with ⟨m, b⟩
  cases b with
  | true => exact .inr ⟨m, rfl⟩
  | false =>
    have := want_no (rule := rule) (q := q) (r := r) (l := l) (by rw [h])
    rw [h] at this
    exact .inl (by rw [show m = 0 from this])
/-- one of the first files is of this name and revision -/
def hasB (l : List (List CT)) (q : Txt) (r : Int) : Bool := l.any fun c => decide (nmOf c = q) && decide (rvOf c = r)
theorem hasB_step {l : List (List CT)} {k : Nat} {c : List CT} (q : Txt) (r : Int) (h : l[k]? = some c) : hasB (l.take (k + 1)) q r = (hasB (l.take k) q r || (decide (nmOf c = q) && decide (rvOf c = r))) := by
  rw [take_snoc' h]; simp [hasB, List.any_append]
theorem hasB_yes {l : List (List CT)} {q : Txt} {r : Int} (h : ∃ c ∈ l, nmOf c = q ∧ rvOf c = r) : hasB l q r = true := by
  obtain ⟨c, h1, h2, h3⟩ := h
  rw [hasB, List.any_eq_true]; exact ⟨c, h1, by simp [h2, h3]⟩
set_option maxHeartbeats 1000000 in
theorem smartWants_ok {S : AH} {A : Nat → Prop} (hA : ∀ j, A j → j < S.nx) {x : Value} {l : List (List CT)} (hx : CellA A S (.row 40 k24) x (.row l)) {li lr lv lw lh : Int} {lq : ByteArray} {px : Value} (hlv : (Lit.int .i64 lv).wf = true) : XCall Tryz.prog 4 [.agg ⟨[.int .i64 li, .string lq, .int .i64 lr, .int .i64 lv, .int .i64 lw, .int .i64 lh, px]⟩, x] S fun v H' => v = .bool true ∧ Kept S.nx S H' := by
  obtain ⟨l2, ax, cx, e2, rfl, rx⟩ := hx.rowD
  cases e2
  have hb := rx.len
  have hfl := row_files rx
  have hfo := lat_files (p := nmP lq.data.toList) hfl
  have hlen := latV_len hfo
  have hone := latV_one hfo
  obtain ⟨cs0, hcs0⟩ := latV_cells (A := A) (H := S) hfo
  refine x_enter (E := E) (n := 60) (rs := [.tmp 4]) (l := [(1, _), (0, _)]) (fn_own Tryz.func4 rfl rfl rfl) hA rfl ?_
  refine sx_seq ?_
  refine sx_region (E := E) ?_
  refine so_boxA rfl rfl (fun h => nomatch h) rfl ?_
  intro N2
  refine so_assign rfl rfl rfl ?_
  refine so_then ?_
  refine sx_seq ?_
  refine sx_region (E := E) ?_
  refine so_move rfl rfl rfl ?_
  refine so_fieldO (o' := 1) rfl rfl rfl Tryz.underlying36 rfl inf9 rfl rfl ?_
  refine so_load rfl rfl rfl (by first | exact ld_own Tryz.underlying9 rfl (by repeat (first | exact List.Mem.head _ | apply List.Mem.tail)) (by first | exact cellsOf_get rfl | rfl) | exact ld_data Tryz.underlying9 rfl (by first | assumption | exact InA.add (by assumption) | exact InA.add (InA.add (by assumption))) (by assumption)) ?_
  refine so_call rfl rfl (fun h => nomatch h) rfl has13 (by repeat (first | exact Opvs.nil | apply Opvs.cons rfl)) (fun H hH => slatest_ok hH.lt (CellA.gr hH.gr _ _ _ hx) lq) ?_
  refine so_move rfl rfl rfl ?_
  refine so_extract rfl rfl rfl rfl ?_
  refine so_extract rfl rfl rfl rfl ?_
  refine so_alloc (cs := (.string ⟨#[]⟩ :: .int .i64 0 :: .string ⟨#[]⟩ :: [])) rfl rfl (fun h => nomatch h) inf24 rfl rfl ?_
  intro N5
  refine so_storeA rfl (fun h => nomatch h) rfl rfl inf24 hlen hone (by repeat (first | exact .zero | apply Upd.succ)) (store_all (cs := [.string ⟨#[]⟩, .int .i64 0, .string ⟨#[]⟩]) hlen) (by rw [hlen]; exact Nat.le_refl _) (fun h => nomatch h) ?_
  refine so_assign rfl rfl rfl ?_
  refine so_then ?_
  refine sx_seq ?_
  refine sx_region (E := E) ?_
  refine so_move rfl rfl rfl ?_
  refine so_fieldO (o' := 1) rfl rfl rfl Tryz.underlying36 rfl inf9 rfl rfl ?_
  refine so_load rfl rfl rfl (by first | exact ld_own Tryz.underlying9 rfl (by repeat (first | exact List.Mem.head _ | apply List.Mem.tail)) (by first | exact cellsOf_get rfl | rfl) | exact ld_data Tryz.underlying9 rfl (by first | assumption | exact InA.add (by assumption) | exact InA.add (InA.add (by assumption))) (by assumption)) ?_
  refine so_call rfl rfl (fun h => nomatch h) rfl has14 (by repeat (first | exact Opvs.nil | apply Opvs.cons rfl)) (fun H hH => rlatest_ok hH.lt (CellA.gr hH.gr _ _ _ hx) lq) ?_
  refine so_move rfl rfl rfl ?_
  refine so_extract rfl rfl rfl rfl ?_
  refine so_extract rfl rfl rfl rfl ?_
  refine so_alloc (cs := (.string ⟨#[]⟩ :: .int .i64 0 :: .string ⟨#[]⟩ :: [])) rfl rfl (fun h => nomatch h) inf24 rfl rfl ?_
  intro N7
  refine so_storeA rfl (fun h => nomatch h) rfl rfl inf24 hlen hone (by repeat (first | exact .zero | apply Upd.succ)) (store_all (cs := [.string ⟨#[]⟩, .int .i64 0, .string ⟨#[]⟩]) hlen) (by rw [hlen]; exact Nat.le_refl _) (fun h => nomatch h) ?_
  refine so_assign rfl rfl rfl ?_
  refine so_then ?_
  refine sx_seq ?_
  refine sx_region (E := E) ?_
  refine so_load rfl rfl rfl (by first | exact ld_ownA Tryz.underlying36 rfl inf36 rfl (by repeat (first | exact List.Mem.head _ | apply List.Mem.tail)) (by first | exact cellsOf_le rfl | exact Nat.le_of_ble_eq_true rfl | decide | omega) (by first | exact cellsOf_all | exact take_all rfl | exact cellsOf_part rfl | rfl) | exact ld_dataA Tryz.underlying36 rfl inf36 rfl (by first | assumption | exact InA.add (by assumption) | exact InA.add (InA.add (by assumption))) (by assumption)) ?_
  refine so_move rfl rfl rfl ?_
  refine so_call rfl rfl (fun h => nomatch h) rfl has15 (by repeat (first | exact Opvs.nil | apply Opvs.cons rfl)) (fun H hH => wants_ok hH.lt (CellA.gr hH.gr _ _ _ hx) hlv) ?_
  refine so_move rfl rfl rfl ?_
  refine so_extract rfl rfl rfl rfl ?_
  refine so_extract rfl rfl rfl rfl ?_
  refine so_assign rfl rfl rfl ?_
  refine so_assign rfl rfl rfl ?_
  refine so_then ?_
  refine sx_seq ?_
  refine sx_region (E := E) ?_
  refine so_load rfl rfl rfl (by first | exact ld_ownA Tryz.underlying36 rfl inf36 rfl (by repeat (first | exact List.Mem.head _ | apply List.Mem.tail)) (by first | exact cellsOf_le rfl | exact Nat.le_of_ble_eq_true rfl | decide | omega) (by first | exact cellsOf_all | exact take_all rfl | exact cellsOf_part rfl | rfl) | exact ld_dataA Tryz.underlying36 rfl inf36 rfl (by first | assumption | exact InA.add (by assumption) | exact InA.add (InA.add (by assumption))) (by assumption)) ?_
  refine so_move rfl rfl rfl ?_
  refine so_call rfl rfl (fun h => nomatch h) rfl has16 (by repeat (first | exact Opvs.nil | apply Opvs.cons rfl)) (fun H hH => rwants_ok hH.lt (CellA.gr hH.gr _ _ _ hx) hlv) ?_
  refine so_move rfl rfl rfl ?_
  refine so_extract rfl rfl rfl rfl ?_
  refine so_extract rfl rfl rfl rfl ?_
  refine so_assign rfl rfl rfl ?_
  refine so_assign rfl rfl rfl ?_
  refine so_then ?_
  refine sx_seq ?_
  refine sx_region (E := E) ?_
  refine so_load rfl rfl rfl (by first | exact ld_ownA Tryz.underlying24 rfl inf24 rfl (by repeat (first | exact List.Mem.head _ | apply List.Mem.tail)) (by rw [hlen]; exact Nat.le_refl _) (by rw [List.drop_zero, List.take_of_length_le (by rw [hlen]; exact Nat.le_refl _)]) | exact ld_ownA Tryz.underlying24 rfl inf24 rfl (by repeat (first | exact List.Mem.head _ | apply List.Mem.tail)) (by first | exact cellsOf_le rfl | exact Nat.le_of_ble_eq_true rfl | decide | omega) (by first | exact cellsOf_all | exact take_all rfl | exact cellsOf_part rfl | rfl) | exact ld_dataA Tryz.underlying24 rfl inf24 rfl (by first | assumption | exact InA.add (by assumption) | exact InA.add (InA.add (by assumption))) (by assumption)) ?_
  refine so_load rfl rfl rfl (by first | exact ld_ownA Tryz.underlying24 rfl inf24 rfl (by repeat (first | exact List.Mem.head _ | apply List.Mem.tail)) (by rw [hlen]; exact Nat.le_refl _) (by rw [List.drop_zero, List.take_of_length_le (by rw [hlen]; exact Nat.le_refl _)]) | exact ld_ownA Tryz.underlying24 rfl inf24 rfl (by repeat (first | exact List.Mem.head _ | apply List.Mem.tail)) (by first | exact cellsOf_le rfl | exact Nat.le_of_ble_eq_true rfl | decide | omega) (by first | exact cellsOf_all | exact take_all rfl | exact cellsOf_part rfl | rfl) | exact ld_dataA Tryz.underlying24 rfl inf24 rfl (by first | assumption | exact InA.add (by assumption) | exact InA.add (InA.add (by assumption))) (by assumption)) ?_
  refine so_bin rfl rfl rfl rfl (by first | exact (bin_aggsame Tryz.underlying24 rfl (by kernel_rfl) rfl hcs0 hcs0).1) ?_
  refine so_move rfl rfl rfl ?_
  first | refine so_move rfl rfl rfl ?_ | refine so_skip rfl rfl rfl ?_
  first | refine so_move rfl rfl rfl ?_ | refine so_skip rfl rfl rfl ?_
  first | refine so_bin rfl rfl rfl rfl (by first | exact bin_bool_same Tryz.underlying4) ?_ | refine so_skip rfl rfl rfl ?_
  first | refine so_pick_t rfl rfl rfl rfl ?_ | refine so_pick_f rfl rfl rfl rfl ?_
  refine so_move rfl rfl rfl ?_
  first | refine so_move rfl rfl rfl ?_ | refine so_skip rfl rfl rfl ?_
  first | refine so_move rfl rfl rfl ?_ | refine so_skip rfl rfl rfl ?_
  first | refine so_bin rfl rfl rfl rfl (by first | exact bin_eql_t (by first | rfl | assumption | omega) | exact bin_eql_f (by first | rfl | assumption | omega)) ?_ | refine so_skip rfl rfl rfl ?_
  first | refine so_pick_t rfl rfl rfl rfl ?_ | refine so_pick_f rfl rfl rfl rfl ?_
  refine so_move rfl rfl rfl ?_
  first | refine so_move rfl rfl rfl ?_ | refine so_skip rfl rfl rfl ?_
  first | refine so_move rfl rfl rfl ?_ | refine so_skip rfl rfl rfl ?_
  first | refine so_bin rfl rfl rfl rfl (by first | exact bin_bool_same Tryz.underlying4) ?_ | refine so_skip rfl rfl rfl ?_
  first | refine so_pick_t rfl rfl rfl rfl ?_ | refine so_pick_f rfl rfl rfl rfl ?_
  refine so_move rfl rfl rfl ?_
  first | refine so_call rfl rfl (fun h => nomatch h) rfl has12 (by repeat (first | exact Opvs.nil | apply Opvs.cons rfl)) (fun H hH => awake_ok H) ?_ | refine so_skip rfl rfl rfl ?_
  first | refine so_pick_t rfl rfl rfl rfl ?_ | refine so_pick_f rfl rfl rfl rfl ?_
  refine so_assign rfl rfl rfl ?_
  refine so_then ?_
  refine sx_ret ?_
  refine sk_return1 (.tmp rfl .nil) ?_
  exact fun H hH => ⟨rfl, hH.kept⟩

set_option maxHeartbeats 1000000 in
theorem smartRules_ok {S : AH} {A : Nat → Prop} (hA : ∀ j, A j → j < S.nx) {x : Value} {l : List (List CT)} (hx : CellA A S (.row 40 k24) x (.row l)) {li lr lv lw lh : Int} {lq : ByteArray} {px : Value} (hlv : (Lit.int .i64 lv).wf = true) : XCall Tryz.prog 6 [.agg ⟨[.int .i64 li, .string lq, .int .i64 lr, .int .i64 lv, .int .i64 lw, .int .i64 lh, px]⟩, x] S fun v H' => v = .bool true ∧ Kept S.nx S H' := by
  obtain ⟨l2, ax, cx, e2, rfl, rx⟩ := hx.rowD
  cases e2
  have hb := rx.len
  have hfl := row_files rx
  obtain ⟨hv1, hv2⟩ := wf64 hlv
  refine x_enter (E := E) (n := 99) (rs := [.tmp 4]) (l := [(1, _), (0, _)]) (fn_own Tryz.func6 rfl rfl rfl) hA rfl ?_
  refine sx_seq ?_
  refine sx_region (E := E) ?_
  refine so_boxA rfl rfl (fun h => nomatch h) rfl ?_
  intro N2
  refine so_assign rfl rfl rfl ?_
  refine so_then ?_
  refine sx_seq ?_
  refine sx_seq ?_
  by_cases hneg : lv < 0
  · skip
    refine sx_region (E := E) ?_
    refine so_fieldO (o' := 3) rfl rfl rfl Tryz.underlying36 rfl inf3 rfl rfl ?_
    refine so_load rfl rfl rfl (by first | exact ld_own Tryz.underlying3 rfl (by repeat (first | exact List.Mem.head _ | apply List.Mem.tail)) (by first | exact cellsOf_get rfl | rfl) | exact ld_data Tryz.underlying3 rfl (by first | assumption | exact InA.add (by assumption) | exact InA.add (InA.add (by assumption))) (by assumption)) ?_
    refine so_bin rfl rfl rfl rfl (by first | exact bin_lss_t (by omega) | exact bin_lss_f (by omega)) ?_
    refine so_then ?_
    refine sx_true rfl ?_
    refine sx_seq ?_
    refine sx_region (E := E) ?_
    refine so_call rfl rfl (fun h => nomatch h) rfl has12 (by repeat (first | exact Opvs.nil | apply Opvs.cons rfl)) (fun H hH => awake_ok H) ?_
    refine so_assign rfl rfl rfl ?_
    refine so_then ?_
    refine sx_ret ?_
    refine sk_then_ret ?_
    refine sk_return1 (.tmp rfl .nil) ?_
    exact fun H hH => ⟨rfl, hH.kept⟩
  · skip
    refine sx_region (E := E) ?_
    refine so_fieldO (o' := 3) rfl rfl rfl Tryz.underlying36 rfl inf3 rfl rfl ?_
    refine so_load rfl rfl rfl (by first | exact ld_own Tryz.underlying3 rfl (by repeat (first | exact List.Mem.head _ | apply List.Mem.tail)) (by first | exact cellsOf_get rfl | rfl) | exact ld_data Tryz.underlying3 rfl (by first | assumption | exact InA.add (by assumption) | exact InA.add (InA.add (by assumption))) (by assumption)) ?_
    refine so_bin rfl rfl rfl rfl (by first | exact bin_lss_t (by omega) | exact bin_lss_f (by omega)) ?_
    refine so_then ?_
    refine sx_false rfl ?_
    refine sx_skip ?_
    refine sk_then ?_
    refine sx_seq ?_
    rcases want_two lr lq.data.toList lv l with hw | ⟨m, hw⟩
    · skip
      refine sx_region (E := E) ?_
      refine so_load rfl rfl rfl (by first | exact ld_ownA Tryz.underlying36 rfl inf36 rfl (by repeat (first | exact List.Mem.head _ | apply List.Mem.tail)) (by first | exact cellsOf_le rfl | exact Nat.le_of_ble_eq_true rfl | decide | omega) (by first | exact cellsOf_all | exact take_all rfl | exact cellsOf_part rfl | rfl) | exact ld_dataA Tryz.underlying36 rfl inf36 rfl (by first | assumption | exact InA.add (by assumption) | exact InA.add (InA.add (by assumption))) (by assumption)) ?_
      refine so_move rfl rfl rfl ?_
      refine so_call rfl rfl (fun h => nomatch h) rfl has15 (by repeat (first | exact Opvs.nil | apply Opvs.cons rfl)) (fun H hH => (wants_ok hH.lt (CellA.gr hH.gr _ _ _ hx) hlv).e (by rw [hw])) ?_
      refine so_move rfl rfl rfl ?_
      refine so_extract rfl rfl rfl rfl ?_
      refine so_extract rfl rfl rfl rfl ?_
      refine so_assign rfl rfl rfl ?_
      refine so_assign rfl rfl rfl ?_
      refine so_then ?_
      refine sx_seq ?_
      refine sx_seq ?_
      refine sx_region (E := E) ?_
      refine so_move rfl rfl rfl ?_
      refine so_not rfl rfl rfl rfl ?_
      refine so_then ?_
      refine sx_true rfl ?_
      refine sx_seq ?_
      refine sx_region (E := E) ?_
      refine so_move rfl rfl rfl ?_
      refine so_bin rfl rfl rfl rfl (by first | exact bin_eql_t (by first | rfl | assumption | omega) | exact bin_eql_f (by first | rfl | assumption | omega)) ?_
      refine so_move rfl rfl rfl ?_
      first | refine so_call rfl rfl (fun h => nomatch h) rfl has12 (by repeat (first | exact Opvs.nil | apply Opvs.cons rfl)) (fun H hH => awake_ok H) ?_ | refine so_skip rfl rfl rfl ?_
      first | refine so_pick_t rfl rfl rfl rfl ?_ | refine so_pick_f rfl rfl rfl rfl ?_
      refine so_assign rfl rfl rfl ?_
      refine so_then ?_
      refine sx_ret ?_
      refine sk_then_ret ?_
      refine sk_return1 (.tmp rfl .nil) ?_
      exact fun H hH => ⟨rfl, hH.kept⟩
    · skip
      obtain ⟨⟨c0, hm0, hq0, hv0⟩, hgt, hru, hma, hag⟩ := want_yes hw
      have hmw : (Lit.int .i64 m).wf = true := by
        obtain ⟨u, n, p, rfl, _, h2, _⟩ := hfl c0 hm0
        rw [← hv0]; exact h2
      obtain ⟨hm1, hm2⟩ := wf64 hmw
      refine sx_region (E := E) ?_
      refine so_load rfl rfl rfl (by first | exact ld_ownA Tryz.underlying36 rfl inf36 rfl (by repeat (first | exact List.Mem.head _ | apply List.Mem.tail)) (by first | exact cellsOf_le rfl | exact Nat.le_of_ble_eq_true rfl | decide | omega) (by first | exact cellsOf_all | exact take_all rfl | exact cellsOf_part rfl | rfl) | exact ld_dataA Tryz.underlying36 rfl inf36 rfl (by first | assumption | exact InA.add (by assumption) | exact InA.add (InA.add (by assumption))) (by assumption)) ?_
      refine so_move rfl rfl rfl ?_
      refine so_call rfl rfl (fun h => nomatch h) rfl has15 (by repeat (first | exact Opvs.nil | apply Opvs.cons rfl)) (fun H hH => (wants_ok hH.lt (CellA.gr hH.gr _ _ _ hx) hlv).e (by rw [hw])) ?_
      refine so_move rfl rfl rfl ?_
      refine so_extract rfl rfl rfl rfl ?_
      refine so_extract rfl rfl rfl rfl ?_
      refine so_assign rfl rfl rfl ?_
      refine so_assign rfl rfl rfl ?_
      refine so_then ?_
      refine sx_seq ?_
      refine sx_seq ?_
      refine sx_region (E := E) ?_
      refine so_move rfl rfl rfl ?_
      refine so_not rfl rfl rfl rfl ?_
      refine so_then ?_
      refine sx_false rfl ?_
      refine sx_skip ?_
      refine sk_then ?_
      refine sx_seq ?_
      refine sx_region (E := E) ?_
      refine so_assign rfl rfl rfl ?_
      refine so_then ?_
      refine sx_seq ?_
      refine sx_seq ?_
      refine sx_region (E := E) ?_
      refine so_move rfl rfl rfl ?_
      refine so_lenL rfl rfl rfl rfl rfl rfl Tryz.underlying22 ?_
      refine so_move rfl rfl rfl ?_
      refine so_then ?_
      refine sx_block ?_
      refine sx_loop (σ := Nat × Bool) (fun z => l.length - z.1) (fun z => [(1, .slice ax l.length cx), (2, .pointer (some ⟨2 * N2 + 1, 0, none⟩)), (5, .int .i64 m), (7, .bool z.2), (29, .int .i64 ((l.length : Nat) : Int)), (30, .int .i64 ((z.1 : Nat) : Int))]) (fun _ => S) (fun _ => A) (fun _ => [(N2, .cells [.int .i64 li, .string lq, .int .i64 lr, .int .i64 lv, .int .i64 lw, .int .i64 lh, px] (boxsz E 36) true)]) (fun z => z.1 ≤ l.length ∧ z.2 = hasB (l.take z.1) lq.data.toList m) ((0, false)) (⟨Nat.zero_le _, rfl⟩) (by repeat (first | exact .nil | refine .cons rfl ?_)) rfl rfl (by repeat (first | exact List.nil_sublist _ | apply List.Sublist.cons_cons | apply List.Sublist.cons)) ?_
      intro s hJ t1
      obtain ⟨k, b⟩ := s
      obtain ⟨hJ, hb2⟩ := hJ
      dsimp only at hJ hb2 ⊢
      refine sx_seq ?_
      rcases Nat.lt_or_ge k l.length with hk | hk
      · skip
        obtain ⟨qx, us, d, eqx, ix, hc, lx, kx⟩ := rx.at' k hk
        cases eqx
        obtain ⟨u, n, p, rfl, rfl, hu, hn, hp⟩ := file3 kx
        have lx0 : aload S ((qx.add (k * 3)).add 0) = some (.string u) := aloads_at lx (j := 0) (by decide)
        have lx1 : aload S ((qx.add (k * 3)).add 1) = some (.int .i64 n) := aloads_at lx (j := 1) (by decide)
        refine sx_region (E := E) ?_
        refine so_bin rfl rfl rfl rfl (by first | exact bin_lss_t (by omega) | exact bin_lss_f (by omega)) ?_
        refine so_then ?_
        refine sx_seq ?_
        refine sx_true rfl ?_
        refine sx_skip ?_
        refine sk_then ?_
        refine sx_seq ?_
        refine sx_block ?_
        refine sx_seq ?_
        refine sx_region (E := E) ?_
        refine so_move rfl rfl rfl ?_
        refine so_assign rfl rfl rfl ?_
        refine so_then ?_
        refine sx_seq ?_
        rcases eq3 u.data.toList lq.data.toList (n = m) with heq | ⟨heq, hh⟩ | ⟨heq, hh⟩
        · skip
          refine sx_draw (E := E) mixed [] _ (List.Sublist.refl _) (by kernel_rfl) (by kernel_rfl) (by decide) ?_
          refine so_move rfl rfl rfl ?_
          refine so_move rfl rfl rfl ?_
          first | refine so_indexO rfl rfl rfl rfl Tryz.underlying22 inf24 rfl (by omega) rfl ?_ | refine so_index rfl rfl rfl rfl Tryz.underlying22 inf24 rfl (by omega) ?_
          first | refine so_fieldO rfl rfl rfl Tryz.underlying24 rfl inf9 rfl rfl ?_ | refine so_fieldC rfl rfl rfl Tryz.underlying24 rfl inf9 rfl rfl ?_
          refine so_load rfl rfl rfl (by first | exact ld_own Tryz.underlying9 rfl (by repeat (first | exact List.Mem.head _ | apply List.Mem.tail)) (by first | exact cellsOf_get rfl | rfl) | exact ld_data Tryz.underlying9 rfl (by first | assumption | exact InA.add (by assumption) | exact InA.add (InA.add (by assumption))) (by assumption)) ?_
          refine so_fieldO (o' := 1) rfl rfl rfl Tryz.underlying36 rfl inf9 rfl rfl ?_
          refine so_load rfl rfl rfl (by first | exact ld_own Tryz.underlying9 rfl (by repeat (first | exact List.Mem.head _ | apply List.Mem.tail)) (by first | exact cellsOf_get rfl | rfl) | exact ld_data Tryz.underlying9 rfl (by first | assumption | exact InA.add (by assumption) | exact InA.add (InA.add (by assumption))) (by assumption)) ?_
          refine so_bin rfl rfl rfl rfl (by first | exact bin_seql_t (by first | rfl | assumption | decide) | exact bin_seql_f (by first | rfl | assumption | decide)) ?_
          refine so_move rfl rfl rfl ?_
          first | refine so_move rfl rfl rfl ?_ | refine so_skip rfl rfl rfl ?_
          first | refine so_move rfl rfl rfl ?_ | refine so_skip rfl rfl rfl ?_
          first | refine so_indexO rfl rfl rfl rfl Tryz.underlying22 inf24 rfl (by omega) rfl ?_ | refine so_index rfl rfl rfl rfl Tryz.underlying22 inf24 rfl (by omega) ?_ | refine so_skip rfl rfl rfl ?_
          first | refine so_fieldO rfl rfl rfl Tryz.underlying24 rfl inf3 rfl rfl ?_ | refine so_fieldC rfl rfl rfl Tryz.underlying24 rfl inf3 rfl rfl ?_ | refine so_skip rfl rfl rfl ?_
          first | refine so_load rfl rfl rfl (by first | exact ld_own Tryz.underlying3 rfl (by repeat (first | exact List.Mem.head _ | apply List.Mem.tail)) (by first | exact cellsOf_get rfl | rfl) | exact ld_data Tryz.underlying3 rfl (by first | assumption | exact InA.add (by assumption) | exact InA.add (InA.add (by assumption))) (by assumption)) ?_ | refine so_skip rfl rfl rfl ?_
          first | refine so_move rfl rfl rfl ?_ | refine so_skip rfl rfl rfl ?_
          first | refine so_bin rfl rfl rfl rfl (by first | exact bin_eql_t (by first | rfl | assumption | omega) | exact bin_eql_f (by first | rfl | assumption | omega)) ?_ | refine so_skip rfl rfl rfl ?_
          first | refine so_pick_t rfl rfl rfl rfl ?_ | refine so_pick_f rfl rfl rfl rfl ?_
          refine so_then ?_
          refine sx_false rfl ?_
          refine sx_skip ?_
          refine sk_block ?_
          refine sk_then ?_
          refine sx_region (E := E) ?_
          refine so_bin rfl rfl rfl rfl (by first | exact bin_incr (by omega) | exact bin_add (wrap64 (by omega) (by omega)) | exact bin_add rfl) ?_
          refine so_move rfl rfl rfl ?_
          refine so_nil ?_
          exact sk_round (k + 1, b) (show l.length - (k + 1) < l.length - k by omega) ⟨show k + 1 ≤ l.length by omega, by rw [hasB_step _ _ hc, ← hb2]; simp [nmOf, rvOf, CT.str, heq]⟩ (by repeat (first | exact .nil | refine .cons rfl ?_)) rfl rfl (by repeat (first | exact List.nil_sublist _ | apply List.Sublist.cons_cons | apply List.Sublist.cons))
        · skip
          refine sx_draw (E := E) mixed [] _ (List.Sublist.refl _) (by kernel_rfl) (by kernel_rfl) (by decide) ?_
          refine so_move rfl rfl rfl ?_
          refine so_move rfl rfl rfl ?_
          first | refine so_indexO rfl rfl rfl rfl Tryz.underlying22 inf24 rfl (by omega) rfl ?_ | refine so_index rfl rfl rfl rfl Tryz.underlying22 inf24 rfl (by omega) ?_
          first | refine so_fieldO rfl rfl rfl Tryz.underlying24 rfl inf9 rfl rfl ?_ | refine so_fieldC rfl rfl rfl Tryz.underlying24 rfl inf9 rfl rfl ?_
          refine so_load rfl rfl rfl (by first | exact ld_own Tryz.underlying9 rfl (by repeat (first | exact List.Mem.head _ | apply List.Mem.tail)) (by first | exact cellsOf_get rfl | rfl) | exact ld_data Tryz.underlying9 rfl (by first | assumption | exact InA.add (by assumption) | exact InA.add (InA.add (by assumption))) (by assumption)) ?_
          refine so_fieldO (o' := 1) rfl rfl rfl Tryz.underlying36 rfl inf9 rfl rfl ?_
          refine so_load rfl rfl rfl (by first | exact ld_own Tryz.underlying9 rfl (by repeat (first | exact List.Mem.head _ | apply List.Mem.tail)) (by first | exact cellsOf_get rfl | rfl) | exact ld_data Tryz.underlying9 rfl (by first | assumption | exact InA.add (by assumption) | exact InA.add (InA.add (by assumption))) (by assumption)) ?_
          refine so_bin rfl rfl rfl rfl (by first | exact bin_seql_t (by first | rfl | assumption | decide) | exact bin_seql_f (by first | rfl | assumption | decide)) ?_
          refine so_move rfl rfl rfl ?_
          first | refine so_move rfl rfl rfl ?_ | refine so_skip rfl rfl rfl ?_
          first | refine so_move rfl rfl rfl ?_ | refine so_skip rfl rfl rfl ?_
          first | refine so_indexO rfl rfl rfl rfl Tryz.underlying22 inf24 rfl (by omega) rfl ?_ | refine so_index rfl rfl rfl rfl Tryz.underlying22 inf24 rfl (by omega) ?_ | refine so_skip rfl rfl rfl ?_
          first | refine so_fieldO rfl rfl rfl Tryz.underlying24 rfl inf3 rfl rfl ?_ | refine so_fieldC rfl rfl rfl Tryz.underlying24 rfl inf3 rfl rfl ?_ | refine so_skip rfl rfl rfl ?_
          first | refine so_load rfl rfl rfl (by first | exact ld_own Tryz.underlying3 rfl (by repeat (first | exact List.Mem.head _ | apply List.Mem.tail)) (by first | exact cellsOf_get rfl | rfl) | exact ld_data Tryz.underlying3 rfl (by first | assumption | exact InA.add (by assumption) | exact InA.add (InA.add (by assumption))) (by assumption)) ?_ | refine so_skip rfl rfl rfl ?_
          first | refine so_move rfl rfl rfl ?_ | refine so_skip rfl rfl rfl ?_
          first | refine so_bin rfl rfl rfl rfl (by first | exact bin_eql_t (by first | rfl | assumption | omega) | exact bin_eql_f (by first | rfl | assumption | omega)) ?_ | refine so_skip rfl rfl rfl ?_
          first | refine so_pick_t rfl rfl rfl rfl ?_ | refine so_pick_f rfl rfl rfl rfl ?_
          refine so_then ?_
          refine sx_true rfl ?_
          refine sx_region (E := E) ?_
          refine so_assign rfl rfl rfl ?_
          refine so_nil ?_
          refine sk_block ?_
          refine sk_then ?_
          refine sx_region (E := E) ?_
          refine so_bin rfl rfl rfl rfl (by first | exact bin_incr (by omega) | exact bin_add (wrap64 (by omega) (by omega)) | exact bin_add rfl) ?_
          refine so_move rfl rfl rfl ?_
          refine so_nil ?_
          exact sk_round (k + 1, true) (show l.length - (k + 1) < l.length - k by omega) ⟨show k + 1 ≤ l.length by omega, by rw [hasB_step _ _ hc, ← hb2]; simp [nmOf, rvOf, CT.str, heq, hh]⟩ (by repeat (first | exact .nil | refine .cons rfl ?_)) rfl rfl (by repeat (first | exact List.nil_sublist _ | apply List.Sublist.cons_cons | apply List.Sublist.cons))
        · skip
          refine sx_draw (E := E) mixed [] _ (List.Sublist.refl _) (by kernel_rfl) (by kernel_rfl) (by decide) ?_
          refine so_move rfl rfl rfl ?_
          refine so_move rfl rfl rfl ?_
          first | refine so_indexO rfl rfl rfl rfl Tryz.underlying22 inf24 rfl (by omega) rfl ?_ | refine so_index rfl rfl rfl rfl Tryz.underlying22 inf24 rfl (by omega) ?_
          first | refine so_fieldO rfl rfl rfl Tryz.underlying24 rfl inf9 rfl rfl ?_ | refine so_fieldC rfl rfl rfl Tryz.underlying24 rfl inf9 rfl rfl ?_
          refine so_load rfl rfl rfl (by first | exact ld_own Tryz.underlying9 rfl (by repeat (first | exact List.Mem.head _ | apply List.Mem.tail)) (by first | exact cellsOf_get rfl | rfl) | exact ld_data Tryz.underlying9 rfl (by first | assumption | exact InA.add (by assumption) | exact InA.add (InA.add (by assumption))) (by assumption)) ?_
          refine so_fieldO (o' := 1) rfl rfl rfl Tryz.underlying36 rfl inf9 rfl rfl ?_
          refine so_load rfl rfl rfl (by first | exact ld_own Tryz.underlying9 rfl (by repeat (first | exact List.Mem.head _ | apply List.Mem.tail)) (by first | exact cellsOf_get rfl | rfl) | exact ld_data Tryz.underlying9 rfl (by first | assumption | exact InA.add (by assumption) | exact InA.add (InA.add (by assumption))) (by assumption)) ?_
          refine so_bin rfl rfl rfl rfl (by first | exact bin_seql_t (by first | rfl | assumption | decide) | exact bin_seql_f (by first | rfl | assumption | decide)) ?_
          refine so_move rfl rfl rfl ?_
          first | refine so_move rfl rfl rfl ?_ | refine so_skip rfl rfl rfl ?_
          first | refine so_move rfl rfl rfl ?_ | refine so_skip rfl rfl rfl ?_
          first | refine so_indexO rfl rfl rfl rfl Tryz.underlying22 inf24 rfl (by omega) rfl ?_ | refine so_index rfl rfl rfl rfl Tryz.underlying22 inf24 rfl (by omega) ?_ | refine so_skip rfl rfl rfl ?_
          first | refine so_fieldO rfl rfl rfl Tryz.underlying24 rfl inf3 rfl rfl ?_ | refine so_fieldC rfl rfl rfl Tryz.underlying24 rfl inf3 rfl rfl ?_ | refine so_skip rfl rfl rfl ?_
          first | refine so_load rfl rfl rfl (by first | exact ld_own Tryz.underlying3 rfl (by repeat (first | exact List.Mem.head _ | apply List.Mem.tail)) (by first | exact cellsOf_get rfl | rfl) | exact ld_data Tryz.underlying3 rfl (by first | assumption | exact InA.add (by assumption) | exact InA.add (InA.add (by assumption))) (by assumption)) ?_ | refine so_skip rfl rfl rfl ?_
          first | refine so_move rfl rfl rfl ?_ | refine so_skip rfl rfl rfl ?_
          first | refine so_bin rfl rfl rfl rfl (by first | exact bin_eql_t (by first | rfl | assumption | omega) | exact bin_eql_f (by first | rfl | assumption | omega)) ?_ | refine so_skip rfl rfl rfl ?_
          first | refine so_pick_t rfl rfl rfl rfl ?_ | refine so_pick_f rfl rfl rfl rfl ?_
          refine so_then ?_
          refine sx_false rfl ?_
          refine sx_skip ?_
          refine sk_block ?_
          refine sk_then ?_
          refine sx_region (E := E) ?_
          refine so_bin rfl rfl rfl rfl (by first | exact bin_incr (by omega) | exact bin_add (wrap64 (by omega) (by omega)) | exact bin_add rfl) ?_
          refine so_move rfl rfl rfl ?_
          refine so_nil ?_
          exact sk_round (k + 1, b) (show l.length - (k + 1) < l.length - k by omega) ⟨show k + 1 ≤ l.length by omega, by rw [hasB_step _ _ hc, ← hb2]; simp [nmOf, rvOf, CT.str, heq, hh]⟩ (by repeat (first | exact .nil | refine .cons rfl ?_)) rfl rfl (by repeat (first | exact List.nil_sublist _ | apply List.Sublist.cons_cons | apply List.Sublist.cons))
      · skip
        rw [List.take_of_length_le (by omega), hasB_yes ⟨c0, hm0, hq0, hv0⟩] at hb2
        subst hb2
        refine sx_region (E := E) ?_
        refine so_bin rfl rfl rfl rfl (by first | exact bin_lss_t (by omega) | exact bin_lss_f (by omega)) ?_
        refine so_then ?_
        refine sx_seq ?_
        refine sx_false rfl ?_
        refine sx_exit ?_
        refine sk_then_exit ?_
        refine sk_loop_exit ?_
        refine sk_block_exit ?_
        refine sk_then ?_
        refine sx_seq ?_
        refine sx_seq ?_
        rcases hru with rfl | rfl
        · skip
          refine sx_region (E := E) ?_
          refine so_move rfl rfl rfl ?_
          refine so_not rfl rfl rfl rfl ?_
          refine so_move rfl rfl rfl ?_
          first | refine so_move rfl rfl rfl ?_ | refine so_skip rfl rfl rfl ?_
          first | refine so_fieldO (o' := 3) rfl rfl rfl Tryz.underlying36 rfl inf3 rfl rfl ?_ | refine so_skip rfl rfl rfl ?_
          first | refine so_load rfl rfl rfl (by first | exact ld_own Tryz.underlying3 rfl (by repeat (first | exact List.Mem.head _ | apply List.Mem.tail)) (by first | exact cellsOf_get rfl | rfl) | exact ld_data Tryz.underlying3 rfl (by first | assumption | exact InA.add (by assumption) | exact InA.add (InA.add (by assumption))) (by assumption)) ?_ | refine so_skip rfl rfl rfl ?_
          first | refine so_bin rfl rfl rfl rfl (by first | exact bin_leq_t (by omega) | exact bin_leq_f (by omega)) ?_ | refine so_skip rfl rfl rfl ?_
          first | refine so_pick_t rfl rfl rfl rfl ?_ | refine so_pick_f rfl rfl rfl rfl ?_
          refine so_move rfl rfl rfl ?_
          first | refine so_fieldO (o' := 2) rfl rfl rfl Tryz.underlying36 rfl inf3 rfl rfl ?_ | refine so_skip rfl rfl rfl ?_
          first | refine so_load rfl rfl rfl (by first | exact ld_own Tryz.underlying3 rfl (by repeat (first | exact List.Mem.head _ | apply List.Mem.tail)) (by first | exact cellsOf_get rfl | rfl) | exact ld_data Tryz.underlying3 rfl (by first | assumption | exact InA.add (by assumption) | exact InA.add (InA.add (by assumption))) (by assumption)) ?_ | refine so_skip rfl rfl rfl ?_
          first | refine so_bin rfl rfl rfl rfl (by first | exact bin_neq_f (by first | rfl | assumption | omega) | exact bin_neq_t (by first | rfl | assumption | omega)) ?_ | refine so_skip rfl rfl rfl ?_
          first | refine so_move rfl rfl rfl ?_ | refine so_skip rfl rfl rfl ?_
          first | refine so_fieldO (o' := 2) rfl rfl rfl Tryz.underlying36 rfl inf3 rfl rfl ?_ | refine so_skip rfl rfl rfl ?_
          first | refine so_load rfl rfl rfl (by first | exact ld_own Tryz.underlying3 rfl (by repeat (first | exact List.Mem.head _ | apply List.Mem.tail)) (by first | exact cellsOf_get rfl | rfl) | exact ld_data Tryz.underlying3 rfl (by first | assumption | exact InA.add (by assumption) | exact InA.add (InA.add (by assumption))) (by assumption)) ?_ | refine so_skip rfl rfl rfl ?_
          first | refine so_bin rfl rfl rfl rfl (by first | exact bin_neq_f (by first | rfl | assumption | omega) | exact bin_neq_t (by first | rfl | assumption | omega)) ?_ | refine so_skip rfl rfl rfl ?_
          first | refine so_pick_t rfl rfl rfl rfl ?_ | refine so_pick_f rfl rfl rfl rfl ?_ | refine so_skip rfl rfl rfl ?_
          first | refine so_pick_t rfl rfl rfl rfl ?_ | refine so_pick_f rfl rfl rfl rfl ?_
          refine so_move rfl rfl rfl ?_
          first | refine so_fieldO (o' := 2) rfl rfl rfl Tryz.underlying36 rfl inf3 rfl rfl ?_ | refine so_skip rfl rfl rfl ?_
          first | refine so_load rfl rfl rfl (by first | exact ld_own Tryz.underlying3 rfl (by repeat (first | exact List.Mem.head _ | apply List.Mem.tail)) (by first | exact cellsOf_get rfl | rfl) | exact ld_data Tryz.underlying3 rfl (by first | assumption | exact InA.add (by assumption) | exact InA.add (InA.add (by assumption))) (by assumption)) ?_ | refine so_skip rfl rfl rfl ?_
          first | refine so_bin rfl rfl rfl rfl (by first | exact bin_eql_t (by first | rfl | assumption | omega) | exact bin_eql_f (by first | rfl | assumption | omega)) ?_ | refine so_skip rfl rfl rfl ?_
          first | refine so_move rfl rfl rfl ?_ | refine so_skip rfl rfl rfl ?_
          first | refine so_move rfl rfl rfl ?_ | refine so_skip rfl rfl rfl ?_
          first | refine so_bin rfl rfl rfl rfl (by first | exact bin_quo (c := m / 100) (by decide) (by rw [Int.tdiv_eq_ediv_of_nonneg (by omega)]; exact wrap64 (by omega) (by omega))) ?_ | refine so_skip rfl rfl rfl ?_
          first | refine so_fieldO (o' := 3) rfl rfl rfl Tryz.underlying36 rfl inf3 rfl rfl ?_ | refine so_skip rfl rfl rfl ?_
          first | refine so_load rfl rfl rfl (by first | exact ld_own Tryz.underlying3 rfl (by repeat (first | exact List.Mem.head _ | apply List.Mem.tail)) (by first | exact cellsOf_get rfl | rfl) | exact ld_data Tryz.underlying3 rfl (by first | assumption | exact InA.add (by assumption) | exact InA.add (InA.add (by assumption))) (by assumption)) ?_ | refine so_skip rfl rfl rfl ?_
          first | refine so_bin rfl rfl rfl rfl (by first | exact bin_quo (c := lv / 100) (by decide) (by rw [Int.tdiv_eq_ediv_of_nonneg (by omega)]; exact wrap64 (by omega) (by omega))) ?_ | refine so_skip rfl rfl rfl ?_
          first | refine so_bin rfl rfl rfl rfl (by first | exact bin_neq_f (by first | rfl | assumption | omega) | exact bin_neq_t (by first | rfl | assumption | omega)) ?_ | refine so_skip rfl rfl rfl ?_
          first | refine so_pick_t rfl rfl rfl rfl ?_ | refine so_pick_f rfl rfl rfl rfl ?_ | refine so_skip rfl rfl rfl ?_
          first | refine so_pick_t rfl rfl rfl rfl ?_ | refine so_pick_f rfl rfl rfl rfl ?_
          refine so_then ?_
          refine sx_false rfl ?_
          refine sx_skip ?_
          refine sk_then ?_
          refine sx_seq ?_
          refine sx_region (E := E) ?_
          refine so_move rfl rfl rfl ?_
          refine so_fieldO (o' := 3) rfl rfl rfl Tryz.underlying36 rfl inf3 rfl rfl ?_
          refine so_storeS rfl (fun h => nomatch h) rfl rfl inf3 rfl rfl (by repeat (first | exact .zero | apply Upd.succ)) (by first | exact cellsOf_set rfl | exact cellsOf_setr rfl | exact cellsOf_store rfl | exact store_all rfl | rfl) (by first | exact cellsOf_in rfl rfl | exact cellsOf_in rfl (cellsOf_length _ _) | exact cellsOf_le rfl | exact Nat.le_of_ble_eq_true rfl | omega) (fun h => nomatch h) ?_
          refine so_then ?_
          refine sx_seq ?_
          refine sx_region (E := E) ?_
          refine so_load rfl rfl rfl (by first | exact ld_ownA Tryz.underlying36 rfl inf36 rfl (by repeat (first | exact List.Mem.head _ | apply List.Mem.tail)) (by first | exact cellsOf_le rfl | exact Nat.le_of_ble_eq_true rfl | decide | omega) (by first | exact cellsOf_all | exact take_all rfl | exact cellsOf_part rfl | rfl) | exact ld_dataA Tryz.underlying36 rfl inf36 rfl (by first | assumption | exact InA.add (by assumption) | exact InA.add (InA.add (by assumption))) (by assumption)) ?_
          refine so_move rfl rfl rfl ?_
          refine so_call rfl rfl (fun h => nomatch h) rfl has15 (by repeat (first | exact Opvs.nil | apply Opvs.cons rfl)) (fun H hH => (wants_ok hH.lt (CellA.gr hH.gr _ _ _ hx) hmw).e (by rw [hag])) ?_
          refine so_move rfl rfl rfl ?_
          refine so_extract rfl rfl rfl rfl ?_
          refine so_extract rfl rfl rfl rfl ?_
          refine so_assign rfl rfl rfl ?_
          refine so_assign rfl rfl rfl ?_
          refine so_then ?_
          refine sx_seq ?_
          refine sx_region (E := E) ?_
          refine so_move rfl rfl rfl ?_
          refine so_bin rfl rfl rfl rfl (by first | exact bin_eql_t (by first | rfl | assumption | omega) | exact bin_eql_f (by first | rfl | assumption | omega)) ?_
          refine so_move rfl rfl rfl ?_
          first | refine so_move rfl rfl rfl ?_ | refine so_skip rfl rfl rfl ?_
          first | refine so_not rfl rfl rfl rfl ?_ | refine so_skip rfl rfl rfl ?_
          first | refine so_pick_t rfl rfl rfl rfl ?_ | refine so_pick_f rfl rfl rfl rfl ?_
          refine so_move rfl rfl rfl ?_
          first | refine so_call rfl rfl (fun h => nomatch h) rfl has12 (by repeat (first | exact Opvs.nil | apply Opvs.cons rfl)) (fun H hH => awake_ok H) ?_ | refine so_skip rfl rfl rfl ?_
          first | refine so_pick_t rfl rfl rfl rfl ?_ | refine so_pick_f rfl rfl rfl rfl ?_
          refine so_assign rfl rfl rfl ?_
          refine so_then ?_
          refine sx_ret ?_
          refine sk_return1 (.tmp rfl .nil) ?_
          exact fun H hH => ⟨rfl, hH.kept⟩
        · skip
          have hma2 := hma rfl
          refine sx_region (E := E) ?_
          refine so_move rfl rfl rfl ?_
          refine so_not rfl rfl rfl rfl ?_
          refine so_move rfl rfl rfl ?_
          first | refine so_move rfl rfl rfl ?_ | refine so_skip rfl rfl rfl ?_
          first | refine so_fieldO (o' := 3) rfl rfl rfl Tryz.underlying36 rfl inf3 rfl rfl ?_ | refine so_skip rfl rfl rfl ?_
          first | refine so_load rfl rfl rfl (by first | exact ld_own Tryz.underlying3 rfl (by repeat (first | exact List.Mem.head _ | apply List.Mem.tail)) (by first | exact cellsOf_get rfl | rfl) | exact ld_data Tryz.underlying3 rfl (by first | assumption | exact InA.add (by assumption) | exact InA.add (InA.add (by assumption))) (by assumption)) ?_ | refine so_skip rfl rfl rfl ?_
          first | refine so_bin rfl rfl rfl rfl (by first | exact bin_leq_t (by omega) | exact bin_leq_f (by omega)) ?_ | refine so_skip rfl rfl rfl ?_
          first | refine so_pick_t rfl rfl rfl rfl ?_ | refine so_pick_f rfl rfl rfl rfl ?_
          refine so_move rfl rfl rfl ?_
          first | refine so_fieldO (o' := 2) rfl rfl rfl Tryz.underlying36 rfl inf3 rfl rfl ?_ | refine so_skip rfl rfl rfl ?_
          first | refine so_load rfl rfl rfl (by first | exact ld_own Tryz.underlying3 rfl (by repeat (first | exact List.Mem.head _ | apply List.Mem.tail)) (by first | exact cellsOf_get rfl | rfl) | exact ld_data Tryz.underlying3 rfl (by first | assumption | exact InA.add (by assumption) | exact InA.add (InA.add (by assumption))) (by assumption)) ?_ | refine so_skip rfl rfl rfl ?_
          first | refine so_bin rfl rfl rfl rfl (by first | exact bin_neq_f (by first | rfl | assumption | omega) | exact bin_neq_t (by first | rfl | assumption | omega)) ?_ | refine so_skip rfl rfl rfl ?_
          first | refine so_move rfl rfl rfl ?_ | refine so_skip rfl rfl rfl ?_
          first | refine so_fieldO (o' := 2) rfl rfl rfl Tryz.underlying36 rfl inf3 rfl rfl ?_ | refine so_skip rfl rfl rfl ?_
          first | refine so_load rfl rfl rfl (by first | exact ld_own Tryz.underlying3 rfl (by repeat (first | exact List.Mem.head _ | apply List.Mem.tail)) (by first | exact cellsOf_get rfl | rfl) | exact ld_data Tryz.underlying3 rfl (by first | assumption | exact InA.add (by assumption) | exact InA.add (InA.add (by assumption))) (by assumption)) ?_ | refine so_skip rfl rfl rfl ?_
          first | refine so_bin rfl rfl rfl rfl (by first | exact bin_neq_f (by first | rfl | assumption | omega) | exact bin_neq_t (by first | rfl | assumption | omega)) ?_ | refine so_skip rfl rfl rfl ?_
          first | refine so_pick_t rfl rfl rfl rfl ?_ | refine so_pick_f rfl rfl rfl rfl ?_ | refine so_skip rfl rfl rfl ?_
          first | refine so_pick_t rfl rfl rfl rfl ?_ | refine so_pick_f rfl rfl rfl rfl ?_
          refine so_move rfl rfl rfl ?_
          first | refine so_fieldO (o' := 2) rfl rfl rfl Tryz.underlying36 rfl inf3 rfl rfl ?_ | refine so_skip rfl rfl rfl ?_
          first | refine so_load rfl rfl rfl (by first | exact ld_own Tryz.underlying3 rfl (by repeat (first | exact List.Mem.head _ | apply List.Mem.tail)) (by first | exact cellsOf_get rfl | rfl) | exact ld_data Tryz.underlying3 rfl (by first | assumption | exact InA.add (by assumption) | exact InA.add (InA.add (by assumption))) (by assumption)) ?_ | refine so_skip rfl rfl rfl ?_
          first | refine so_bin rfl rfl rfl rfl (by first | exact bin_eql_t (by first | rfl | assumption | omega) | exact bin_eql_f (by first | rfl | assumption | omega)) ?_ | refine so_skip rfl rfl rfl ?_
          first | refine so_move rfl rfl rfl ?_ | refine so_skip rfl rfl rfl ?_
          first | refine so_move rfl rfl rfl ?_ | refine so_skip rfl rfl rfl ?_
          first | refine so_bin rfl rfl rfl rfl (by first | exact bin_quo (c := m / 100) (by decide) (by rw [Int.tdiv_eq_ediv_of_nonneg (by omega)]; exact wrap64 (by omega) (by omega))) ?_ | refine so_skip rfl rfl rfl ?_
          first | refine so_fieldO (o' := 3) rfl rfl rfl Tryz.underlying36 rfl inf3 rfl rfl ?_ | refine so_skip rfl rfl rfl ?_
          first | refine so_load rfl rfl rfl (by first | exact ld_own Tryz.underlying3 rfl (by repeat (first | exact List.Mem.head _ | apply List.Mem.tail)) (by first | exact cellsOf_get rfl | rfl) | exact ld_data Tryz.underlying3 rfl (by first | assumption | exact InA.add (by assumption) | exact InA.add (InA.add (by assumption))) (by assumption)) ?_ | refine so_skip rfl rfl rfl ?_
          first | refine so_bin rfl rfl rfl rfl (by first | exact bin_quo (c := lv / 100) (by decide) (by rw [Int.tdiv_eq_ediv_of_nonneg (by omega)]; exact wrap64 (by omega) (by omega))) ?_ | refine so_skip rfl rfl rfl ?_
          first | refine so_bin rfl rfl rfl rfl (by first | exact bin_neq_f (by first | rfl | assumption | omega) | exact bin_neq_t (by first | rfl | assumption | omega)) ?_ | refine so_skip rfl rfl rfl ?_
          first | refine so_pick_t rfl rfl rfl rfl ?_ | refine so_pick_f rfl rfl rfl rfl ?_ | refine so_skip rfl rfl rfl ?_
          first | refine so_pick_t rfl rfl rfl rfl ?_ | refine so_pick_f rfl rfl rfl rfl ?_
          refine so_then ?_
          refine sx_false rfl ?_
          refine sx_skip ?_
          refine sk_then ?_
          refine sx_seq ?_
          refine sx_region (E := E) ?_
          refine so_move rfl rfl rfl ?_
          refine so_fieldO (o' := 3) rfl rfl rfl Tryz.underlying36 rfl inf3 rfl rfl ?_
          refine so_storeS rfl (fun h => nomatch h) rfl rfl inf3 rfl rfl (by repeat (first | exact .zero | apply Upd.succ)) (by first | exact cellsOf_set rfl | exact cellsOf_setr rfl | exact cellsOf_store rfl | exact store_all rfl | rfl) (by first | exact cellsOf_in rfl rfl | exact cellsOf_in rfl (cellsOf_length _ _) | exact cellsOf_le rfl | exact Nat.le_of_ble_eq_true rfl | omega) (fun h => nomatch h) ?_
          refine so_then ?_
          refine sx_seq ?_
          refine sx_region (E := E) ?_
          refine so_load rfl rfl rfl (by first | exact ld_ownA Tryz.underlying36 rfl inf36 rfl (by repeat (first | exact List.Mem.head _ | apply List.Mem.tail)) (by first | exact cellsOf_le rfl | exact Nat.le_of_ble_eq_true rfl | decide | omega) (by first | exact cellsOf_all | exact take_all rfl | exact cellsOf_part rfl | rfl) | exact ld_dataA Tryz.underlying36 rfl inf36 rfl (by first | assumption | exact InA.add (by assumption) | exact InA.add (InA.add (by assumption))) (by assumption)) ?_
          refine so_move rfl rfl rfl ?_
          refine so_call rfl rfl (fun h => nomatch h) rfl has15 (by repeat (first | exact Opvs.nil | apply Opvs.cons rfl)) (fun H hH => (wants_ok hH.lt (CellA.gr hH.gr _ _ _ hx) hmw).e (by rw [hag])) ?_
          refine so_move rfl rfl rfl ?_
          refine so_extract rfl rfl rfl rfl ?_
          refine so_extract rfl rfl rfl rfl ?_
          refine so_assign rfl rfl rfl ?_
          refine so_assign rfl rfl rfl ?_
          refine so_then ?_
          refine sx_seq ?_
          refine sx_region (E := E) ?_
          refine so_move rfl rfl rfl ?_
          refine so_bin rfl rfl rfl rfl (by first | exact bin_eql_t (by first | rfl | assumption | omega) | exact bin_eql_f (by first | rfl | assumption | omega)) ?_
          refine so_move rfl rfl rfl ?_
          first | refine so_move rfl rfl rfl ?_ | refine so_skip rfl rfl rfl ?_
          first | refine so_not rfl rfl rfl rfl ?_ | refine so_skip rfl rfl rfl ?_
          first | refine so_pick_t rfl rfl rfl rfl ?_ | refine so_pick_f rfl rfl rfl rfl ?_
          refine so_move rfl rfl rfl ?_
          first | refine so_call rfl rfl (fun h => nomatch h) rfl has12 (by repeat (first | exact Opvs.nil | apply Opvs.cons rfl)) (fun H hH => awake_ok H) ?_ | refine so_skip rfl rfl rfl ?_
          first | refine so_pick_t rfl rfl rfl rfl ?_ | refine so_pick_f rfl rfl rfl rfl ?_
          refine so_assign rfl rfl rfl ?_
          refine so_then ?_
          refine sx_ret ?_
          refine sk_return1 (.tmp rfl .nil) ?_
          exact fun H hH => ⟨rfl, hH.kept⟩

end Go.Proofs.YthnplnlhibalcaaGreatDoor
