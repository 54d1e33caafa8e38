/-
  Walks, laid by program.
-/
import Derived.Test.YtaedeadgbojmnaaC4a
set_option linter.unusedVariables false
set_option linter.unusedSimpArgs false
set_option maxRecDepth 100000
namespace Go.Proofs.Ytaedeadgbojmnaa
open Go Go.AM

theorem loads_edit {H : AH} {q : Addr} {x : Nat → Value} (h : aloads H q 85 = some (cellsOf 85 x)) : aloads H (q.add 0) 84 = some (cellsOf 84 x) := (aloads_sub h (j := 0) (m := 84) (by decide)).trans rfl
theorem loads_bl {H : AH} {q : Addr} {x : Nat → Value} (h : aloads H q 85 = some (cellsOf 85 x)) : aload H (q.add 84) = some (x 84) := (aloads_at h (j := 84) (by decide)).trans (cellsOf_get rfl)
set_option maxHeartbeats 2000000 in
theorem sameActions_ok {S : AH} {A : Nat → Prop} (hA : ∀ j, A j → j < S.nx) {bt : Nat} {x y : Value} {l : List (List CT)} (hx : CellA A S (.row bt k51) x (.row l)) (hy : CellA A S (.row bt k51) y (.row l)) : XCall Try.prog 13 [x, y] S fun v H' => v = .bool true ∧ Kept S.nx S H' := by
  obtain ⟨l2, ax, cx, e2, rfl, rx⟩ := hx.rowD
  cases e2
  obtain ⟨l2, ay, cy, e2, rfl, ry⟩ := hy.rowD
  cases e2
  have hb := rx.len
  refine x_enter (E := E) (n := 72) (rs := [.tmp 4]) (l := [(1, _), (0, _)]) (fn_own Try.func13 rfl rfl rfl) hA rfl ?_
  refine sx_seq ?_
  refine sx_region (E := E) ?_
  refine so_assign rfl rfl rfl ?_
  refine so_then ?_
  refine sx_seq ?_
  refine sx_seq ?_
  refine sx_region (E := E) ?_
  refine so_move rfl rfl rfl ?_
  refine so_lenL rfl rfl rfl rfl rfl rfl Try.underlying61 ?_
  refine so_move rfl rfl rfl ?_
  refine so_lenL rfl rfl rfl rfl rfl rfl Try.underlying61 ?_
  refine so_bin rfl rfl rfl rfl (by first | exact bin_neq_f (by first | rfl | assumption | omega) | exact bin_neq_t (by first | rfl | assumption | omega)) ?_
  refine so_then ?_
  refine sx_false rfl ?_
  refine sx_skip ?_
  refine sk_then ?_
  refine sx_seq ?_
  refine sx_seq ?_
  refine sx_region (E := E) ?_
  refine so_assign rfl rfl rfl ?_
  refine so_then ?_
  refine sx_block ?_
  refine sx_loop (σ := Nat) (fun k => l.length - k) (fun k => [(0, .slice ax l.length cx), (1, .slice ay l.length cy), (5, .int .i64 ((k : Nat) : Int))]) (fun _ => S) (fun _ => A) (fun _ => []) (fun k => k ≤ l.length) (0) (Nat.zero_le _) (by repeat (first | exact .nil | refine .cons rfl ?_)) rfl rfl (by repeat (first | exact List.nil_sublist _ | apply List.Sublist.cons_cons | apply List.Sublist.cons)) ?_
  intro s hJ t1
  refine sx_seq ?_
  refine sx_seq ?_
  rcases Nat.lt_or_ge s l.length with hk | hk
  · skip
    obtain ⟨qx, us, d, rfl, ix, hcx, lx, kx⟩ := rx.at' s hk
    obtain ⟨qy, vs, d2, rfl, iy, hcy, ly, ky⟩ := ry.at' s hk
    rw [hcx] at hcy; cases hcy
    obtain ⟨x, y, c, rfl, rfl, rfl, px, py⟩ := kx.fn2 ky (n := 85) rfl
    obtain ⟨bl, ab, cb, eb, hb84, rb⟩ := (px 84 _ rfl).rowD
    obtain ⟨bl2, ab2, cb2, eb2, hb842, rb2⟩ := (py 84 _ rfl).rowD
    rw [eb] at eb2; cases eb2
    have hbb := rb.len
    have lxe := loads_edit lx
    have lye := loads_edit ly
    have lxb := loads_bl lx
    have lyb := loads_bl ly
    rw [hb84] at lxb
    rw [hb842] at lyb
    refine sx_region (E := E) ?_
    refine so_move rfl rfl rfl ?_
    refine so_move rfl rfl rfl ?_
    refine so_lenL rfl rfl rfl rfl rfl rfl Try.underlying61 ?_
    refine so_bin rfl rfl rfl rfl (by first | exact bin_lss_t (by omega) | exact bin_lss_f (by omega)) ?_
    refine so_then ?_
    refine sx_true rfl ?_
    refine sx_skip ?_
    refine sk_then ?_
    refine sx_seq ?_
    refine sx_block ?_
    refine sx_seq ?_
    refine sx_seq ?_
    refine sx_draw (E := E) mixed [10] _ (List.Sublist.refl _) (by kernel_rfl) (by kernel_rfl) (by decide) ?_
    refine so_move rfl rfl rfl ?_
    refine so_move rfl rfl rfl ?_
    first | refine so_indexO rfl rfl rfl rfl Try.underlying61 inf51 rfl (by omega) rfl ?_ | refine so_index rfl rfl rfl rfl Try.underlying61 inf51 rfl (by omega) ?_
    first | refine so_fieldO rfl rfl rfl Try.underlying51 rfl inf48 rfl rfl ?_ | refine so_fieldC rfl rfl rfl Try.underlying51 rfl inf48 rfl rfl ?_
    refine so_load rfl rfl rfl (by first | exact ld_ownA Try.underlying48 rfl inf48 rfl (by repeat (first | exact List.Mem.head _ | apply List.Mem.tail)) (by first | exact cellsOf_le rfl | decide | omega) (by first | exact cellsOf_all | exact take_all rfl | exact cellsOf_part rfl | rfl) | exact ld_dataA Try.underlying48 rfl inf48 rfl (by first | assumption | exact InA.add (by assumption) | exact InA.add (InA.add (by assumption))) (by assumption)) ?_
    refine so_move rfl rfl rfl ?_
    refine so_move rfl rfl rfl ?_
    first | refine so_indexO rfl rfl rfl rfl Try.underlying61 inf51 rfl (by omega) rfl ?_ | refine so_index rfl rfl rfl rfl Try.underlying61 inf51 rfl (by omega) ?_
    first | refine so_fieldO rfl rfl rfl Try.underlying51 rfl inf48 rfl rfl ?_ | refine so_fieldC rfl rfl rfl Try.underlying51 rfl inf48 rfl rfl ?_
    refine so_load rfl rfl rfl (by first | exact ld_ownA Try.underlying48 rfl inf48 rfl (by repeat (first | exact List.Mem.head _ | apply List.Mem.tail)) (by first | exact cellsOf_le rfl | decide | omega) (by first | exact cellsOf_all | exact take_all rfl | exact cellsOf_part rfl | rfl) | exact ld_dataA Try.underlying48 rfl inf48 rfl (by first | assumption | exact InA.add (by assumption) | exact InA.add (InA.add (by assumption))) (by assumption)) ?_
    refine so_call rfl rfl (fun _ => (by repeat (first | exact List.Mem.head _ | apply List.Mem.tail))) rfl has9 (by repeat (first | exact Opvs.nil | apply Opvs.cons rfl)) (fun H hH => sameEdit_ok hH.lt (CellsA.gr hH.gr _ _ _ ((pts_edit px).cells (n := 84) rfl)) (CellsA.gr hH.gr _ _ _ ((pts_edit py).cells (n := 84) rfl))) ?_
    refine so_not rfl rfl rfl rfl ?_
    refine so_move rfl rfl rfl ?_
    first | refine so_move rfl rfl rfl ?_ | refine so_skip rfl rfl rfl ?_
    first | refine so_move rfl rfl rfl ?_ | refine so_skip rfl rfl rfl ?_
    first | refine so_indexO rfl rfl rfl rfl Try.underlying61 inf51 rfl (by omega) rfl ?_ | refine so_index rfl rfl rfl rfl Try.underlying61 inf51 rfl (by omega) ?_ | refine so_skip rfl rfl rfl ?_
    first | refine so_fieldO rfl rfl rfl Try.underlying51 rfl inf49 rfl rfl ?_ | refine so_fieldC rfl rfl rfl Try.underlying51 rfl inf49 rfl rfl ?_ | refine so_skip rfl rfl rfl ?_
    first | refine so_load rfl rfl rfl (by first | exact ld_own Try.underlying49 rfl (by repeat (first | exact List.Mem.head _ | apply List.Mem.tail)) (by first | exact cellsOf_get rfl | rfl) | exact ld_data Try.underlying49 rfl (by first | assumption | exact InA.add (by assumption) | exact InA.add (InA.add (by assumption))) (by assumption)) ?_ | refine so_skip rfl rfl rfl ?_
    first | refine so_lenL rfl rfl rfl rfl rfl rfl Try.underlying49 ?_ | refine so_skip rfl rfl rfl ?_
    first | refine so_move rfl rfl rfl ?_ | refine so_skip rfl rfl rfl ?_
    first | refine so_move rfl rfl rfl ?_ | refine so_skip rfl rfl rfl ?_
    first | refine so_indexO rfl rfl rfl rfl Try.underlying61 inf51 rfl (by omega) rfl ?_ | refine so_index rfl rfl rfl rfl Try.underlying61 inf51 rfl (by omega) ?_ | refine so_skip rfl rfl rfl ?_
    first | refine so_fieldO rfl rfl rfl Try.underlying51 rfl inf49 rfl rfl ?_ | refine so_fieldC rfl rfl rfl Try.underlying51 rfl inf49 rfl rfl ?_ | refine so_skip rfl rfl rfl ?_
    first | refine so_load rfl rfl rfl (by first | exact ld_own Try.underlying49 rfl (by repeat (first | exact List.Mem.head _ | apply List.Mem.tail)) (by first | exact cellsOf_get rfl | rfl) | exact ld_data Try.underlying49 rfl (by first | assumption | exact InA.add (by assumption) | exact InA.add (InA.add (by assumption))) (by assumption)) ?_ | refine so_skip rfl rfl rfl ?_
    first | refine so_lenL rfl rfl rfl rfl rfl rfl Try.underlying49 ?_ | refine so_skip rfl rfl rfl ?_
    first | refine so_bin rfl rfl rfl rfl (by first | exact bin_neq_f (by first | rfl | assumption | omega) | exact bin_neq_t (by first | rfl | assumption | omega)) ?_ | refine so_skip rfl rfl rfl ?_
    first | refine so_pick_t rfl rfl rfl rfl ?_ | refine so_pick_f rfl rfl rfl rfl ?_
    refine so_then ?_
    refine sx_false rfl ?_
    refine sx_skip ?_
    refine sk_then ?_
    refine sx_seq ?_
    refine sx_region (E := E) ?_
    refine so_assign rfl rfl rfl ?_
    refine so_then ?_
    refine sx_block ?_
    refine sx_loop (σ := Nat) (fun m => bl.length - m) (fun m => [(0, .slice (some qx) l.length cx), (1, .slice (some qy) l.length cy), (5, .int .i64 ((s : Nat) : Int)), (6, .int .i64 ((m : Nat) : Int))]) (fun _ => S) (fun _ => A) (fun _ => []) (fun m => m ≤ bl.length) (0) (Nat.zero_le _) (by repeat (first | exact .nil | refine .cons rfl ?_)) rfl rfl (by repeat (first | exact List.nil_sublist _ | apply List.Sublist.cons_cons | apply List.Sublist.cons)) ?_
    intro m hJ2 t2
    refine sx_seq ?_
    refine sx_seq ?_
    rcases Nat.lt_or_ge m bl.length with hm | hm
    · skip
      obtain ⟨qb, us, d, rfl, ib, hcb, lb, kb⟩ := rb.at' m hm
      obtain ⟨qb2, vs, d2, rfl, ib2, hcb2, lb2, kb2⟩ := rb2.at' m hm
      rw [hcb] at hcb2; cases hcb2
      refine sx_region (E := E) ?_
      refine so_move rfl rfl rfl ?_
      refine so_move rfl rfl rfl ?_
      refine so_move rfl rfl rfl ?_
      first | refine so_indexO rfl rfl rfl rfl Try.underlying61 inf51 rfl (by omega) rfl ?_ | refine so_index rfl rfl rfl rfl Try.underlying61 inf51 rfl (by omega) ?_
      first | refine so_fieldO rfl rfl rfl Try.underlying51 rfl inf49 rfl rfl ?_ | refine so_fieldC rfl rfl rfl Try.underlying51 rfl inf49 rfl rfl ?_
      refine so_load rfl rfl rfl (by first | exact ld_own Try.underlying49 rfl (by repeat (first | exact List.Mem.head _ | apply List.Mem.tail)) (by first | exact cellsOf_get rfl | rfl) | exact ld_data Try.underlying49 rfl (by first | assumption | exact InA.add (by assumption) | exact InA.add (InA.add (by assumption))) (by assumption)) ?_
      refine so_lenL rfl rfl rfl rfl rfl rfl Try.underlying49 ?_
      refine so_bin rfl rfl rfl rfl (by first | exact bin_lss_t (by omega) | exact bin_lss_f (by omega)) ?_
      refine so_then ?_
      refine sx_true rfl ?_
      refine sx_skip ?_
      refine sk_then ?_
      refine sx_seq ?_
      refine sx_block ?_
      refine sx_seq ?_
      refine sx_draw (E := E) mixed [] _ (List.Sublist.refl _) (by kernel_rfl) (by kernel_rfl) (by decide) ?_
      refine so_move rfl rfl rfl ?_
      refine so_move rfl rfl rfl ?_
      first | refine so_indexO rfl rfl rfl rfl Try.underlying61 inf51 rfl (by omega) rfl ?_ | refine so_index rfl rfl rfl rfl Try.underlying61 inf51 rfl (by omega) ?_
      first | refine so_fieldO rfl rfl rfl Try.underlying51 rfl inf49 rfl rfl ?_ | refine so_fieldC rfl rfl rfl Try.underlying51 rfl inf49 rfl rfl ?_
      refine so_load rfl rfl rfl (by first | exact ld_own Try.underlying49 rfl (by repeat (first | exact List.Mem.head _ | apply List.Mem.tail)) (by first | exact cellsOf_get rfl | rfl) | exact ld_data Try.underlying49 rfl (by first | assumption | exact InA.add (by assumption) | exact InA.add (InA.add (by assumption))) (by assumption)) ?_
      refine so_move rfl rfl rfl ?_
      first | refine so_indexO rfl rfl rfl rfl Try.underlying49 inf79 rfl (by omega) rfl ?_ | refine so_index rfl rfl rfl rfl Try.underlying49 inf79 rfl (by omega) ?_
      refine so_load rfl rfl rfl (by first | exact ld_ownA Try.underlying79 rfl inf79 rfl (by repeat (first | exact List.Mem.head _ | apply List.Mem.tail)) (by first | exact cellsOf_le rfl | decide | omega) (by first | exact cellsOf_all | exact take_all rfl | exact cellsOf_part rfl | rfl) | exact ld_dataA Try.underlying79 rfl inf79 rfl (by first | assumption | exact InA.add (by assumption) | exact InA.add (InA.add (by assumption))) (by assumption)) ?_
      refine so_move rfl rfl rfl ?_
      refine so_move rfl rfl rfl ?_
      first | refine so_indexO rfl rfl rfl rfl Try.underlying61 inf51 rfl (by omega) rfl ?_ | refine so_index rfl rfl rfl rfl Try.underlying61 inf51 rfl (by omega) ?_
      first | refine so_fieldO rfl rfl rfl Try.underlying51 rfl inf49 rfl rfl ?_ | refine so_fieldC rfl rfl rfl Try.underlying51 rfl inf49 rfl rfl ?_
      refine so_load rfl rfl rfl (by first | exact ld_own Try.underlying49 rfl (by repeat (first | exact List.Mem.head _ | apply List.Mem.tail)) (by first | exact cellsOf_get rfl | rfl) | exact ld_data Try.underlying49 rfl (by first | assumption | exact InA.add (by assumption) | exact InA.add (InA.add (by assumption))) (by assumption)) ?_
      refine so_move rfl rfl rfl ?_
      first | refine so_indexO rfl rfl rfl rfl Try.underlying49 inf79 rfl (by omega) rfl ?_ | refine so_index rfl rfl rfl rfl Try.underlying49 inf79 rfl (by omega) ?_
      refine so_load rfl rfl rfl (by first | exact ld_ownA Try.underlying79 rfl inf79 rfl (by repeat (first | exact List.Mem.head _ | apply List.Mem.tail)) (by first | exact cellsOf_le rfl | decide | omega) (by first | exact cellsOf_all | exact take_all rfl | exact cellsOf_part rfl | rfl) | exact ld_dataA Try.underlying79 rfl inf79 rfl (by first | assumption | exact InA.add (by assumption) | exact InA.add (InA.add (by assumption))) (by assumption)) ?_
      refine so_bin rfl rfl rfl rfl (by first | exact (bin_aggsame Try.underlying79 rfl (by kernel_rfl) rfl kb kb2).2) ?_
      refine so_then ?_
      refine sx_false rfl ?_
      refine sx_skip ?_
      refine sk_block ?_
      refine sk_then ?_
      refine sx_region (E := E) ?_
      refine so_move rfl rfl rfl ?_
      refine so_bin rfl rfl rfl rfl (by first | exact bin_incr (by omega) | exact bin_add (wrap64 (by omega) (by omega)) | exact bin_add rfl) ?_
      refine so_assign rfl rfl rfl ?_
      refine so_nil ?_
      exact sk_round (m + 1) (show bl.length - (m + 1) < bl.length - m by omega) (show m + 1 ≤ bl.length by omega) (by repeat (first | exact .nil | refine .cons rfl ?_)) rfl rfl (by repeat (first | exact List.nil_sublist _ | apply List.Sublist.cons_cons | apply List.Sublist.cons))
    · skip
      refine sx_region (E := E) ?_
      refine so_move rfl rfl rfl ?_
      refine so_move rfl rfl rfl ?_
      refine so_move rfl rfl rfl ?_
      first | refine so_indexO rfl rfl rfl rfl Try.underlying61 inf51 rfl (by omega) rfl ?_ | refine so_index rfl rfl rfl rfl Try.underlying61 inf51 rfl (by omega) ?_
      first | refine so_fieldO rfl rfl rfl Try.underlying51 rfl inf49 rfl rfl ?_ | refine so_fieldC rfl rfl rfl Try.underlying51 rfl inf49 rfl rfl ?_
      refine so_load rfl rfl rfl (by first | exact ld_own Try.underlying49 rfl (by repeat (first | exact List.Mem.head _ | apply List.Mem.tail)) (by first | exact cellsOf_get rfl | rfl) | exact ld_data Try.underlying49 rfl (by first | assumption | exact InA.add (by assumption) | exact InA.add (InA.add (by assumption))) (by assumption)) ?_
      refine so_lenL rfl rfl rfl rfl rfl rfl Try.underlying49 ?_
      refine so_bin rfl rfl rfl rfl (by first | exact bin_lss_t (by omega) | exact bin_lss_f (by omega)) ?_
      refine so_then ?_
      refine sx_false rfl ?_
      refine sx_exit ?_
      refine sk_then_exit ?_
      refine sk_loop_exit ?_
      refine sk_block_exit ?_
      refine sk_block ?_
      refine sk_then ?_
      refine sx_region (E := E) ?_
      refine so_move rfl rfl rfl ?_
      refine so_bin rfl rfl rfl rfl (by first | exact bin_incr (by omega) | exact bin_add (wrap64 (by omega) (by omega)) | exact bin_add rfl) ?_
      refine so_assign rfl rfl rfl ?_
      refine so_nil ?_
      exact sk_round (s + 1) (show l.length - (s + 1) < l.length - s by omega) (show s + 1 ≤ l.length by omega) (by repeat (first | exact .nil | refine .cons rfl ?_)) rfl rfl (by repeat (first | exact List.nil_sublist _ | apply List.Sublist.cons_cons | apply List.Sublist.cons))
  · skip
    refine sx_region (E := E) ?_
    refine so_move rfl rfl rfl ?_
    refine so_move rfl rfl rfl ?_
    refine so_lenL rfl rfl rfl rfl rfl rfl Try.underlying61 ?_
    refine so_bin rfl rfl rfl rfl (by first | exact bin_lss_t (by omega) | exact bin_lss_f (by omega)) ?_
    refine so_then ?_
    refine sx_false rfl ?_
    refine sx_exit ?_
    refine sk_then_exit ?_
    refine sk_loop_exit ?_
    refine sk_block_exit ?_
    refine sk_then ?_
    refine sx_seq ?_
    refine sx_region (E := E) ?_
    refine so_assign rfl rfl rfl ?_
    refine so_then ?_
    refine sx_ret ?_
    refine sk_return1 (.tmp rfl .nil) ?_
    exact fun H hH => ⟨rfl, hH.kept⟩

end Go.Proofs.Ytaedeadgbojmnaa
