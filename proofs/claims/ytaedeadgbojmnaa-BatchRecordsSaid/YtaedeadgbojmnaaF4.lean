/-
  Walks, laid by program.
-/
import Derived.Test.YtaedeadgbojmnaaF3
set_option linter.unusedVariables false
set_option linter.unusedSimpArgs false
set_option maxRecDepth 100000
namespace Go.Proofs.Ytaedeadgbojmnaa
open Go Go.AM

theorem acts_snoc {A : Nat → Prop} {H : AH} {i : Nat} {cells : List Value} {x : Nat → Value} {r : List (List CT)} {c0 : List CT} (hcl : cells.length = i * 85) (hg : ∀ (j : Nat) (c : List CT), j < i → r[j]? = some c → CellsA A H k51 ((cells.drop (j * 85)).take 85) c) (hr : r[i]? = some c0) (h : CellsA A H k51 (cellsOf 85 x) c0) :
    ∀ (j : Nat) (c : List CT), j < i + 1 → r[j]? = some c → CellsA A H k51 (((cells ++ cellsOf 85 x).drop (j * 85)).take 85) c := by
  intro j c hj hc
  by_cases e : j = i
  · subst e
    rw [hr] at hc; cases hc
    rw [List.drop_append_of_le_length (by omega), List.drop_eq_nil_of_le (by omega), List.nil_append, List.take_of_length_le (by rw [cellsOf_length]; omega)]
    exact h
  · rw [List.drop_append_of_le_length (by omega), List.take_append_of_le_length (by rw [List.length_drop]; omega)]
    exact hg j c (by omega) hc
theorem acts_more {i : Nat} {cells : List Value} {x : Nat → Value} (hcl : cells.length = i * 85) : (cells ++ cellsOf 85 x).length = (i + 1) * 85 := by
  rw [List.length_append, cellsOf_length, hcl]; omega
set_option maxHeartbeats 2000000 in
theorem rrecord_ok {S : AH} {A : Nat → Prop} (hA : ∀ j, A j → j < S.nx) {x y : Value} {es bs : List (List CT)} (hx : CellA A S (.row 848 k48) x (.row es)) (hy : CellA A S (.row 24 [.row 32 k79]) y (.row bs)) : XCall Try.prog 12 [x, y] S (RecR es bs A S) := by
  obtain ⟨l2, ax, cx, e2, rfl, rx⟩ := hx.rowD
  cases e2
  obtain ⟨l2, ay, cy, e2, rfl, ry⟩ := hy.rowD
  cases e2
  have hb := rx.len
  have hb2 := rx.bytes
  have hb3 := ry.len
  refine x_enter (E := E) (n := 39) (rs := [.tmp 4, .tmp 5]) (l := [(1, _), (0, _)]) (fn_own Try.func12 rfl rfl rfl) hA rfl ?_
  refine sx_seq ?_
  refine sx_region (E := E) ?_
  refine so_assign rfl rfl rfl ?_
  refine so_assign rfl rfl rfl ?_
  refine so_then ?_
  refine sx_seq ?_
  refine sx_seq ?_
  by_cases heq : es.length = bs.length
  · skip
    refine sx_region (E := E) ?_
    refine so_move rfl rfl rfl ?_
    refine so_lenL rfl rfl rfl rfl rfl rfl Try.underlying59 ?_
    refine so_move rfl rfl rfl ?_
    refine so_lenL rfl rfl rfl rfl rfl rfl Try.underlying60 ?_
    refine so_bin rfl rfl rfl rfl (by first | exact bin_neq_f (by first | rfl | assumption | omega) | exact bin_neq_t (by first | rfl | assumption | omega)) ?_
    refine so_then ?_
    refine sx_false rfl ?_
    refine sx_skip ?_
    refine sk_then ?_
    refine sx_seq ?_
    refine sx_region (E := E) ?_
    refine so_buildSlice (out := []) (s := 85) rfl rfl (fun h => nomatch h) (by repeat (first | exact Opps.nil | apply Opps.cons rfl)) Try.underlying61 inf51 rfl rfl (by kernel_rfl) rfl rfl ?_
    intro N14
    refine so_assign rfl rfl rfl ?_
    refine so_then ?_
    refine sx_seq ?_
    refine sx_seq ?_
    refine sx_region (E := E) ?_
    refine so_assign rfl rfl rfl ?_
    refine so_then ?_
    refine sx_block ?_
    refine sx_loop (σ := Nat × Nat × List Value × Bool) (fun q => es.length - q.1) (fun q => [(0, .slice ax es.length cx), (1, .slice ay bs.length cy), (6, .slice (some ⟨2 * q.2.1 + 1, 0, none⟩) q.1 q.1), (7, .int .i64 ((q.1 : Nat) : Int))]) (fun _ => S) (fun _ => A) (fun q => [(q.2.1, .cells q.2.2.1 85 q.2.2.2)]) (fun q => q.1 ≤ es.length ∧ q.2.2.1.length = q.1 * 85 ∧ (∀ (j : Nat) (c : List CT), j < q.1 → (recs es bs)[j]? = some c → CellsA A S k51 ((q.2.2.1.drop (j * 85)).take 85) c)) ((0, N14, [], true)) (⟨Nat.zero_le _, rfl, fun j c h => absurd h (Nat.not_lt_zero _)⟩) (by repeat (first | exact .nil | refine .cons rfl ?_)) rfl rfl (by repeat (first | exact List.nil_sublist _ | apply List.Sublist.cons_cons | apply List.Sublist.cons)) ?_
    intro s hJ t1
    obtain ⟨i, M, cells, ex⟩ := s
    obtain ⟨hJ, hcl, hg⟩ := hJ
    dsimp only at hJ hcl hg ⊢
    refine sx_seq ?_
    refine sx_seq ?_
    rcases Nat.lt_or_ge i es.length with hk | hk
    · skip
      obtain ⟨qx, us, d, rfl, ix, hcx, lx, kx⟩ := rx.at' i hk
      obtain ⟨qy, vs, d2, rfl, iy, hcy, ly, ky⟩ := ry.at' i (by omega)
      obtain ⟨x0, c0, rfl, rfl, px0⟩ := kx.fn (n := 84) rfl
      obtain ⟨v0, rfl, ly1⟩ := aloads_one ly
      obtain ⟨b0, rfl, kb⟩ := one_cell ky
      obtain ⟨bl, ab, cb, rfl, rfl, rb⟩ := kb.rowD
      refine sx_region (E := E) ?_
      refine so_move rfl rfl rfl ?_
      refine so_move rfl rfl rfl ?_
      refine so_lenL rfl rfl rfl rfl rfl rfl Try.underlying59 ?_
      refine so_bin rfl rfl rfl rfl (by first | exact bin_lss_t (by omega) | exact bin_lss_f (by omega)) ?_
      refine so_then ?_
      refine sx_true rfl ?_
      refine sx_skip ?_
      refine sk_then ?_
      refine sx_seq ?_
      refine sx_block ?_
      refine sx_draw (E := E) mixed [10, 11] _ (List.sublist_cons_self _ _) (by kernel_rfl) (by kernel_rfl) (by decide) ?_
      refine so_move rfl rfl rfl ?_
      refine so_move rfl rfl rfl ?_
      refine so_move rfl rfl rfl ?_
      first | refine so_indexO rfl rfl rfl rfl Try.underlying59 inf48 rfl (by omega) rfl ?_ | refine so_index rfl rfl rfl rfl Try.underlying59 inf48 rfl (by omega) ?_
      refine so_load rfl rfl rfl (by first | exact ld_ownA Try.underlying48 rfl inf48 rfl (by repeat (first | exact List.Mem.head _ | apply List.Mem.tail)) (by first | exact cellsOf_le rfl | decide | omega) (by first | exact cellsOf_all | exact take_all rfl | exact cellsOf_part rfl | rfl) | exact ld_dataA Try.underlying48 rfl inf48 rfl (by first | assumption | exact InA.add (by assumption) | exact InA.add (InA.add (by assumption))) (by assumption)) ?_
      refine so_move rfl rfl rfl ?_
      refine so_move rfl rfl rfl ?_
      first | refine so_indexO rfl rfl rfl rfl Try.underlying60 inf49 rfl (by omega) rfl ?_ | refine so_index rfl rfl rfl rfl Try.underlying60 inf49 rfl (by omega) ?_
      refine so_load rfl rfl rfl (by first | exact ld_own Try.underlying49 rfl (by repeat (first | exact List.Mem.head _ | apply List.Mem.tail)) (by first | exact cellsOf_get rfl | rfl) | exact ld_data Try.underlying49 rfl (by first | assumption | exact InA.add (by assumption) | exact InA.add (InA.add (by assumption))) (by assumption)) ?_
      refine so_build rfl rfl (by repeat (first | exact Opps.nil | apply Opps.cons rfl)) (v := .agg ⟨(cellsOf 85 (upd1 x0 84 (.slice ab bl.length cb)))⟩) (by kernel_rfl) ?_
      refine so_buildSlice (out := (cellsOf 85 (upd1 x0 84 (.slice ab bl.length cb)))) (s := 85) rfl rfl (fun _ => (by repeat (first | exact List.Mem.head _ | apply List.Mem.tail))) (by repeat (first | exact Opps.nil | apply Opps.cons rfl)) Try.underlying61 inf51 rfl rfl (by kernel_rfl) rfl rfl ?_
      intro N31
      cases ex
      · skip
        first | (refine so_appNew (m := 1) (bt := 872) (sz := 85) rfl rfl (fun _ => (by repeat (first | exact List.Mem.head _ | apply List.Mem.tail))) rfl rfl rfl rfl rfl Try.underlying61 Try.underlying61 rfl inf51 rfl rfl (by decide) rfl (by decide) (first_own (List.Mem.head _) (by rw [cellsOf_length])) (.inr ⟨M, rfl, List.Mem.tail _ (List.Mem.head _), hcl⟩) (roomB_wide (by omega)) (by omega) rfl rfl ?_; intro M2) | (refine so_appOwn (m := 1) (bt := 872) (sz := 85) rfl rfl (fun _ => (by repeat (first | exact List.Mem.head _ | apply List.Mem.tail))) rfl rfl rfl rfl rfl Try.underlying61 Try.underlying61 rfl inf51 rfl rfl (by decide) rfl (by decide) (first_own (List.Mem.head _) (by rw [cellsOf_length])) (.succ .zero) hcl (CellsA.one (act_cells px0 kb)) (roomB_wide (by omega)) (by omega) rfl (fun _ => List.nil_sublist _) rfl ?_; intro M2)
        refine so_assign rfl rfl rfl ?_
        refine so_nil ?_
        refine sk_block ?_
        refine sk_then ?_
        refine sx_region (E := E) ?_
        refine so_move rfl rfl rfl ?_
        refine so_bin rfl rfl rfl rfl (by first | exact bin_incr (by omega) | exact bin_add (wrap64 (by omega) (by omega)) | exact bin_add rfl) ?_
        refine so_assign rfl rfl rfl ?_
        refine so_nil ?_
        exact sk_round (i + 1, M2, cells ++ (cellsOf 85 (upd1 x0 84 (.slice ab bl.length cb))), false) (show es.length - (i + 1) < es.length - i by omega) ⟨show i + 1 ≤ es.length by omega, acts_more hcl, acts_snoc hcl hg (recs_get hcx hcy) (act_cells px0 kb)⟩ (by repeat (first | exact .nil | refine .cons rfl ?_)) rfl rfl (by repeat (first | exact List.nil_sublist _ | apply List.Sublist.cons_cons | apply List.Sublist.cons))
      · skip
        first | (refine so_appNew (m := 1) (bt := 872) (sz := 85) rfl rfl (fun _ => (by repeat (first | exact List.Mem.head _ | apply List.Mem.tail))) rfl rfl rfl rfl rfl Try.underlying61 Try.underlying61 rfl inf51 rfl rfl (by decide) rfl (by decide) (first_own (List.Mem.head _) (by rw [cellsOf_length])) (.inr ⟨M, rfl, List.Mem.tail _ (List.Mem.head _), hcl⟩) (roomB_wide (by omega)) (by omega) rfl rfl ?_; intro M2) | (refine so_appOwn (m := 1) (bt := 872) (sz := 85) rfl rfl (fun _ => (by repeat (first | exact List.Mem.head _ | apply List.Mem.tail))) rfl rfl rfl rfl rfl Try.underlying61 Try.underlying61 rfl inf51 rfl rfl (by decide) rfl (by decide) (first_own (List.Mem.head _) (by rw [cellsOf_length])) (.succ .zero) hcl (CellsA.one (act_cells px0 kb)) (roomB_wide (by omega)) (by omega) rfl (fun _ => List.nil_sublist _) rfl ?_; intro M2)
        refine so_assign rfl rfl rfl ?_
        refine so_nil ?_
        refine sk_block ?_
        refine sk_then ?_
        refine sx_region (E := E) ?_
        refine so_move rfl rfl rfl ?_
        refine so_bin rfl rfl rfl rfl (by first | exact bin_incr (by omega) | exact bin_add (wrap64 (by omega) (by omega)) | exact bin_add rfl) ?_
        refine so_assign rfl rfl rfl ?_
        refine so_nil ?_
        exact sk_round (i + 1, M2, cells ++ (cellsOf 85 (upd1 x0 84 (.slice ab bl.length cb))), false) (show es.length - (i + 1) < es.length - i by omega) ⟨show i + 1 ≤ es.length by omega, acts_more hcl, acts_snoc hcl hg (recs_get hcx hcy) (act_cells px0 kb)⟩ (by repeat (first | exact .nil | refine .cons rfl ?_)) rfl rfl (by repeat (first | exact List.nil_sublist _ | apply List.Sublist.cons_cons | apply List.Sublist.cons))
    · skip
      refine sx_region (E := E) ?_
      refine so_move rfl rfl rfl ?_
      refine so_move rfl rfl rfl ?_
      refine so_lenL rfl rfl rfl rfl rfl rfl Try.underlying59 ?_
      refine so_bin rfl rfl rfl rfl (by first | exact bin_lss_t (by omega) | exact bin_lss_f (by omega)) ?_
      refine so_then ?_
      refine sx_false rfl ?_
      refine sx_exit ?_
      refine sk_then_exit ?_
      refine sk_loop_exit ?_
      refine sk_block_exit ?_
      refine sk_then ?_
      refine sx_seq ?_
      refine sx_seq ?_
      obtain rfl : i = es.length := by omega
      refine sx_freeze .zero ?_
      intro Hf Af gf hAf hgf
      have hrow : CellA Af Hf (.row 848 k51) (.slice (some ⟨2 * M + 1, 0, none⟩) es.length es.length) (.row (recs es bs)) := row_own hgf hAf rfl (recs_len heq).symm (by rw [recs_len heq, hcl]; exact Nat.le_refl _) (fun j c h => CellsA.gr gf _ _ _ (hg j c (by have := lt_of_getElem? h; rw [recs_len heq] at this; exact this) h)) (by rw [recs_len heq]; exact Nat.le_refl _) (by rw [recs_len heq]; exact rx.len) (by rw [recs_len heq]; exact rx.bytes)
      refine sx_region (E := E) ?_
      refine so_move rfl rfl rfl ?_
      refine so_call rfl rfl (fun h => nomatch h) rfl has18 (by repeat (first | exact Opvs.nil | apply Opvs.cons rfl)) (fun H hH => rcheck_ok hH.lt (CellA.gr hH.gr _ _ _ hrow)) ?_
      refine so_assign rfl rfl rfl ?_
      refine so_then ?_
      refine sx_seq ?_
      by_cases he : chkErr (recs es bs) = 0
      · skip
        refine sx_region (E := E) ?_
        refine so_move rfl rfl rfl ?_
        refine so_bin rfl rfl rfl rfl (by first | exact bin_neq_f (by first | rfl | assumption | omega) | exact bin_neq_t (by first | rfl | assumption | omega)) ?_
        refine so_then ?_
        refine sx_false rfl ?_
        refine sx_skip ?_
        refine sk_then ?_
        refine sx_seq ?_
        refine sx_region (E := E) ?_
        refine so_move rfl rfl rfl ?_
        refine so_assign rfl rfl rfl ?_
        refine so_assign rfl rfl rfl ?_
        refine so_then ?_
        refine sx_ret ?_
        refine sk_return2 (.tmp rfl (.tmp rfl .nil)) ?_
        exact fun H hH => recR_of hH (.ok heq he) hrow
      · skip
        refine sx_region (E := E) ?_
        refine so_move rfl rfl rfl ?_
        refine so_bin rfl rfl rfl rfl (by first | exact bin_neq_f (by first | rfl | assumption | omega) | exact bin_neq_t (by first | rfl | assumption | omega)) ?_
        refine so_then ?_
        refine sx_true rfl ?_
        refine sx_seq ?_
        refine sx_region (E := E) ?_
        refine so_move rfl rfl rfl ?_
        refine so_assign rfl rfl rfl ?_
        refine so_assign rfl rfl rfl ?_
        refine so_then ?_
        refine sx_ret ?_
        refine sk_then_ret ?_
        refine sk_return2 (.tmp rfl (.tmp rfl .nil)) ?_
        exact fun H hH => recR_of hH (.chk heq he) nil_acts
  · skip
    refine sx_region (E := E) ?_
    refine so_move rfl rfl rfl ?_
    refine so_lenL rfl rfl rfl rfl rfl rfl Try.underlying59 ?_
    refine so_move rfl rfl rfl ?_
    refine so_lenL rfl rfl rfl rfl rfl rfl Try.underlying60 ?_
    refine so_bin rfl rfl rfl rfl (by first | exact bin_neq_f (by first | rfl | assumption | omega) | exact bin_neq_t (by first | rfl | assumption | omega)) ?_
    refine so_then ?_
    refine sx_true rfl ?_
    refine sx_seq ?_
    refine sx_region (E := E) ?_
    refine so_assign rfl rfl rfl ?_
    refine so_assign rfl rfl rfl ?_
    refine so_then ?_
    refine sx_ret ?_
    refine sk_then_ret ?_
    refine sk_return2 (.tmp rfl (.tmp rfl .nil)) ?_
    exact fun H hH => recR_of hH (.len heq) nil_acts

end Go.Proofs.Ytaedeadgbojmnaa
