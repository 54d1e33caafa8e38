/-
  Walks, laid by program.
-/
import Derived.Test.YtaedeadgbojmnaaC4
set_option linter.unusedVariables false
set_option linter.unusedSimpArgs false
set_option maxRecDepth 100000
namespace Go.Proofs.Ytaedeadgbojmnaa
open Go Go.AM
set_option maxHeartbeats 1000000 in
theorem set_param0 {S : AH} {A : Nat → Prop} (hA : ∀ j, A j → j < S.nx) {x : Nat → Value} {c : Nat → CT} (px : Pts A S k48 x c) {v : Int} (hv : (Lit.int .i64 v).wf = true) {pl : List (List CT)} (epl : c 35 = .row pl) (hkk : 0 < pl.length) : XCall Try.prog 23 [.agg ⟨cellsOf 84 x⟩, .string ⟨⟨[112, 97, 114, 97, 109, 48]⟩⟩, .int .i64 v] S (SetR (upC c 35 (.row (pl.set 0 [numC v]))) A S) := by
  obtain ⟨pl2, ap, cp, ep, hp35, rp⟩ := (px 35 _ rfl).rowD
  rw [epl] at ep; cases ep
  have hpn := rp.len
  have hpb := rp.bytes
  obtain ⟨pv, hpv⟩ := row_vals rp
  refine x_enter (E := E) (n := 115) (rs := [.cell 6 48]) (l := [(2, _), (1, _), (0, _)]) (fn_own Try.func23 rfl rfl rfl) hA rfl ?_
  refine sx_seq ?_
  refine sx_region (E := E) ?_
  refine so_boxA rfl rfl (fun h => nomatch h) rfl ?_
  intro N3
  refine so_alloc (cs := (.int .i64 0 :: .int .i64 0 :: .int .i64 0 :: .int .i64 0 :: .int .i64 0 :: .int .i64 0 :: .string ⟨#[]⟩ :: .string ⟨#[]⟩ :: .int .i64 0 :: .int .i64 0 :: .int .i64 0 :: .string ⟨#[]⟩ :: .bool false :: .bool false :: .bool false :: .int .i64 0 :: .int .i64 0 :: .int .i64 0 :: .int .i64 0 :: .slice none 0 0 :: .int .i64 0 :: .int .i64 0 :: .int .i64 0 :: .int .i64 0 :: .int .i64 0 :: .int .i64 0 :: .int .i64 0 :: .int .i64 0 :: .int .i64 0 :: .slice none 0 0 :: .int .i64 0 :: .int .i64 0 :: .int .i64 0 :: .int .i64 0 :: .int .i64 0 :: .slice none 0 0 :: .int .i64 0 :: .slice none 0 0 :: .slice none 0 0 :: .int .i64 0 :: .int .i64 0 :: .int .i64 0 :: .int .i64 0 :: .string ⟨#[]⟩ :: .int .i64 0 :: .int .i64 0 :: .int .i64 0 :: .int .i64 0 :: .int .i64 0 :: .int .i64 0 :: .slice none 0 0 :: .int .i64 0 :: .int .i64 0 :: .slice none 0 0 :: .int .i64 0 :: .int .i64 0 :: .slice none 0 0 :: .int .i64 0 :: .int .i64 0 :: .int .i64 0 :: .int .i64 0 :: .int .i64 0 :: .int .i64 0 :: .int .i64 0 :: .int .i64 0 :: .int .i64 0 :: .int .i64 0 :: .int .i64 0 :: .int .i64 0 :: .int .i64 0 :: .int .i64 0 :: .slice none 0 0 :: .bool false :: .slice none 0 0 :: .int .i64 0 :: .int .i64 0 :: .int .i64 0 :: .int .i64 0 :: .int .i64 0 :: .int .i64 0 :: .int .i64 0 :: .int .i64 0 :: .int .i64 0 :: .int .i64 0 :: [])) rfl rfl (fun h => nomatch h) inf48 rfl rfl ?_
  intro N6
  refine so_then ?_
  refine sx_seq ?_
  refine sx_seq ?_
  refine sx_region (E := E) ?_
  refine so_move rfl rfl rfl ?_
  refine so_then ?_
  refine sx_block ?_
  refine sx_seq ?_
  refine sx_region (E := E) ?_
  refine so_bin rfl rfl rfl rfl (by first | exact bin_seql_t (by first | rfl | assumption | decide) | exact bin_seql_f (by first | rfl | assumption | decide)) ?_
  refine so_assign rfl rfl rfl ?_
  refine so_then ?_
  refine sx_false rfl ?_
  refine sx_seq ?_
  refine sx_region (E := E) ?_
  refine so_bin rfl rfl rfl rfl (by first | exact bin_seql_t (by first | rfl | assumption | decide) | exact bin_seql_f (by first | rfl | assumption | decide)) ?_
  refine so_assign rfl rfl rfl ?_
  refine so_then ?_
  refine sx_false rfl ?_
  refine sx_seq ?_
  refine sx_region (E := E) ?_
  refine so_bin rfl rfl rfl rfl (by first | exact bin_seql_t (by first | rfl | assumption | decide) | exact bin_seql_f (by first | rfl | assumption | decide)) ?_
  refine so_assign rfl rfl rfl ?_
  refine so_then ?_
  refine sx_false rfl ?_
  refine sx_seq ?_
  refine sx_region (E := E) ?_
  refine so_bin rfl rfl rfl rfl (by first | exact bin_seql_t (by first | rfl | assumption | decide) | exact bin_seql_f (by first | rfl | assumption | decide)) ?_
  refine so_assign rfl rfl rfl ?_
  refine so_then ?_
  refine sx_false rfl ?_
  refine sx_seq ?_
  refine sx_region (E := E) ?_
  refine so_bin rfl rfl rfl rfl (by first | exact bin_seql_t (by first | rfl | assumption | decide) | exact bin_seql_f (by first | rfl | assumption | decide)) ?_
  refine so_assign rfl rfl rfl ?_
  refine so_then ?_
  refine sx_false rfl ?_
  refine sx_seq ?_
  refine sx_region (E := E) ?_
  refine so_bin rfl rfl rfl rfl (by first | exact bin_seql_t (by first | rfl | assumption | decide) | exact bin_seql_f (by first | rfl | assumption | decide)) ?_
  refine so_assign rfl rfl rfl ?_
  refine so_then ?_
  refine sx_false rfl ?_
  refine sx_seq ?_
  refine sx_region (E := E) ?_
  refine so_bin rfl rfl rfl rfl (by first | exact bin_seql_t (by first | rfl | assumption | decide) | exact bin_seql_f (by first | rfl | assumption | decide)) ?_
  refine so_assign rfl rfl rfl ?_
  refine so_then ?_
  refine sx_false rfl ?_
  refine sx_seq ?_
  refine sx_region (E := E) ?_
  refine so_bin rfl rfl rfl rfl (by first | exact bin_seql_t (by first | rfl | assumption | decide) | exact bin_seql_f (by first | rfl | assumption | decide)) ?_
  refine so_assign rfl rfl rfl ?_
  refine so_then ?_
  refine sx_false rfl ?_
  refine sx_seq ?_
  refine sx_region (E := E) ?_
  refine so_bin rfl rfl rfl rfl (by first | exact bin_seql_t (by first | rfl | assumption | decide) | exact bin_seql_f (by first | rfl | assumption | decide)) ?_
  refine so_assign rfl rfl rfl ?_
  refine so_then ?_
  refine sx_false rfl ?_
  refine sx_seq ?_
  refine sx_region (E := E) ?_
  refine so_bin rfl rfl rfl rfl (by first | exact bin_seql_t (by first | rfl | assumption | decide) | exact bin_seql_f (by first | rfl | assumption | decide)) ?_
  refine so_assign rfl rfl rfl ?_
  refine so_then ?_
  refine sx_false rfl ?_
  refine sx_seq ?_
  refine sx_region (E := E) ?_
  refine so_bin rfl rfl rfl rfl (by first | exact bin_seql_t (by first | rfl | assumption | decide) | exact bin_seql_f (by first | rfl | assumption | decide)) ?_
  refine so_assign rfl rfl rfl ?_
  refine so_then ?_
  refine sx_false rfl ?_
  refine sx_seq ?_
  refine sx_region (E := E) ?_
  refine so_bin rfl rfl rfl rfl (by first | exact bin_seql_t (by first | rfl | assumption | decide) | exact bin_seql_f (by first | rfl | assumption | decide)) ?_
  refine so_assign rfl rfl rfl ?_
  refine so_then ?_
  refine sx_false rfl ?_
  refine sx_seq ?_
  refine sx_region (E := E) ?_
  refine so_bin rfl rfl rfl rfl (by first | exact bin_seql_t (by first | rfl | assumption | decide) | exact bin_seql_f (by first | rfl | assumption | decide)) ?_
  refine so_assign rfl rfl rfl ?_
  refine so_then ?_
  refine sx_false rfl ?_
  refine sx_seq ?_
  refine sx_region (E := E) ?_
  refine so_bin rfl rfl rfl rfl (by first | exact bin_seql_t (by first | rfl | assumption | decide) | exact bin_seql_f (by first | rfl | assumption | decide)) ?_
  refine so_assign rfl rfl rfl ?_
  refine so_then ?_
  refine sx_false rfl ?_
  refine sx_seq ?_
  refine sx_region (E := E) ?_
  refine so_bin rfl rfl rfl rfl (by first | exact bin_seql_t (by first | rfl | assumption | decide) | exact bin_seql_f (by first | rfl | assumption | decide)) ?_
  refine so_assign rfl rfl rfl ?_
  refine so_then ?_
  refine sx_false rfl ?_
  refine sx_seq ?_
  refine sx_region (E := E) ?_
  refine so_bin rfl rfl rfl rfl (by first | exact bin_seql_t (by first | rfl | assumption | decide) | exact bin_seql_f (by first | rfl | assumption | decide)) ?_
  refine so_assign rfl rfl rfl ?_
  refine so_then ?_
  refine sx_false rfl ?_
  refine sx_seq ?_
  refine sx_region (E := E) ?_
  refine so_buildSlice (out := cellsOf 0 (fun i => if i = 0 then .int .i64 v else pv i)) rfl rfl (fun h => nomatch h) (by repeat (first | exact Opps.nil | apply Opps.cons rfl)) Try.underlying22 inf3 rfl rfl (by kernel_rfl) rfl rfl ?_
  intro N10
  refine so_assign rfl rfl rfl ?_
  refine so_then ?_
  refine sx_seq ?_
  refine sx_seq ?_
  refine sx_region (E := E) ?_
  refine so_assign rfl rfl rfl ?_
  refine so_then ?_
  refine sx_block ?_
  refine sx_loop (σ := Nat × Nat × Bool) (fun q => pl.length - q.1) (fun q => [(1, .string ⟨⟨[112, 97, 114, 97, 109, 48]⟩⟩), (2, .int .i64 v), (3, .pointer (some ⟨2 * N3 + 1, 0, none⟩)), (6, .pointer (some ⟨2 * N6 + 1, 0, none⟩)), (7, .slice (some ⟨2 * q.2.1 + 1, 0, none⟩) q.1 q.1), (8, .int .i64 ((q.1 : Nat) : Int))]) (fun _ => S) (fun _ => A) (fun q => [(q.2.1, .cells (cellsOf q.1 (fun i => if i = 0 then .int .i64 v else pv i)) 1 q.2.2), (N6, .cells (.int .i64 0 :: .int .i64 0 :: .int .i64 0 :: .int .i64 0 :: .int .i64 0 :: .int .i64 0 :: .string ⟨#[]⟩ :: .string ⟨#[]⟩ :: .int .i64 0 :: .int .i64 0 :: .int .i64 0 :: .string ⟨#[]⟩ :: .bool false :: .bool false :: .bool false :: .int .i64 0 :: .int .i64 0 :: .int .i64 0 :: .int .i64 0 :: .slice none 0 0 :: .int .i64 0 :: .int .i64 0 :: .int .i64 0 :: .int .i64 0 :: .int .i64 0 :: .int .i64 0 :: .int .i64 0 :: .int .i64 0 :: .int .i64 0 :: .slice none 0 0 :: .int .i64 0 :: .int .i64 0 :: .int .i64 0 :: .int .i64 0 :: .int .i64 0 :: .slice none 0 0 :: .int .i64 0 :: .slice none 0 0 :: .slice none 0 0 :: .int .i64 0 :: .int .i64 0 :: .int .i64 0 :: .int .i64 0 :: .string ⟨#[]⟩ :: .int .i64 0 :: .int .i64 0 :: .int .i64 0 :: .int .i64 0 :: .int .i64 0 :: .int .i64 0 :: .slice none 0 0 :: .int .i64 0 :: .int .i64 0 :: .slice none 0 0 :: .int .i64 0 :: .int .i64 0 :: .slice none 0 0 :: .int .i64 0 :: .int .i64 0 :: .int .i64 0 :: .int .i64 0 :: .int .i64 0 :: .int .i64 0 :: .int .i64 0 :: .int .i64 0 :: .int .i64 0 :: .int .i64 0 :: .int .i64 0 :: .int .i64 0 :: .int .i64 0 :: .int .i64 0 :: .slice none 0 0 :: .bool false :: .slice none 0 0 :: .int .i64 0 :: .int .i64 0 :: .int .i64 0 :: .int .i64 0 :: .int .i64 0 :: .int .i64 0 :: .int .i64 0 :: .int .i64 0 :: .int .i64 0 :: .int .i64 0 :: []) (boxsz E 48) true), (N3, .cells (cellsOf 84 x) (boxsz E 48) true)]) (fun q => q.1 ≤ pl.length) ((0, N10, true)) (Nat.zero_le _) (by repeat (first | exact .nil | refine .cons rfl ?_)) rfl rfl (by repeat (first | exact List.nil_sublist _ | apply List.Sublist.cons_cons | apply List.Sublist.cons)) ?_
  intro s hJ t1
  obtain ⟨k, M, ex⟩ := s
  replace hJ : k ≤ pl.length := hJ
  dsimp only
  refine sx_seq ?_
  refine sx_seq ?_
  rcases Nat.lt_or_ge k pl.length with hk | hk
  · skip
    obtain ⟨qa, us, d, rfl, ia, hc, la, ka⟩ := rp.at' k hk
    obtain ⟨x0, rfl, la1⟩ := aloads_one la
    have hx0 : x0 = pv k := hpv k x0 hk ⟨_, rfl, la1⟩
    obtain ⟨n0, rfl⟩ := row_int ka
    refine sx_region (E := E) ?_
    refine so_move rfl rfl rfl ?_
    refine so_fieldO (o' := 8) rfl rfl rfl Try.underlying48 rfl inf38 rfl rfl ?_
    refine so_fieldO (o' := 35) rfl rfl rfl Try.underlying38 rfl inf22 rfl rfl ?_
    refine so_load rfl rfl rfl (by first | exact ld_own Try.underlying22 rfl (by repeat (first | exact List.Mem.head _ | apply List.Mem.tail)) (by first | exact (cellsOf_get rfl).trans (congrArg some hp35) | exact cellsOf_get rfl | rfl) | exact ld_data Try.underlying22 rfl (by first | assumption | exact InA.add (by assumption) | exact InA.add (InA.add (by assumption))) (by assumption)) ?_
    refine so_lenL rfl rfl rfl rfl rfl rfl Try.underlying22 ?_
    refine so_bin rfl rfl rfl rfl (by first | exact bin_lss_t (by omega) | exact bin_lss_f (by omega)) ?_
    refine so_then ?_
    refine sx_true rfl ?_
    refine sx_skip ?_
    refine sk_then ?_
    refine sx_seq ?_
    refine sx_block ?_
    refine sx_seq ?_
    by_cases hek : k = 0
    · skip
      refine sx_region (E := E) ?_
      refine so_move rfl rfl rfl ?_
      refine so_move rfl rfl rfl ?_
      refine so_call rfl rfl (fun h => nomatch h) rfl has40 (by repeat (first | exact Opvs.nil | apply Opvs.cons rfl)) (fun H hH => (pindex_ok ⟨⟨[112, 97, 114, 97, 109, 48]⟩⟩).i (b' := ((0 : Nat) : Int)) (by decide)) ?_
      refine so_bin rfl rfl rfl rfl (by first | exact bin_eql_t (by omega) | exact bin_eql_f (by omega) | exact bin_eql_t (by first | rfl | assumption | omega) | exact bin_eql_f (by first | rfl | assumption | omega)) ?_
      refine so_then ?_
      refine sx_true rfl ?_
      refine sx_region (E := E) ?_
      refine so_move rfl rfl rfl ?_
      refine so_move rfl rfl rfl ?_
      refine so_buildSlice (out := [.int .i64 v]) rfl rfl (fun h => nomatch h) (by repeat (first | exact Opps.nil | apply Opps.cons rfl)) Try.underlying22 inf3 rfl rfl (by kernel_rfl) rfl rfl ?_
      intro N25
      cases ex
      · skip
        first | (refine so_appNew (m := 1) (bt := 8) rfl rfl (fun h => nomatch h) rfl rfl rfl rfl rfl Try.underlying22 Try.underlying22 rfl inf3 rfl rfl (by decide) rfl (by decide) (first_own (List.Mem.head _) rfl) (.inr ⟨M, rfl, List.Mem.tail _ (List.Mem.head _), by rw [cellsOf_length, Nat.mul_one]⟩) (by omega) (by omega) (cellsOf_snoc (by rw [if_pos hek])) rfl ?_; intro M2) | (refine so_appOwn (m := 1) (bt := 8) rfl rfl (fun h => nomatch h) rfl rfl rfl rfl rfl Try.underlying22 Try.underlying22 rfl inf3 rfl rfl (by decide) rfl (by decide) (first_own (List.Mem.head _) rfl) (.succ .zero) (by rw [cellsOf_length, Nat.mul_one]) rfl (by omega) (by omega) (cellsOf_snoc (by rw [if_pos hek])) (fun h => nomatch h) rfl ?_; intro M2)
        refine so_assign rfl rfl rfl ?_
        refine so_nil ?_
        refine sk_block ?_
        refine sk_then ?_
        refine sx_region (E := E) ?_
        refine so_move rfl rfl rfl ?_
        refine so_bin rfl rfl rfl rfl (by first | exact bin_incr (by omega) | exact bin_add (wrap64 (by omega) (by omega)) | exact bin_add rfl) ?_
        refine so_assign rfl rfl rfl ?_
        refine so_nil ?_
        exact sk_round (k + 1, M2, false) (show pl.length - (k + 1) < pl.length - k by omega) (show k + 1 ≤ pl.length by omega) (by repeat (first | exact .nil | refine .cons rfl ?_)) rfl rfl (by repeat (first | exact List.nil_sublist _ | apply List.Sublist.cons_cons | apply List.Sublist.cons))
      · skip
        first | (refine so_appNew (m := 1) (bt := 8) rfl rfl (fun h => nomatch h) rfl rfl rfl rfl rfl Try.underlying22 Try.underlying22 rfl inf3 rfl rfl (by decide) rfl (by decide) (first_own (List.Mem.head _) rfl) (.inr ⟨M, rfl, List.Mem.tail _ (List.Mem.head _), by rw [cellsOf_length, Nat.mul_one]⟩) (by omega) (by omega) (cellsOf_snoc (by rw [if_pos hek])) rfl ?_; intro M2) | (refine so_appOwn (m := 1) (bt := 8) rfl rfl (fun h => nomatch h) rfl rfl rfl rfl rfl Try.underlying22 Try.underlying22 rfl inf3 rfl rfl (by decide) rfl (by decide) (first_own (List.Mem.head _) rfl) (.succ .zero) (by rw [cellsOf_length, Nat.mul_one]) rfl (by omega) (by omega) (cellsOf_snoc (by rw [if_pos hek])) (fun h => nomatch h) rfl ?_; intro M2)
        refine so_assign rfl rfl rfl ?_
        refine so_nil ?_
        refine sk_block ?_
        refine sk_then ?_
        refine sx_region (E := E) ?_
        refine so_move rfl rfl rfl ?_
        refine so_bin rfl rfl rfl rfl (by first | exact bin_incr (by omega) | exact bin_add (wrap64 (by omega) (by omega)) | exact bin_add rfl) ?_
        refine so_assign rfl rfl rfl ?_
        refine so_nil ?_
        exact sk_round (k + 1, M2, false) (show pl.length - (k + 1) < pl.length - k by omega) (show k + 1 ≤ pl.length by omega) (by repeat (first | exact .nil | refine .cons rfl ?_)) rfl rfl (by repeat (first | exact List.nil_sublist _ | apply List.Sublist.cons_cons | apply List.Sublist.cons))
    · skip
      refine sx_region (E := E) ?_
      refine so_move rfl rfl rfl ?_
      refine so_move rfl rfl rfl ?_
      refine so_call rfl rfl (fun h => nomatch h) rfl has40 (by repeat (first | exact Opvs.nil | apply Opvs.cons rfl)) (fun H hH => (pindex_ok ⟨⟨[112, 97, 114, 97, 109, 48]⟩⟩).i (b' := ((0 : Nat) : Int)) (by decide)) ?_
      refine so_bin rfl rfl rfl rfl (by first | exact bin_eql_t (by omega) | exact bin_eql_f (by omega) | exact bin_eql_t (by first | rfl | assumption | omega) | exact bin_eql_f (by first | rfl | assumption | omega)) ?_
      refine so_then ?_
      refine sx_false rfl ?_
      refine sx_region (E := E) ?_
      refine so_move rfl rfl rfl ?_
      refine so_fieldO (o' := 8) rfl rfl rfl Try.underlying48 rfl inf38 rfl rfl ?_
      refine so_fieldO (o' := 35) rfl rfl rfl Try.underlying38 rfl inf22 rfl rfl ?_
      refine so_load rfl rfl rfl (by first | exact ld_own Try.underlying22 rfl (by repeat (first | exact List.Mem.head _ | apply List.Mem.tail)) (by first | exact (cellsOf_get rfl).trans (congrArg some hp35) | exact cellsOf_get rfl | rfl) | exact ld_data Try.underlying22 rfl (by first | assumption | exact InA.add (by assumption) | exact InA.add (InA.add (by assumption))) (by assumption)) ?_
      refine so_move rfl rfl rfl ?_
      first | refine so_indexO rfl rfl rfl rfl Try.underlying22 inf3 rfl (by omega) rfl ?_ | refine so_index rfl rfl rfl rfl Try.underlying22 inf3 rfl (by omega) ?_
      refine so_load rfl rfl rfl (by first | exact ld_own Try.underlying3 rfl (by repeat (first | exact List.Mem.head _ | apply List.Mem.tail)) (by first | exact (cellsOf_get rfl).trans (congrArg some hp35) | exact cellsOf_get rfl | rfl) | exact ld_data Try.underlying3 rfl (by first | assumption | exact InA.add (by assumption) | exact InA.add (InA.add (by assumption))) (by assumption)) ?_
      refine so_buildSlice (out := [.int .i64 n0]) rfl rfl (fun h => nomatch h) (by repeat (first | exact Opps.nil | apply Opps.cons rfl)) Try.underlying22 inf3 rfl rfl (by kernel_rfl) rfl rfl ?_
      intro N34
      cases ex
      · skip
        first | (refine so_appNew (m := 1) (bt := 8) rfl rfl (fun h => nomatch h) rfl rfl rfl rfl rfl Try.underlying22 Try.underlying22 rfl inf3 rfl rfl (by decide) rfl (by decide) (first_own (List.Mem.head _) rfl) (.inr ⟨M, rfl, List.Mem.tail _ (List.Mem.head _), by rw [cellsOf_length, Nat.mul_one]⟩) (by omega) (by omega) (cellsOf_snoc (by rw [if_neg hek]; exact hx0)) rfl ?_; intro M2) | (refine so_appOwn (m := 1) (bt := 8) rfl rfl (fun h => nomatch h) rfl rfl rfl rfl rfl Try.underlying22 Try.underlying22 rfl inf3 rfl rfl (by decide) rfl (by decide) (first_own (List.Mem.head _) rfl) (.succ .zero) (by rw [cellsOf_length, Nat.mul_one]) rfl (by omega) (by omega) (cellsOf_snoc (by rw [if_neg hek]; exact hx0)) (fun h => nomatch h) rfl ?_; intro M2)
        refine so_assign rfl rfl rfl ?_
        refine so_nil ?_
        refine sk_block ?_
        refine sk_then ?_
        refine sx_region (E := E) ?_
        refine so_move rfl rfl rfl ?_
        refine so_bin rfl rfl rfl rfl (by first | exact bin_incr (by omega) | exact bin_add (wrap64 (by omega) (by omega)) | exact bin_add rfl) ?_
        refine so_assign rfl rfl rfl ?_
        refine so_nil ?_
        exact sk_round (k + 1, M2, false) (show pl.length - (k + 1) < pl.length - k by omega) (show k + 1 ≤ pl.length by omega) (by repeat (first | exact .nil | refine .cons rfl ?_)) rfl rfl (by repeat (first | exact List.nil_sublist _ | apply List.Sublist.cons_cons | apply List.Sublist.cons))
      · skip
        first | (refine so_appNew (m := 1) (bt := 8) rfl rfl (fun h => nomatch h) rfl rfl rfl rfl rfl Try.underlying22 Try.underlying22 rfl inf3 rfl rfl (by decide) rfl (by decide) (first_own (List.Mem.head _) rfl) (.inr ⟨M, rfl, List.Mem.tail _ (List.Mem.head _), by rw [cellsOf_length, Nat.mul_one]⟩) (by omega) (by omega) (cellsOf_snoc (by rw [if_neg hek]; exact hx0)) rfl ?_; intro M2) | (refine so_appOwn (m := 1) (bt := 8) rfl rfl (fun h => nomatch h) rfl rfl rfl rfl rfl Try.underlying22 Try.underlying22 rfl inf3 rfl rfl (by decide) rfl (by decide) (first_own (List.Mem.head _) rfl) (.succ .zero) (by rw [cellsOf_length, Nat.mul_one]) rfl (by omega) (by omega) (cellsOf_snoc (by rw [if_neg hek]; exact hx0)) (fun h => nomatch h) rfl ?_; intro M2)
        refine so_assign rfl rfl rfl ?_
        refine so_nil ?_
        refine sk_block ?_
        refine sk_then ?_
        refine sx_region (E := E) ?_
        refine so_move rfl rfl rfl ?_
        refine so_bin rfl rfl rfl rfl (by first | exact bin_incr (by omega) | exact bin_add (wrap64 (by omega) (by omega)) | exact bin_add rfl) ?_
        refine so_assign rfl rfl rfl ?_
        refine so_nil ?_
        exact sk_round (k + 1, M2, false) (show pl.length - (k + 1) < pl.length - k by omega) (show k + 1 ≤ pl.length by omega) (by repeat (first | exact .nil | refine .cons rfl ?_)) rfl rfl (by repeat (first | exact List.nil_sublist _ | apply List.Sublist.cons_cons | apply List.Sublist.cons))
  · skip
    obtain rfl : k = pl.length := by omega
    refine sx_region (E := E) ?_
    refine so_move rfl rfl rfl ?_
    refine so_fieldO (o' := 8) rfl rfl rfl Try.underlying48 rfl inf38 rfl rfl ?_
    refine so_fieldO (o' := 35) rfl rfl rfl Try.underlying38 rfl inf22 rfl rfl ?_
    refine so_load rfl rfl rfl (by first | exact ld_own Try.underlying22 rfl (by repeat (first | exact List.Mem.head _ | apply List.Mem.tail)) (by first | exact (cellsOf_get rfl).trans (congrArg some hp35) | exact cellsOf_get rfl | rfl) | exact ld_data Try.underlying22 rfl (by first | assumption | exact InA.add (by assumption) | exact InA.add (InA.add (by assumption))) (by assumption)) ?_
    refine so_lenL rfl rfl rfl rfl rfl rfl Try.underlying22 ?_
    refine so_bin rfl rfl rfl rfl (by first | exact bin_lss_t (by omega) | exact bin_lss_f (by omega)) ?_
    refine so_then ?_
    refine sx_false rfl ?_
    refine sx_exit ?_
    refine sk_then_exit ?_
    refine sk_loop_exit ?_
    refine sk_block_exit ?_
    refine sk_then ?_
    refine sx_region (E := E) ?_
    refine so_move rfl rfl rfl ?_
    refine so_fieldO (o' := 8) rfl rfl rfl Try.underlying48 rfl inf38 rfl rfl ?_
    refine so_fieldO (o' := 35) rfl rfl rfl Try.underlying38 rfl inf22 rfl rfl ?_
    refine so_storeS rfl (fun h => nomatch h) rfl rfl inf22 rfl rfl (by repeat (first | exact .zero | apply Upd.succ)) (by first | exact cellsOf_set rfl | exact cellsOf_setr rfl | exact cellsOf_store rfl | exact store_all rfl | rfl) (by first | exact cellsOf_in rfl rfl | exact cellsOf_in rfl (cellsOf_length _ _) | exact cellsOf_le rfl | exact Nat.le_of_ble_eq_true rfl | omega) (fun h => nomatch h) ?_
    refine so_nil ?_
    refine sk_block ?_
    refine sk_then ?_
    refine sx_seq ?_
    refine sx_freeze .zero ?_
    intro Hf Af gf hAf hgf
    have py := pts_up (px.gr gf) (o := 35) (k := .row 8 [.int .i64]) (d := .row (pl.set 0 [numC v])) (v := .slice (some ⟨2 * M + 1, 0, none⟩) pl.length pl.length) rfl (set_row hgf hAf rp hpv hv hpn hpb)
    refine sx_region (E := E) ?_
    refine so_load rfl rfl rfl (by first | exact ld_ownA Try.underlying48 rfl inf48 rfl (by repeat (first | exact List.Mem.head _ | apply List.Mem.tail)) (by first | exact cellsOf_le rfl | decide | omega) (by first | exact cellsOf_all | exact cellsOf_part rfl | rfl) | exact ld_dataA Try.underlying48 rfl inf48 rfl (by first | assumption | exact InA.add (by assumption) | exact InA.add (InA.add (by assumption))) (by assumption)) ?_
    refine so_storeA rfl (fun h => nomatch h) rfl rfl inf48 (by first | exact cellsOf_length _ _ | rfl) (CellsA.one (py.cells (n := 84) rfl)) (by repeat (first | exact .zero | apply Upd.succ)) (by first | exact cellsOf_set rfl | exact cellsOf_setr rfl | exact cellsOf_store rfl | exact store_all rfl | rfl) (by first | exact cellsOf_in rfl rfl | exact cellsOf_in rfl (cellsOf_length _ _) | exact cellsOf_le rfl | exact Nat.le_of_ble_eq_true rfl | omega) (fun h => nomatch h) ?_
    refine so_then ?_
    refine sx_ret ?_
    refine sk_return1 (.cell rfl (by first | exact ld_ownA Try.underlying48 rfl inf48 rfl (by repeat (first | exact List.Mem.head _ | apply List.Mem.tail)) (by first | exact cellsOf_le rfl | decide | omega) (by first | exact cellsOf_all | exact cellsOf_part rfl | rfl) | exact ld_dataA Try.underlying48 rfl inf48 rfl (by first | assumption | exact InA.add (by assumption) | exact InA.add (InA.add (by assumption))) (by assumption)) .nil) ?_
    exact fun H hH => setR_of hH py

set_option maxHeartbeats 1000000 in
theorem set_param1 {S : AH} {A : Nat → Prop} (hA : ∀ j, A j → j < S.nx) {x : Nat → Value} {c : Nat → CT} (px : Pts A S k48 x c) {v : Int} (hv : (Lit.int .i64 v).wf = true) {pl : List (List CT)} (epl : c 35 = .row pl) (hkk : 1 < pl.length) : XCall Try.prog 23 [.agg ⟨cellsOf 84 x⟩, .string ⟨⟨[112, 97, 114, 97, 109, 49]⟩⟩, .int .i64 v] S (SetR (upC c 35 (.row (pl.set 1 [numC v]))) A S) := by
  obtain ⟨pl2, ap, cp, ep, hp35, rp⟩ := (px 35 _ rfl).rowD
  rw [epl] at ep; cases ep
  have hpn := rp.len
  have hpb := rp.bytes
  obtain ⟨pv, hpv⟩ := row_vals rp
  refine x_enter (E := E) (n := 115) (rs := [.cell 6 48]) (l := [(2, _), (1, _), (0, _)]) (fn_own Try.func23 rfl rfl rfl) hA rfl ?_
  refine sx_seq ?_
  refine sx_region (E := E) ?_
  refine so_boxA rfl rfl (fun h => nomatch h) rfl ?_
  intro N3
  refine so_alloc (cs := (.int .i64 0 :: .int .i64 0 :: .int .i64 0 :: .int .i64 0 :: .int .i64 0 :: .int .i64 0 :: .string ⟨#[]⟩ :: .string ⟨#[]⟩ :: .int .i64 0 :: .int .i64 0 :: .int .i64 0 :: .string ⟨#[]⟩ :: .bool false :: .bool false :: .bool false :: .int .i64 0 :: .int .i64 0 :: .int .i64 0 :: .int .i64 0 :: .slice none 0 0 :: .int .i64 0 :: .int .i64 0 :: .int .i64 0 :: .int .i64 0 :: .int .i64 0 :: .int .i64 0 :: .int .i64 0 :: .int .i64 0 :: .int .i64 0 :: .slice none 0 0 :: .int .i64 0 :: .int .i64 0 :: .int .i64 0 :: .int .i64 0 :: .int .i64 0 :: .slice none 0 0 :: .int .i64 0 :: .slice none 0 0 :: .slice none 0 0 :: .int .i64 0 :: .int .i64 0 :: .int .i64 0 :: .int .i64 0 :: .string ⟨#[]⟩ :: .int .i64 0 :: .int .i64 0 :: .int .i64 0 :: .int .i64 0 :: .int .i64 0 :: .int .i64 0 :: .slice none 0 0 :: .int .i64 0 :: .int .i64 0 :: .slice none 0 0 :: .int .i64 0 :: .int .i64 0 :: .slice none 0 0 :: .int .i64 0 :: .int .i64 0 :: .int .i64 0 :: .int .i64 0 :: .int .i64 0 :: .int .i64 0 :: .int .i64 0 :: .int .i64 0 :: .int .i64 0 :: .int .i64 0 :: .int .i64 0 :: .int .i64 0 :: .int .i64 0 :: .int .i64 0 :: .slice none 0 0 :: .bool false :: .slice none 0 0 :: .int .i64 0 :: .int .i64 0 :: .int .i64 0 :: .int .i64 0 :: .int .i64 0 :: .int .i64 0 :: .int .i64 0 :: .int .i64 0 :: .int .i64 0 :: .int .i64 0 :: [])) rfl rfl (fun h => nomatch h) inf48 rfl rfl ?_
  intro N6
  refine so_then ?_
  refine sx_seq ?_
  refine sx_seq ?_
  refine sx_region (E := E) ?_
  refine so_move rfl rfl rfl ?_
  refine so_then ?_
  refine sx_block ?_
  refine sx_seq ?_
  refine sx_region (E := E) ?_
  refine so_bin rfl rfl rfl rfl (by first | exact bin_seql_t (by first | rfl | assumption | decide) | exact bin_seql_f (by first | rfl | assumption | decide)) ?_
  refine so_assign rfl rfl rfl ?_
  refine so_then ?_
  refine sx_false rfl ?_
  refine sx_seq ?_
  refine sx_region (E := E) ?_
  refine so_bin rfl rfl rfl rfl (by first | exact bin_seql_t (by first | rfl | assumption | decide) | exact bin_seql_f (by first | rfl | assumption | decide)) ?_
  refine so_assign rfl rfl rfl ?_
  refine so_then ?_
  refine sx_false rfl ?_
  refine sx_seq ?_
  refine sx_region (E := E) ?_
  refine so_bin rfl rfl rfl rfl (by first | exact bin_seql_t (by first | rfl | assumption | decide) | exact bin_seql_f (by first | rfl | assumption | decide)) ?_
  refine so_assign rfl rfl rfl ?_
  refine so_then ?_
  refine sx_false rfl ?_
  refine sx_seq ?_
  refine sx_region (E := E) ?_
  refine so_bin rfl rfl rfl rfl (by first | exact bin_seql_t (by first | rfl | assumption | decide) | exact bin_seql_f (by first | rfl | assumption | decide)) ?_
  refine so_assign rfl rfl rfl ?_
  refine so_then ?_
  refine sx_false rfl ?_
  refine sx_seq ?_
  refine sx_region (E := E) ?_
  refine so_bin rfl rfl rfl rfl (by first | exact bin_seql_t (by first | rfl | assumption | decide) | exact bin_seql_f (by first | rfl | assumption | decide)) ?_
  refine so_assign rfl rfl rfl ?_
  refine so_then ?_
  refine sx_false rfl ?_
  refine sx_seq ?_
  refine sx_region (E := E) ?_
  refine so_bin rfl rfl rfl rfl (by first | exact bin_seql_t (by first | rfl | assumption | decide) | exact bin_seql_f (by first | rfl | assumption | decide)) ?_
  refine so_assign rfl rfl rfl ?_
  refine so_then ?_
  refine sx_false rfl ?_
  refine sx_seq ?_
  refine sx_region (E := E) ?_
  refine so_bin rfl rfl rfl rfl (by first | exact bin_seql_t (by first | rfl | assumption | decide) | exact bin_seql_f (by first | rfl | assumption | decide)) ?_
  refine so_assign rfl rfl rfl ?_
  refine so_then ?_
  refine sx_false rfl ?_
  refine sx_seq ?_
  refine sx_region (E := E) ?_
  refine so_bin rfl rfl rfl rfl (by first | exact bin_seql_t (by first | rfl | assumption | decide) | exact bin_seql_f (by first | rfl | assumption | decide)) ?_
  refine so_assign rfl rfl rfl ?_
  refine so_then ?_
  refine sx_false rfl ?_
  refine sx_seq ?_
  refine sx_region (E := E) ?_
  refine so_bin rfl rfl rfl rfl (by first | exact bin_seql_t (by first | rfl | assumption | decide) | exact bin_seql_f (by first | rfl | assumption | decide)) ?_
  refine so_assign rfl rfl rfl ?_
  refine so_then ?_
  refine sx_false rfl ?_
  refine sx_seq ?_
  refine sx_region (E := E) ?_
  refine so_bin rfl rfl rfl rfl (by first | exact bin_seql_t (by first | rfl | assumption | decide) | exact bin_seql_f (by first | rfl | assumption | decide)) ?_
  refine so_assign rfl rfl rfl ?_
  refine so_then ?_
  refine sx_false rfl ?_
  refine sx_seq ?_
  refine sx_region (E := E) ?_
  refine so_bin rfl rfl rfl rfl (by first | exact bin_seql_t (by first | rfl | assumption | decide) | exact bin_seql_f (by first | rfl | assumption | decide)) ?_
  refine so_assign rfl rfl rfl ?_
  refine so_then ?_
  refine sx_false rfl ?_
  refine sx_seq ?_
  refine sx_region (E := E) ?_
  refine so_bin rfl rfl rfl rfl (by first | exact bin_seql_t (by first | rfl | assumption | decide) | exact bin_seql_f (by first | rfl | assumption | decide)) ?_
  refine so_assign rfl rfl rfl ?_
  refine so_then ?_
  refine sx_false rfl ?_
  refine sx_seq ?_
  refine sx_region (E := E) ?_
  refine so_bin rfl rfl rfl rfl (by first | exact bin_seql_t (by first | rfl | assumption | decide) | exact bin_seql_f (by first | rfl | assumption | decide)) ?_
  refine so_assign rfl rfl rfl ?_
  refine so_then ?_
  refine sx_false rfl ?_
  refine sx_seq ?_
  refine sx_region (E := E) ?_
  refine so_bin rfl rfl rfl rfl (by first | exact bin_seql_t (by first | rfl | assumption | decide) | exact bin_seql_f (by first | rfl | assumption | decide)) ?_
  refine so_assign rfl rfl rfl ?_
  refine so_then ?_
  refine sx_false rfl ?_
  refine sx_seq ?_
  refine sx_region (E := E) ?_
  refine so_bin rfl rfl rfl rfl (by first | exact bin_seql_t (by first | rfl | assumption | decide) | exact bin_seql_f (by first | rfl | assumption | decide)) ?_
  refine so_assign rfl rfl rfl ?_
  refine so_then ?_
  refine sx_false rfl ?_
  refine sx_seq ?_
  refine sx_region (E := E) ?_
  refine so_bin rfl rfl rfl rfl (by first | exact bin_seql_t (by first | rfl | assumption | decide) | exact bin_seql_f (by first | rfl | assumption | decide)) ?_
  refine so_assign rfl rfl rfl ?_
  refine so_then ?_
  refine sx_false rfl ?_
  refine sx_seq ?_
  refine sx_region (E := E) ?_
  refine so_buildSlice (out := cellsOf 0 (fun i => if i = 1 then .int .i64 v else pv i)) rfl rfl (fun h => nomatch h) (by repeat (first | exact Opps.nil | apply Opps.cons rfl)) Try.underlying22 inf3 rfl rfl (by kernel_rfl) rfl rfl ?_
  intro N10
  refine so_assign rfl rfl rfl ?_
  refine so_then ?_
  refine sx_seq ?_
  refine sx_seq ?_
  refine sx_region (E := E) ?_
  refine so_assign rfl rfl rfl ?_
  refine so_then ?_
  refine sx_block ?_
  refine sx_loop (σ := Nat × Nat × Bool) (fun q => pl.length - q.1) (fun q => [(1, .string ⟨⟨[112, 97, 114, 97, 109, 49]⟩⟩), (2, .int .i64 v), (3, .pointer (some ⟨2 * N3 + 1, 0, none⟩)), (6, .pointer (some ⟨2 * N6 + 1, 0, none⟩)), (7, .slice (some ⟨2 * q.2.1 + 1, 0, none⟩) q.1 q.1), (8, .int .i64 ((q.1 : Nat) : Int))]) (fun _ => S) (fun _ => A) (fun q => [(q.2.1, .cells (cellsOf q.1 (fun i => if i = 1 then .int .i64 v else pv i)) 1 q.2.2), (N6, .cells (.int .i64 0 :: .int .i64 0 :: .int .i64 0 :: .int .i64 0 :: .int .i64 0 :: .int .i64 0 :: .string ⟨#[]⟩ :: .string ⟨#[]⟩ :: .int .i64 0 :: .int .i64 0 :: .int .i64 0 :: .string ⟨#[]⟩ :: .bool false :: .bool false :: .bool false :: .int .i64 0 :: .int .i64 0 :: .int .i64 0 :: .int .i64 0 :: .slice none 0 0 :: .int .i64 0 :: .int .i64 0 :: .int .i64 0 :: .int .i64 0 :: .int .i64 0 :: .int .i64 0 :: .int .i64 0 :: .int .i64 0 :: .int .i64 0 :: .slice none 0 0 :: .int .i64 0 :: .int .i64 0 :: .int .i64 0 :: .int .i64 0 :: .int .i64 0 :: .slice none 0 0 :: .int .i64 0 :: .slice none 0 0 :: .slice none 0 0 :: .int .i64 0 :: .int .i64 0 :: .int .i64 0 :: .int .i64 0 :: .string ⟨#[]⟩ :: .int .i64 0 :: .int .i64 0 :: .int .i64 0 :: .int .i64 0 :: .int .i64 0 :: .int .i64 0 :: .slice none 0 0 :: .int .i64 0 :: .int .i64 0 :: .slice none 0 0 :: .int .i64 0 :: .int .i64 0 :: .slice none 0 0 :: .int .i64 0 :: .int .i64 0 :: .int .i64 0 :: .int .i64 0 :: .int .i64 0 :: .int .i64 0 :: .int .i64 0 :: .int .i64 0 :: .int .i64 0 :: .int .i64 0 :: .int .i64 0 :: .int .i64 0 :: .int .i64 0 :: .int .i64 0 :: .slice none 0 0 :: .bool false :: .slice none 0 0 :: .int .i64 0 :: .int .i64 0 :: .int .i64 0 :: .int .i64 0 :: .int .i64 0 :: .int .i64 0 :: .int .i64 0 :: .int .i64 0 :: .int .i64 0 :: .int .i64 0 :: []) (boxsz E 48) true), (N3, .cells (cellsOf 84 x) (boxsz E 48) true)]) (fun q => q.1 ≤ pl.length) ((0, N10, true)) (Nat.zero_le _) (by repeat (first | exact .nil | refine .cons rfl ?_)) rfl rfl (by repeat (first | exact List.nil_sublist _ | apply List.Sublist.cons_cons | apply List.Sublist.cons)) ?_
  intro s hJ t1
  obtain ⟨k, M, ex⟩ := s
  replace hJ : k ≤ pl.length := hJ
  dsimp only
  refine sx_seq ?_
  refine sx_seq ?_
  rcases Nat.lt_or_ge k pl.length with hk | hk
  · skip
    obtain ⟨qa, us, d, rfl, ia, hc, la, ka⟩ := rp.at' k hk
    obtain ⟨x0, rfl, la1⟩ := aloads_one la
    have hx0 : x0 = pv k := hpv k x0 hk ⟨_, rfl, la1⟩
    obtain ⟨n0, rfl⟩ := row_int ka
    refine sx_region (E := E) ?_
    refine so_move rfl rfl rfl ?_
    refine so_fieldO (o' := 8) rfl rfl rfl Try.underlying48 rfl inf38 rfl rfl ?_
    refine so_fieldO (o' := 35) rfl rfl rfl Try.underlying38 rfl inf22 rfl rfl ?_
    refine so_load rfl rfl rfl (by first | exact ld_own Try.underlying22 rfl (by repeat (first | exact List.Mem.head _ | apply List.Mem.tail)) (by first | exact (cellsOf_get rfl).trans (congrArg some hp35) | exact cellsOf_get rfl | rfl) | exact ld_data Try.underlying22 rfl (by first | assumption | exact InA.add (by assumption) | exact InA.add (InA.add (by assumption))) (by assumption)) ?_
    refine so_lenL rfl rfl rfl rfl rfl rfl Try.underlying22 ?_
    refine so_bin rfl rfl rfl rfl (by first | exact bin_lss_t (by omega) | exact bin_lss_f (by omega)) ?_
    refine so_then ?_
    refine sx_true rfl ?_
    refine sx_skip ?_
    refine sk_then ?_
    refine sx_seq ?_
    refine sx_block ?_
    refine sx_seq ?_
    by_cases hek : k = 1
    · skip
      refine sx_region (E := E) ?_
      refine so_move rfl rfl rfl ?_
      refine so_move rfl rfl rfl ?_
      refine so_call rfl rfl (fun h => nomatch h) rfl has40 (by repeat (first | exact Opvs.nil | apply Opvs.cons rfl)) (fun H hH => (pindex_ok ⟨⟨[112, 97, 114, 97, 109, 49]⟩⟩).i (b' := ((1 : Nat) : Int)) (by decide)) ?_
      refine so_bin rfl rfl rfl rfl (by first | exact bin_eql_t (by omega) | exact bin_eql_f (by omega) | exact bin_eql_t (by first | rfl | assumption | omega) | exact bin_eql_f (by first | rfl | assumption | omega)) ?_
      refine so_then ?_
      refine sx_true rfl ?_
      refine sx_region (E := E) ?_
      refine so_move rfl rfl rfl ?_
      refine so_move rfl rfl rfl ?_
      refine so_buildSlice (out := [.int .i64 v]) rfl rfl (fun h => nomatch h) (by repeat (first | exact Opps.nil | apply Opps.cons rfl)) Try.underlying22 inf3 rfl rfl (by kernel_rfl) rfl rfl ?_
      intro N25
      cases ex
      · skip
        first | (refine so_appNew (m := 1) (bt := 8) rfl rfl (fun h => nomatch h) rfl rfl rfl rfl rfl Try.underlying22 Try.underlying22 rfl inf3 rfl rfl (by decide) rfl (by decide) (first_own (List.Mem.head _) rfl) (.inr ⟨M, rfl, List.Mem.tail _ (List.Mem.head _), by rw [cellsOf_length, Nat.mul_one]⟩) (by omega) (by omega) (cellsOf_snoc (by rw [if_pos hek])) rfl ?_; intro M2) | (refine so_appOwn (m := 1) (bt := 8) rfl rfl (fun h => nomatch h) rfl rfl rfl rfl rfl Try.underlying22 Try.underlying22 rfl inf3 rfl rfl (by decide) rfl (by decide) (first_own (List.Mem.head _) rfl) (.succ .zero) (by rw [cellsOf_length, Nat.mul_one]) rfl (by omega) (by omega) (cellsOf_snoc (by rw [if_pos hek])) (fun h => nomatch h) rfl ?_; intro M2)
        refine so_assign rfl rfl rfl ?_
        refine so_nil ?_
        refine sk_block ?_
        refine sk_then ?_
        refine sx_region (E := E) ?_
        refine so_move rfl rfl rfl ?_
        refine so_bin rfl rfl rfl rfl (by first | exact bin_incr (by omega) | exact bin_add (wrap64 (by omega) (by omega)) | exact bin_add rfl) ?_
        refine so_assign rfl rfl rfl ?_
        refine so_nil ?_
        exact sk_round (k + 1, M2, false) (show pl.length - (k + 1) < pl.length - k by omega) (show k + 1 ≤ pl.length by omega) (by repeat (first | exact .nil | refine .cons rfl ?_)) rfl rfl (by repeat (first | exact List.nil_sublist _ | apply List.Sublist.cons_cons | apply List.Sublist.cons))
      · skip
        first | (refine so_appNew (m := 1) (bt := 8) rfl rfl (fun h => nomatch h) rfl rfl rfl rfl rfl Try.underlying22 Try.underlying22 rfl inf3 rfl rfl (by decide) rfl (by decide) (first_own (List.Mem.head _) rfl) (.inr ⟨M, rfl, List.Mem.tail _ (List.Mem.head _), by rw [cellsOf_length, Nat.mul_one]⟩) (by omega) (by omega) (cellsOf_snoc (by rw [if_pos hek])) rfl ?_; intro M2) | (refine so_appOwn (m := 1) (bt := 8) rfl rfl (fun h => nomatch h) rfl rfl rfl rfl rfl Try.underlying22 Try.underlying22 rfl inf3 rfl rfl (by decide) rfl (by decide) (first_own (List.Mem.head _) rfl) (.succ .zero) (by rw [cellsOf_length, Nat.mul_one]) rfl (by omega) (by omega) (cellsOf_snoc (by rw [if_pos hek])) (fun h => nomatch h) rfl ?_; intro M2)
        refine so_assign rfl rfl rfl ?_
        refine so_nil ?_
        refine sk_block ?_
        refine sk_then ?_
        refine sx_region (E := E) ?_
        refine so_move rfl rfl rfl ?_
        refine so_bin rfl rfl rfl rfl (by first | exact bin_incr (by omega) | exact bin_add (wrap64 (by omega) (by omega)) | exact bin_add rfl) ?_
        refine so_assign rfl rfl rfl ?_
        refine so_nil ?_
        exact sk_round (k + 1, M2, false) (show pl.length - (k + 1) < pl.length - k by omega) (show k + 1 ≤ pl.length by omega) (by repeat (first | exact .nil | refine .cons rfl ?_)) rfl rfl (by repeat (first | exact List.nil_sublist _ | apply List.Sublist.cons_cons | apply List.Sublist.cons))
    · skip
      refine sx_region (E := E) ?_
      refine so_move rfl rfl rfl ?_
      refine so_move rfl rfl rfl ?_
      refine so_call rfl rfl (fun h => nomatch h) rfl has40 (by repeat (first | exact Opvs.nil | apply Opvs.cons rfl)) (fun H hH => (pindex_ok ⟨⟨[112, 97, 114, 97, 109, 49]⟩⟩).i (b' := ((1 : Nat) : Int)) (by decide)) ?_
      refine so_bin rfl rfl rfl rfl (by first | exact bin_eql_t (by omega) | exact bin_eql_f (by omega) | exact bin_eql_t (by first | rfl | assumption | omega) | exact bin_eql_f (by first | rfl | assumption | omega)) ?_
      refine so_then ?_
      refine sx_false rfl ?_
      refine sx_region (E := E) ?_
      refine so_move rfl rfl rfl ?_
      refine so_fieldO (o' := 8) rfl rfl rfl Try.underlying48 rfl inf38 rfl rfl ?_
      refine so_fieldO (o' := 35) rfl rfl rfl Try.underlying38 rfl inf22 rfl rfl ?_
      refine so_load rfl rfl rfl (by first | exact ld_own Try.underlying22 rfl (by repeat (first | exact List.Mem.head _ | apply List.Mem.tail)) (by first | exact (cellsOf_get rfl).trans (congrArg some hp35) | exact cellsOf_get rfl | rfl) | exact ld_data Try.underlying22 rfl (by first | assumption | exact InA.add (by assumption) | exact InA.add (InA.add (by assumption))) (by assumption)) ?_
      refine so_move rfl rfl rfl ?_
      first | refine so_indexO rfl rfl rfl rfl Try.underlying22 inf3 rfl (by omega) rfl ?_ | refine so_index rfl rfl rfl rfl Try.underlying22 inf3 rfl (by omega) ?_
      refine so_load rfl rfl rfl (by first | exact ld_own Try.underlying3 rfl (by repeat (first | exact List.Mem.head _ | apply List.Mem.tail)) (by first | exact (cellsOf_get rfl).trans (congrArg some hp35) | exact cellsOf_get rfl | rfl) | exact ld_data Try.underlying3 rfl (by first | assumption | exact InA.add (by assumption) | exact InA.add (InA.add (by assumption))) (by assumption)) ?_
      refine so_buildSlice (out := [.int .i64 n0]) rfl rfl (fun h => nomatch h) (by repeat (first | exact Opps.nil | apply Opps.cons rfl)) Try.underlying22 inf3 rfl rfl (by kernel_rfl) rfl rfl ?_
      intro N34
      cases ex
      · skip
        first | (refine so_appNew (m := 1) (bt := 8) rfl rfl (fun h => nomatch h) rfl rfl rfl rfl rfl Try.underlying22 Try.underlying22 rfl inf3 rfl rfl (by decide) rfl (by decide) (first_own (List.Mem.head _) rfl) (.inr ⟨M, rfl, List.Mem.tail _ (List.Mem.head _), by rw [cellsOf_length, Nat.mul_one]⟩) (by omega) (by omega) (cellsOf_snoc (by rw [if_neg hek]; exact hx0)) rfl ?_; intro M2) | (refine so_appOwn (m := 1) (bt := 8) rfl rfl (fun h => nomatch h) rfl rfl rfl rfl rfl Try.underlying22 Try.underlying22 rfl inf3 rfl rfl (by decide) rfl (by decide) (first_own (List.Mem.head _) rfl) (.succ .zero) (by rw [cellsOf_length, Nat.mul_one]) rfl (by omega) (by omega) (cellsOf_snoc (by rw [if_neg hek]; exact hx0)) (fun h => nomatch h) rfl ?_; intro M2)
        refine so_assign rfl rfl rfl ?_
        refine so_nil ?_
        refine sk_block ?_
        refine sk_then ?_
        refine sx_region (E := E) ?_
        refine so_move rfl rfl rfl ?_
        refine so_bin rfl rfl rfl rfl (by first | exact bin_incr (by omega) | exact bin_add (wrap64 (by omega) (by omega)) | exact bin_add rfl) ?_
        refine so_assign rfl rfl rfl ?_
        refine so_nil ?_
        exact sk_round (k + 1, M2, false) (show pl.length - (k + 1) < pl.length - k by omega) (show k + 1 ≤ pl.length by omega) (by repeat (first | exact .nil | refine .cons rfl ?_)) rfl rfl (by repeat (first | exact List.nil_sublist _ | apply List.Sublist.cons_cons | apply List.Sublist.cons))
      · skip
        first | (refine so_appNew (m := 1) (bt := 8) rfl rfl (fun h => nomatch h) rfl rfl rfl rfl rfl Try.underlying22 Try.underlying22 rfl inf3 rfl rfl (by decide) rfl (by decide) (first_own (List.Mem.head _) rfl) (.inr ⟨M, rfl, List.Mem.tail _ (List.Mem.head _), by rw [cellsOf_length, Nat.mul_one]⟩) (by omega) (by omega) (cellsOf_snoc (by rw [if_neg hek]; exact hx0)) rfl ?_; intro M2) | (refine so_appOwn (m := 1) (bt := 8) rfl rfl (fun h => nomatch h) rfl rfl rfl rfl rfl Try.underlying22 Try.underlying22 rfl inf3 rfl rfl (by decide) rfl (by decide) (first_own (List.Mem.head _) rfl) (.succ .zero) (by rw [cellsOf_length, Nat.mul_one]) rfl (by omega) (by omega) (cellsOf_snoc (by rw [if_neg hek]; exact hx0)) (fun h => nomatch h) rfl ?_; intro M2)
        refine so_assign rfl rfl rfl ?_
        refine so_nil ?_
        refine sk_block ?_
        refine sk_then ?_
        refine sx_region (E := E) ?_
        refine so_move rfl rfl rfl ?_
        refine so_bin rfl rfl rfl rfl (by first | exact bin_incr (by omega) | exact bin_add (wrap64 (by omega) (by omega)) | exact bin_add rfl) ?_
        refine so_assign rfl rfl rfl ?_
        refine so_nil ?_
        exact sk_round (k + 1, M2, false) (show pl.length - (k + 1) < pl.length - k by omega) (show k + 1 ≤ pl.length by omega) (by repeat (first | exact .nil | refine .cons rfl ?_)) rfl rfl (by repeat (first | exact List.nil_sublist _ | apply List.Sublist.cons_cons | apply List.Sublist.cons))
  · skip
    obtain rfl : k = pl.length := by omega
    refine sx_region (E := E) ?_
    refine so_move rfl rfl rfl ?_
    refine so_fieldO (o' := 8) rfl rfl rfl Try.underlying48 rfl inf38 rfl rfl ?_
    refine so_fieldO (o' := 35) rfl rfl rfl Try.underlying38 rfl inf22 rfl rfl ?_
    refine so_load rfl rfl rfl (by first | exact ld_own Try.underlying22 rfl (by repeat (first | exact List.Mem.head _ | apply List.Mem.tail)) (by first | exact (cellsOf_get rfl).trans (congrArg some hp35) | exact cellsOf_get rfl | rfl) | exact ld_data Try.underlying22 rfl (by first | assumption | exact InA.add (by assumption) | exact InA.add (InA.add (by assumption))) (by assumption)) ?_
    refine so_lenL rfl rfl rfl rfl rfl rfl Try.underlying22 ?_
    refine so_bin rfl rfl rfl rfl (by first | exact bin_lss_t (by omega) | exact bin_lss_f (by omega)) ?_
    refine so_then ?_
    refine sx_false rfl ?_
    refine sx_exit ?_
    refine sk_then_exit ?_
    refine sk_loop_exit ?_
    refine sk_block_exit ?_
    refine sk_then ?_
    refine sx_region (E := E) ?_
    refine so_move rfl rfl rfl ?_
    refine so_fieldO (o' := 8) rfl rfl rfl Try.underlying48 rfl inf38 rfl rfl ?_
    refine so_fieldO (o' := 35) rfl rfl rfl Try.underlying38 rfl inf22 rfl rfl ?_
    refine so_storeS rfl (fun h => nomatch h) rfl rfl inf22 rfl rfl (by repeat (first | exact .zero | apply Upd.succ)) (by first | exact cellsOf_set rfl | exact cellsOf_setr rfl | exact cellsOf_store rfl | exact store_all rfl | rfl) (by first | exact cellsOf_in rfl rfl | exact cellsOf_in rfl (cellsOf_length _ _) | exact cellsOf_le rfl | exact Nat.le_of_ble_eq_true rfl | omega) (fun h => nomatch h) ?_
    refine so_nil ?_
    refine sk_block ?_
    refine sk_then ?_
    refine sx_seq ?_
    refine sx_freeze .zero ?_
    intro Hf Af gf hAf hgf
    have py := pts_up (px.gr gf) (o := 35) (k := .row 8 [.int .i64]) (d := .row (pl.set 1 [numC v])) (v := .slice (some ⟨2 * M + 1, 0, none⟩) pl.length pl.length) rfl (set_row hgf hAf rp hpv hv hpn hpb)
    refine sx_region (E := E) ?_
    refine so_load rfl rfl rfl (by first | exact ld_ownA Try.underlying48 rfl inf48 rfl (by repeat (first | exact List.Mem.head _ | apply List.Mem.tail)) (by first | exact cellsOf_le rfl | decide | omega) (by first | exact cellsOf_all | exact cellsOf_part rfl | rfl) | exact ld_dataA Try.underlying48 rfl inf48 rfl (by first | assumption | exact InA.add (by assumption) | exact InA.add (InA.add (by assumption))) (by assumption)) ?_
    refine so_storeA rfl (fun h => nomatch h) rfl rfl inf48 (by first | exact cellsOf_length _ _ | rfl) (CellsA.one (py.cells (n := 84) rfl)) (by repeat (first | exact .zero | apply Upd.succ)) (by first | exact cellsOf_set rfl | exact cellsOf_setr rfl | exact cellsOf_store rfl | exact store_all rfl | rfl) (by first | exact cellsOf_in rfl rfl | exact cellsOf_in rfl (cellsOf_length _ _) | exact cellsOf_le rfl | exact Nat.le_of_ble_eq_true rfl | omega) (fun h => nomatch h) ?_
    refine so_then ?_
    refine sx_ret ?_
    refine sk_return1 (.cell rfl (by first | exact ld_ownA Try.underlying48 rfl inf48 rfl (by repeat (first | exact List.Mem.head _ | apply List.Mem.tail)) (by first | exact cellsOf_le rfl | decide | omega) (by first | exact cellsOf_all | exact cellsOf_part rfl | rfl) | exact ld_dataA Try.underlying48 rfl inf48 rfl (by first | assumption | exact InA.add (by assumption) | exact InA.add (InA.add (by assumption))) (by assumption)) .nil) ?_
    exact fun H hH => setR_of hH py

set_option maxHeartbeats 1000000 in
theorem set_param2 {S : AH} {A : Nat → Prop} (hA : ∀ j, A j → j < S.nx) {x : Nat → Value} {c : Nat → CT} (px : Pts A S k48 x c) {v : Int} (hv : (Lit.int .i64 v).wf = true) {pl : List (List CT)} (epl : c 35 = .row pl) (hkk : 2 < pl.length) : XCall Try.prog 23 [.agg ⟨cellsOf 84 x⟩, .string ⟨⟨[112, 97, 114, 97, 109, 50]⟩⟩, .int .i64 v] S (SetR (upC c 35 (.row (pl.set 2 [numC v]))) A S) := by
  obtain ⟨pl2, ap, cp, ep, hp35, rp⟩ := (px 35 _ rfl).rowD
  rw [epl] at ep; cases ep
  have hpn := rp.len
  have hpb := rp.bytes
  obtain ⟨pv, hpv⟩ := row_vals rp
  refine x_enter (E := E) (n := 115) (rs := [.cell 6 48]) (l := [(2, _), (1, _), (0, _)]) (fn_own Try.func23 rfl rfl rfl) hA rfl ?_
  refine sx_seq ?_
  refine sx_region (E := E) ?_
  refine so_boxA rfl rfl (fun h => nomatch h) rfl ?_
  intro N3
  refine so_alloc (cs := (.int .i64 0 :: .int .i64 0 :: .int .i64 0 :: .int .i64 0 :: .int .i64 0 :: .int .i64 0 :: .string ⟨#[]⟩ :: .string ⟨#[]⟩ :: .int .i64 0 :: .int .i64 0 :: .int .i64 0 :: .string ⟨#[]⟩ :: .bool false :: .bool false :: .bool false :: .int .i64 0 :: .int .i64 0 :: .int .i64 0 :: .int .i64 0 :: .slice none 0 0 :: .int .i64 0 :: .int .i64 0 :: .int .i64 0 :: .int .i64 0 :: .int .i64 0 :: .int .i64 0 :: .int .i64 0 :: .int .i64 0 :: .int .i64 0 :: .slice none 0 0 :: .int .i64 0 :: .int .i64 0 :: .int .i64 0 :: .int .i64 0 :: .int .i64 0 :: .slice none 0 0 :: .int .i64 0 :: .slice none 0 0 :: .slice none 0 0 :: .int .i64 0 :: .int .i64 0 :: .int .i64 0 :: .int .i64 0 :: .string ⟨#[]⟩ :: .int .i64 0 :: .int .i64 0 :: .int .i64 0 :: .int .i64 0 :: .int .i64 0 :: .int .i64 0 :: .slice none 0 0 :: .int .i64 0 :: .int .i64 0 :: .slice none 0 0 :: .int .i64 0 :: .int .i64 0 :: .slice none 0 0 :: .int .i64 0 :: .int .i64 0 :: .int .i64 0 :: .int .i64 0 :: .int .i64 0 :: .int .i64 0 :: .int .i64 0 :: .int .i64 0 :: .int .i64 0 :: .int .i64 0 :: .int .i64 0 :: .int .i64 0 :: .int .i64 0 :: .int .i64 0 :: .slice none 0 0 :: .bool false :: .slice none 0 0 :: .int .i64 0 :: .int .i64 0 :: .int .i64 0 :: .int .i64 0 :: .int .i64 0 :: .int .i64 0 :: .int .i64 0 :: .int .i64 0 :: .int .i64 0 :: .int .i64 0 :: [])) rfl rfl (fun h => nomatch h) inf48 rfl rfl ?_
  intro N6
  refine so_then ?_
  refine sx_seq ?_
  refine sx_seq ?_
  refine sx_region (E := E) ?_
  refine so_move rfl rfl rfl ?_
  refine so_then ?_
  refine sx_block ?_
  refine sx_seq ?_
  refine sx_region (E := E) ?_
  refine so_bin rfl rfl rfl rfl (by first | exact bin_seql_t (by first | rfl | assumption | decide) | exact bin_seql_f (by first | rfl | assumption | decide)) ?_
  refine so_assign rfl rfl rfl ?_
  refine so_then ?_
  refine sx_false rfl ?_
  refine sx_seq ?_
  refine sx_region (E := E) ?_
  refine so_bin rfl rfl rfl rfl (by first | exact bin_seql_t (by first | rfl | assumption | decide) | exact bin_seql_f (by first | rfl | assumption | decide)) ?_
  refine so_assign rfl rfl rfl ?_
  refine so_then ?_
  refine sx_false rfl ?_
  refine sx_seq ?_
  refine sx_region (E := E) ?_
  refine so_bin rfl rfl rfl rfl (by first | exact bin_seql_t (by first | rfl | assumption | decide) | exact bin_seql_f (by first | rfl | assumption | decide)) ?_
  refine so_assign rfl rfl rfl ?_
  refine so_then ?_
  refine sx_false rfl ?_
  refine sx_seq ?_
  refine sx_region (E := E) ?_
  refine so_bin rfl rfl rfl rfl (by first | exact bin_seql_t (by first | rfl | assumption | decide) | exact bin_seql_f (by first | rfl | assumption | decide)) ?_
  refine so_assign rfl rfl rfl ?_
  refine so_then ?_
  refine sx_false rfl ?_
  refine sx_seq ?_
  refine sx_region (E := E) ?_
  refine so_bin rfl rfl rfl rfl (by first | exact bin_seql_t (by first | rfl | assumption | decide) | exact bin_seql_f (by first | rfl | assumption | decide)) ?_
  refine so_assign rfl rfl rfl ?_
  refine so_then ?_
  refine sx_false rfl ?_
  refine sx_seq ?_
  refine sx_region (E := E) ?_
  refine so_bin rfl rfl rfl rfl (by first | exact bin_seql_t (by first | rfl | assumption | decide) | exact bin_seql_f (by first | rfl | assumption | decide)) ?_
  refine so_assign rfl rfl rfl ?_
  refine so_then ?_
  refine sx_false rfl ?_
  refine sx_seq ?_
  refine sx_region (E := E) ?_
  refine so_bin rfl rfl rfl rfl (by first | exact bin_seql_t (by first | rfl | assumption | decide) | exact bin_seql_f (by first | rfl | assumption | decide)) ?_
  refine so_assign rfl rfl rfl ?_
  refine so_then ?_
  refine sx_false rfl ?_
  refine sx_seq ?_
  refine sx_region (E := E) ?_
  refine so_bin rfl rfl rfl rfl (by first | exact bin_seql_t (by first | rfl | assumption | decide) | exact bin_seql_f (by first | rfl | assumption | decide)) ?_
  refine so_assign rfl rfl rfl ?_
  refine so_then ?_
  refine sx_false rfl ?_
  refine sx_seq ?_
  refine sx_region (E := E) ?_
  refine so_bin rfl rfl rfl rfl (by first | exact bin_seql_t (by first | rfl | assumption | decide) | exact bin_seql_f (by first | rfl | assumption | decide)) ?_
  refine so_assign rfl rfl rfl ?_
  refine so_then ?_
  refine sx_false rfl ?_
  refine sx_seq ?_
  refine sx_region (E := E) ?_
  refine so_bin rfl rfl rfl rfl (by first | exact bin_seql_t (by first | rfl | assumption | decide) | exact bin_seql_f (by first | rfl | assumption | decide)) ?_
  refine so_assign rfl rfl rfl ?_
  refine so_then ?_
  refine sx_false rfl ?_
  refine sx_seq ?_
  refine sx_region (E := E) ?_
  refine so_bin rfl rfl rfl rfl (by first | exact bin_seql_t (by first | rfl | assumption | decide) | exact bin_seql_f (by first | rfl | assumption | decide)) ?_
  refine so_assign rfl rfl rfl ?_
  refine so_then ?_
  refine sx_false rfl ?_
  refine sx_seq ?_
  refine sx_region (E := E) ?_
  refine so_bin rfl rfl rfl rfl (by first | exact bin_seql_t (by first | rfl | assumption | decide) | exact bin_seql_f (by first | rfl | assumption | decide)) ?_
  refine so_assign rfl rfl rfl ?_
  refine so_then ?_
  refine sx_false rfl ?_
  refine sx_seq ?_
  refine sx_region (E := E) ?_
  refine so_bin rfl rfl rfl rfl (by first | exact bin_seql_t (by first | rfl | assumption | decide) | exact bin_seql_f (by first | rfl | assumption | decide)) ?_
  refine so_assign rfl rfl rfl ?_
  refine so_then ?_
  refine sx_false rfl ?_
  refine sx_seq ?_
  refine sx_region (E := E) ?_
  refine so_bin rfl rfl rfl rfl (by first | exact bin_seql_t (by first | rfl | assumption | decide) | exact bin_seql_f (by first | rfl | assumption | decide)) ?_
  refine so_assign rfl rfl rfl ?_
  refine so_then ?_
  refine sx_false rfl ?_
  refine sx_seq ?_
  refine sx_region (E := E) ?_
  refine so_bin rfl rfl rfl rfl (by first | exact bin_seql_t (by first | rfl | assumption | decide) | exact bin_seql_f (by first | rfl | assumption | decide)) ?_
  refine so_assign rfl rfl rfl ?_
  refine so_then ?_
  refine sx_false rfl ?_
  refine sx_seq ?_
  refine sx_region (E := E) ?_
  refine so_bin rfl rfl rfl rfl (by first | exact bin_seql_t (by first | rfl | assumption | decide) | exact bin_seql_f (by first | rfl | assumption | decide)) ?_
  refine so_assign rfl rfl rfl ?_
  refine so_then ?_
  refine sx_false rfl ?_
  refine sx_seq ?_
  refine sx_region (E := E) ?_
  refine so_buildSlice (out := cellsOf 0 (fun i => if i = 2 then .int .i64 v else pv i)) rfl rfl (fun h => nomatch h) (by repeat (first | exact Opps.nil | apply Opps.cons rfl)) Try.underlying22 inf3 rfl rfl (by kernel_rfl) rfl rfl ?_
  intro N10
  refine so_assign rfl rfl rfl ?_
  refine so_then ?_
  refine sx_seq ?_
  refine sx_seq ?_
  refine sx_region (E := E) ?_
  refine so_assign rfl rfl rfl ?_
  refine so_then ?_
  refine sx_block ?_
  refine sx_loop (σ := Nat × Nat × Bool) (fun q => pl.length - q.1) (fun q => [(1, .string ⟨⟨[112, 97, 114, 97, 109, 50]⟩⟩), (2, .int .i64 v), (3, .pointer (some ⟨2 * N3 + 1, 0, none⟩)), (6, .pointer (some ⟨2 * N6 + 1, 0, none⟩)), (7, .slice (some ⟨2 * q.2.1 + 1, 0, none⟩) q.1 q.1), (8, .int .i64 ((q.1 : Nat) : Int))]) (fun _ => S) (fun _ => A) (fun q => [(q.2.1, .cells (cellsOf q.1 (fun i => if i = 2 then .int .i64 v else pv i)) 1 q.2.2), (N6, .cells (.int .i64 0 :: .int .i64 0 :: .int .i64 0 :: .int .i64 0 :: .int .i64 0 :: .int .i64 0 :: .string ⟨#[]⟩ :: .string ⟨#[]⟩ :: .int .i64 0 :: .int .i64 0 :: .int .i64 0 :: .string ⟨#[]⟩ :: .bool false :: .bool false :: .bool false :: .int .i64 0 :: .int .i64 0 :: .int .i64 0 :: .int .i64 0 :: .slice none 0 0 :: .int .i64 0 :: .int .i64 0 :: .int .i64 0 :: .int .i64 0 :: .int .i64 0 :: .int .i64 0 :: .int .i64 0 :: .int .i64 0 :: .int .i64 0 :: .slice none 0 0 :: .int .i64 0 :: .int .i64 0 :: .int .i64 0 :: .int .i64 0 :: .int .i64 0 :: .slice none 0 0 :: .int .i64 0 :: .slice none 0 0 :: .slice none 0 0 :: .int .i64 0 :: .int .i64 0 :: .int .i64 0 :: .int .i64 0 :: .string ⟨#[]⟩ :: .int .i64 0 :: .int .i64 0 :: .int .i64 0 :: .int .i64 0 :: .int .i64 0 :: .int .i64 0 :: .slice none 0 0 :: .int .i64 0 :: .int .i64 0 :: .slice none 0 0 :: .int .i64 0 :: .int .i64 0 :: .slice none 0 0 :: .int .i64 0 :: .int .i64 0 :: .int .i64 0 :: .int .i64 0 :: .int .i64 0 :: .int .i64 0 :: .int .i64 0 :: .int .i64 0 :: .int .i64 0 :: .int .i64 0 :: .int .i64 0 :: .int .i64 0 :: .int .i64 0 :: .int .i64 0 :: .slice none 0 0 :: .bool false :: .slice none 0 0 :: .int .i64 0 :: .int .i64 0 :: .int .i64 0 :: .int .i64 0 :: .int .i64 0 :: .int .i64 0 :: .int .i64 0 :: .int .i64 0 :: .int .i64 0 :: .int .i64 0 :: []) (boxsz E 48) true), (N3, .cells (cellsOf 84 x) (boxsz E 48) true)]) (fun q => q.1 ≤ pl.length) ((0, N10, true)) (Nat.zero_le _) (by repeat (first | exact .nil | refine .cons rfl ?_)) rfl rfl (by repeat (first | exact List.nil_sublist _ | apply List.Sublist.cons_cons | apply List.Sublist.cons)) ?_
  intro s hJ t1
  obtain ⟨k, M, ex⟩ := s
  replace hJ : k ≤ pl.length := hJ
  dsimp only
  refine sx_seq ?_
  refine sx_seq ?_
  rcases Nat.lt_or_ge k pl.length with hk | hk
  · skip
    obtain ⟨qa, us, d, rfl, ia, hc, la, ka⟩ := rp.at' k hk
    obtain ⟨x0, rfl, la1⟩ := aloads_one la
    have hx0 : x0 = pv k := hpv k x0 hk ⟨_, rfl, la1⟩
    obtain ⟨n0, rfl⟩ := row_int ka
    refine sx_region (E := E) ?_
    refine so_move rfl rfl rfl ?_
    refine so_fieldO (o' := 8) rfl rfl rfl Try.underlying48 rfl inf38 rfl rfl ?_
    refine so_fieldO (o' := 35) rfl rfl rfl Try.underlying38 rfl inf22 rfl rfl ?_
    refine so_load rfl rfl rfl (by first | exact ld_own Try.underlying22 rfl (by repeat (first | exact List.Mem.head _ | apply List.Mem.tail)) (by first | exact (cellsOf_get rfl).trans (congrArg some hp35) | exact cellsOf_get rfl | rfl) | exact ld_data Try.underlying22 rfl (by first | assumption | exact InA.add (by assumption) | exact InA.add (InA.add (by assumption))) (by assumption)) ?_
    refine so_lenL rfl rfl rfl rfl rfl rfl Try.underlying22 ?_
    refine so_bin rfl rfl rfl rfl (by first | exact bin_lss_t (by omega) | exact bin_lss_f (by omega)) ?_
    refine so_then ?_
    refine sx_true rfl ?_
    refine sx_skip ?_
    refine sk_then ?_
    refine sx_seq ?_
    refine sx_block ?_
    refine sx_seq ?_
    by_cases hek : k = 2
    · skip
      refine sx_region (E := E) ?_
      refine so_move rfl rfl rfl ?_
      refine so_move rfl rfl rfl ?_
      refine so_call rfl rfl (fun h => nomatch h) rfl has40 (by repeat (first | exact Opvs.nil | apply Opvs.cons rfl)) (fun H hH => (pindex_ok ⟨⟨[112, 97, 114, 97, 109, 50]⟩⟩).i (b' := ((2 : Nat) : Int)) (by decide)) ?_
      refine so_bin rfl rfl rfl rfl (by first | exact bin_eql_t (by omega) | exact bin_eql_f (by omega) | exact bin_eql_t (by first | rfl | assumption | omega) | exact bin_eql_f (by first | rfl | assumption | omega)) ?_
      refine so_then ?_
      refine sx_true rfl ?_
      refine sx_region (E := E) ?_
      refine so_move rfl rfl rfl ?_
      refine so_move rfl rfl rfl ?_
      refine so_buildSlice (out := [.int .i64 v]) rfl rfl (fun h => nomatch h) (by repeat (first | exact Opps.nil | apply Opps.cons rfl)) Try.underlying22 inf3 rfl rfl (by kernel_rfl) rfl rfl ?_
      intro N25
      cases ex
      · skip
        first | (refine so_appNew (m := 1) (bt := 8) rfl rfl (fun h => nomatch h) rfl rfl rfl rfl rfl Try.underlying22 Try.underlying22 rfl inf3 rfl rfl (by decide) rfl (by decide) (first_own (List.Mem.head _) rfl) (.inr ⟨M, rfl, List.Mem.tail _ (List.Mem.head _), by rw [cellsOf_length, Nat.mul_one]⟩) (by omega) (by omega) (cellsOf_snoc (by rw [if_pos hek])) rfl ?_; intro M2) | (refine so_appOwn (m := 1) (bt := 8) rfl rfl (fun h => nomatch h) rfl rfl rfl rfl rfl Try.underlying22 Try.underlying22 rfl inf3 rfl rfl (by decide) rfl (by decide) (first_own (List.Mem.head _) rfl) (.succ .zero) (by rw [cellsOf_length, Nat.mul_one]) rfl (by omega) (by omega) (cellsOf_snoc (by rw [if_pos hek])) (fun h => nomatch h) rfl ?_; intro M2)
        refine so_assign rfl rfl rfl ?_
        refine so_nil ?_
        refine sk_block ?_
        refine sk_then ?_
        refine sx_region (E := E) ?_
        refine so_move rfl rfl rfl ?_
        refine so_bin rfl rfl rfl rfl (by first | exact bin_incr (by omega) | exact bin_add (wrap64 (by omega) (by omega)) | exact bin_add rfl) ?_
        refine so_assign rfl rfl rfl ?_
        refine so_nil ?_
        exact sk_round (k + 1, M2, false) (show pl.length - (k + 1) < pl.length - k by omega) (show k + 1 ≤ pl.length by omega) (by repeat (first | exact .nil | refine .cons rfl ?_)) rfl rfl (by repeat (first | exact List.nil_sublist _ | apply List.Sublist.cons_cons | apply List.Sublist.cons))
      · skip
        first | (refine so_appNew (m := 1) (bt := 8) rfl rfl (fun h => nomatch h) rfl rfl rfl rfl rfl Try.underlying22 Try.underlying22 rfl inf3 rfl rfl (by decide) rfl (by decide) (first_own (List.Mem.head _) rfl) (.inr ⟨M, rfl, List.Mem.tail _ (List.Mem.head _), by rw [cellsOf_length, Nat.mul_one]⟩) (by omega) (by omega) (cellsOf_snoc (by rw [if_pos hek])) rfl ?_; intro M2) | (refine so_appOwn (m := 1) (bt := 8) rfl rfl (fun h => nomatch h) rfl rfl rfl rfl rfl Try.underlying22 Try.underlying22 rfl inf3 rfl rfl (by decide) rfl (by decide) (first_own (List.Mem.head _) rfl) (.succ .zero) (by rw [cellsOf_length, Nat.mul_one]) rfl (by omega) (by omega) (cellsOf_snoc (by rw [if_pos hek])) (fun h => nomatch h) rfl ?_; intro M2)
        refine so_assign rfl rfl rfl ?_
        refine so_nil ?_
        refine sk_block ?_
        refine sk_then ?_
        refine sx_region (E := E) ?_
        refine so_move rfl rfl rfl ?_
        refine so_bin rfl rfl rfl rfl (by first | exact bin_incr (by omega) | exact bin_add (wrap64 (by omega) (by omega)) | exact bin_add rfl) ?_
        refine so_assign rfl rfl rfl ?_
        refine so_nil ?_
        exact sk_round (k + 1, M2, false) (show pl.length - (k + 1) < pl.length - k by omega) (show k + 1 ≤ pl.length by omega) (by repeat (first | exact .nil | refine .cons rfl ?_)) rfl rfl (by repeat (first | exact List.nil_sublist _ | apply List.Sublist.cons_cons | apply List.Sublist.cons))
    · skip
      refine sx_region (E := E) ?_
      refine so_move rfl rfl rfl ?_
      refine so_move rfl rfl rfl ?_
      refine so_call rfl rfl (fun h => nomatch h) rfl has40 (by repeat (first | exact Opvs.nil | apply Opvs.cons rfl)) (fun H hH => (pindex_ok ⟨⟨[112, 97, 114, 97, 109, 50]⟩⟩).i (b' := ((2 : Nat) : Int)) (by decide)) ?_
      refine so_bin rfl rfl rfl rfl (by first | exact bin_eql_t (by omega) | exact bin_eql_f (by omega) | exact bin_eql_t (by first | rfl | assumption | omega) | exact bin_eql_f (by first | rfl | assumption | omega)) ?_
      refine so_then ?_
      refine sx_false rfl ?_
      refine sx_region (E := E) ?_
      refine so_move rfl rfl rfl ?_
      refine so_fieldO (o' := 8) rfl rfl rfl Try.underlying48 rfl inf38 rfl rfl ?_
      refine so_fieldO (o' := 35) rfl rfl rfl Try.underlying38 rfl inf22 rfl rfl ?_
      refine so_load rfl rfl rfl (by first | exact ld_own Try.underlying22 rfl (by repeat (first | exact List.Mem.head _ | apply List.Mem.tail)) (by first | exact (cellsOf_get rfl).trans (congrArg some hp35) | exact cellsOf_get rfl | rfl) | exact ld_data Try.underlying22 rfl (by first | assumption | exact InA.add (by assumption) | exact InA.add (InA.add (by assumption))) (by assumption)) ?_
      refine so_move rfl rfl rfl ?_
      first | refine so_indexO rfl rfl rfl rfl Try.underlying22 inf3 rfl (by omega) rfl ?_ | refine so_index rfl rfl rfl rfl Try.underlying22 inf3 rfl (by omega) ?_
      refine so_load rfl rfl rfl (by first | exact ld_own Try.underlying3 rfl (by repeat (first | exact List.Mem.head _ | apply List.Mem.tail)) (by first | exact (cellsOf_get rfl).trans (congrArg some hp35) | exact cellsOf_get rfl | rfl) | exact ld_data Try.underlying3 rfl (by first | assumption | exact InA.add (by assumption) | exact InA.add (InA.add (by assumption))) (by assumption)) ?_
      refine so_buildSlice (out := [.int .i64 n0]) rfl rfl (fun h => nomatch h) (by repeat (first | exact Opps.nil | apply Opps.cons rfl)) Try.underlying22 inf3 rfl rfl (by kernel_rfl) rfl rfl ?_
      intro N34
      cases ex
      · skip
        first | (refine so_appNew (m := 1) (bt := 8) rfl rfl (fun h => nomatch h) rfl rfl rfl rfl rfl Try.underlying22 Try.underlying22 rfl inf3 rfl rfl (by decide) rfl (by decide) (first_own (List.Mem.head _) rfl) (.inr ⟨M, rfl, List.Mem.tail _ (List.Mem.head _), by rw [cellsOf_length, Nat.mul_one]⟩) (by omega) (by omega) (cellsOf_snoc (by rw [if_neg hek]; exact hx0)) rfl ?_; intro M2) | (refine so_appOwn (m := 1) (bt := 8) rfl rfl (fun h => nomatch h) rfl rfl rfl rfl rfl Try.underlying22 Try.underlying22 rfl inf3 rfl rfl (by decide) rfl (by decide) (first_own (List.Mem.head _) rfl) (.succ .zero) (by rw [cellsOf_length, Nat.mul_one]) rfl (by omega) (by omega) (cellsOf_snoc (by rw [if_neg hek]; exact hx0)) (fun h => nomatch h) rfl ?_; intro M2)
        refine so_assign rfl rfl rfl ?_
        refine so_nil ?_
        refine sk_block ?_
        refine sk_then ?_
        refine sx_region (E := E) ?_
        refine so_move rfl rfl rfl ?_
        refine so_bin rfl rfl rfl rfl (by first | exact bin_incr (by omega) | exact bin_add (wrap64 (by omega) (by omega)) | exact bin_add rfl) ?_
        refine so_assign rfl rfl rfl ?_
        refine so_nil ?_
        exact sk_round (k + 1, M2, false) (show pl.length - (k + 1) < pl.length - k by omega) (show k + 1 ≤ pl.length by omega) (by repeat (first | exact .nil | refine .cons rfl ?_)) rfl rfl (by repeat (first | exact List.nil_sublist _ | apply List.Sublist.cons_cons | apply List.Sublist.cons))
      · skip
        first | (refine so_appNew (m := 1) (bt := 8) rfl rfl (fun h => nomatch h) rfl rfl rfl rfl rfl Try.underlying22 Try.underlying22 rfl inf3 rfl rfl (by decide) rfl (by decide) (first_own (List.Mem.head _) rfl) (.inr ⟨M, rfl, List.Mem.tail _ (List.Mem.head _), by rw [cellsOf_length, Nat.mul_one]⟩) (by omega) (by omega) (cellsOf_snoc (by rw [if_neg hek]; exact hx0)) rfl ?_; intro M2) | (refine so_appOwn (m := 1) (bt := 8) rfl rfl (fun h => nomatch h) rfl rfl rfl rfl rfl Try.underlying22 Try.underlying22 rfl inf3 rfl rfl (by decide) rfl (by decide) (first_own (List.Mem.head _) rfl) (.succ .zero) (by rw [cellsOf_length, Nat.mul_one]) rfl (by omega) (by omega) (cellsOf_snoc (by rw [if_neg hek]; exact hx0)) (fun h => nomatch h) rfl ?_; intro M2)
        refine so_assign rfl rfl rfl ?_
        refine so_nil ?_
        refine sk_block ?_
        refine sk_then ?_
        refine sx_region (E := E) ?_
        refine so_move rfl rfl rfl ?_
        refine so_bin rfl rfl rfl rfl (by first | exact bin_incr (by omega) | exact bin_add (wrap64 (by omega) (by omega)) | exact bin_add rfl) ?_
        refine so_assign rfl rfl rfl ?_
        refine so_nil ?_
        exact sk_round (k + 1, M2, false) (show pl.length - (k + 1) < pl.length - k by omega) (show k + 1 ≤ pl.length by omega) (by repeat (first | exact .nil | refine .cons rfl ?_)) rfl rfl (by repeat (first | exact List.nil_sublist _ | apply List.Sublist.cons_cons | apply List.Sublist.cons))
  · skip
    obtain rfl : k = pl.length := by omega
    refine sx_region (E := E) ?_
    refine so_move rfl rfl rfl ?_
    refine so_fieldO (o' := 8) rfl rfl rfl Try.underlying48 rfl inf38 rfl rfl ?_
    refine so_fieldO (o' := 35) rfl rfl rfl Try.underlying38 rfl inf22 rfl rfl ?_
    refine so_load rfl rfl rfl (by first | exact ld_own Try.underlying22 rfl (by repeat (first | exact List.Mem.head _ | apply List.Mem.tail)) (by first | exact (cellsOf_get rfl).trans (congrArg some hp35) | exact cellsOf_get rfl | rfl) | exact ld_data Try.underlying22 rfl (by first | assumption | exact InA.add (by assumption) | exact InA.add (InA.add (by assumption))) (by assumption)) ?_
    refine so_lenL rfl rfl rfl rfl rfl rfl Try.underlying22 ?_
    refine so_bin rfl rfl rfl rfl (by first | exact bin_lss_t (by omega) | exact bin_lss_f (by omega)) ?_
    refine so_then ?_
    refine sx_false rfl ?_
    refine sx_exit ?_
    refine sk_then_exit ?_
    refine sk_loop_exit ?_
    refine sk_block_exit ?_
    refine sk_then ?_
    refine sx_region (E := E) ?_
    refine so_move rfl rfl rfl ?_
    refine so_fieldO (o' := 8) rfl rfl rfl Try.underlying48 rfl inf38 rfl rfl ?_
    refine so_fieldO (o' := 35) rfl rfl rfl Try.underlying38 rfl inf22 rfl rfl ?_
    refine so_storeS rfl (fun h => nomatch h) rfl rfl inf22 rfl rfl (by repeat (first | exact .zero | apply Upd.succ)) (by first | exact cellsOf_set rfl | exact cellsOf_setr rfl | exact cellsOf_store rfl | exact store_all rfl | rfl) (by first | exact cellsOf_in rfl rfl | exact cellsOf_in rfl (cellsOf_length _ _) | exact cellsOf_le rfl | exact Nat.le_of_ble_eq_true rfl | omega) (fun h => nomatch h) ?_
    refine so_nil ?_
    refine sk_block ?_
    refine sk_then ?_
    refine sx_seq ?_
    refine sx_freeze .zero ?_
    intro Hf Af gf hAf hgf
    have py := pts_up (px.gr gf) (o := 35) (k := .row 8 [.int .i64]) (d := .row (pl.set 2 [numC v])) (v := .slice (some ⟨2 * M + 1, 0, none⟩) pl.length pl.length) rfl (set_row hgf hAf rp hpv hv hpn hpb)
    refine sx_region (E := E) ?_
    refine so_load rfl rfl rfl (by first | exact ld_ownA Try.underlying48 rfl inf48 rfl (by repeat (first | exact List.Mem.head _ | apply List.Mem.tail)) (by first | exact cellsOf_le rfl | decide | omega) (by first | exact cellsOf_all | exact cellsOf_part rfl | rfl) | exact ld_dataA Try.underlying48 rfl inf48 rfl (by first | assumption | exact InA.add (by assumption) | exact InA.add (InA.add (by assumption))) (by assumption)) ?_
    refine so_storeA rfl (fun h => nomatch h) rfl rfl inf48 (by first | exact cellsOf_length _ _ | rfl) (CellsA.one (py.cells (n := 84) rfl)) (by repeat (first | exact .zero | apply Upd.succ)) (by first | exact cellsOf_set rfl | exact cellsOf_setr rfl | exact cellsOf_store rfl | exact store_all rfl | rfl) (by first | exact cellsOf_in rfl rfl | exact cellsOf_in rfl (cellsOf_length _ _) | exact cellsOf_le rfl | exact Nat.le_of_ble_eq_true rfl | omega) (fun h => nomatch h) ?_
    refine so_then ?_
    refine sx_ret ?_
    refine sk_return1 (.cell rfl (by first | exact ld_ownA Try.underlying48 rfl inf48 rfl (by repeat (first | exact List.Mem.head _ | apply List.Mem.tail)) (by first | exact cellsOf_le rfl | decide | omega) (by first | exact cellsOf_all | exact cellsOf_part rfl | rfl) | exact ld_dataA Try.underlying48 rfl inf48 rfl (by first | assumption | exact InA.add (by assumption) | exact InA.add (InA.add (by assumption))) (by assumption)) .nil) ?_
    exact fun H hH => setR_of hH py

set_option maxHeartbeats 1000000 in
theorem set_param3 {S : AH} {A : Nat → Prop} (hA : ∀ j, A j → j < S.nx) {x : Nat → Value} {c : Nat → CT} (px : Pts A S k48 x c) {v : Int} (hv : (Lit.int .i64 v).wf = true) {pl : List (List CT)} (epl : c 35 = .row pl) (hkk : 3 < pl.length) : XCall Try.prog 23 [.agg ⟨cellsOf 84 x⟩, .string ⟨⟨[112, 97, 114, 97, 109, 51]⟩⟩, .int .i64 v] S (SetR (upC c 35 (.row (pl.set 3 [numC v]))) A S) := by
  obtain ⟨pl2, ap, cp, ep, hp35, rp⟩ := (px 35 _ rfl).rowD
  rw [epl] at ep; cases ep
  have hpn := rp.len
  have hpb := rp.bytes
  obtain ⟨pv, hpv⟩ := row_vals rp
  refine x_enter (E := E) (n := 115) (rs := [.cell 6 48]) (l := [(2, _), (1, _), (0, _)]) (fn_own Try.func23 rfl rfl rfl) hA rfl ?_
  refine sx_seq ?_
  refine sx_region (E := E) ?_
  refine so_boxA rfl rfl (fun h => nomatch h) rfl ?_
  intro N3
  refine so_alloc (cs := (.int .i64 0 :: .int .i64 0 :: .int .i64 0 :: .int .i64 0 :: .int .i64 0 :: .int .i64 0 :: .string ⟨#[]⟩ :: .string ⟨#[]⟩ :: .int .i64 0 :: .int .i64 0 :: .int .i64 0 :: .string ⟨#[]⟩ :: .bool false :: .bool false :: .bool false :: .int .i64 0 :: .int .i64 0 :: .int .i64 0 :: .int .i64 0 :: .slice none 0 0 :: .int .i64 0 :: .int .i64 0 :: .int .i64 0 :: .int .i64 0 :: .int .i64 0 :: .int .i64 0 :: .int .i64 0 :: .int .i64 0 :: .int .i64 0 :: .slice none 0 0 :: .int .i64 0 :: .int .i64 0 :: .int .i64 0 :: .int .i64 0 :: .int .i64 0 :: .slice none 0 0 :: .int .i64 0 :: .slice none 0 0 :: .slice none 0 0 :: .int .i64 0 :: .int .i64 0 :: .int .i64 0 :: .int .i64 0 :: .string ⟨#[]⟩ :: .int .i64 0 :: .int .i64 0 :: .int .i64 0 :: .int .i64 0 :: .int .i64 0 :: .int .i64 0 :: .slice none 0 0 :: .int .i64 0 :: .int .i64 0 :: .slice none 0 0 :: .int .i64 0 :: .int .i64 0 :: .slice none 0 0 :: .int .i64 0 :: .int .i64 0 :: .int .i64 0 :: .int .i64 0 :: .int .i64 0 :: .int .i64 0 :: .int .i64 0 :: .int .i64 0 :: .int .i64 0 :: .int .i64 0 :: .int .i64 0 :: .int .i64 0 :: .int .i64 0 :: .int .i64 0 :: .slice none 0 0 :: .bool false :: .slice none 0 0 :: .int .i64 0 :: .int .i64 0 :: .int .i64 0 :: .int .i64 0 :: .int .i64 0 :: .int .i64 0 :: .int .i64 0 :: .int .i64 0 :: .int .i64 0 :: .int .i64 0 :: [])) rfl rfl (fun h => nomatch h) inf48 rfl rfl ?_
  intro N6
  refine so_then ?_
  refine sx_seq ?_
  refine sx_seq ?_
  refine sx_region (E := E) ?_
  refine so_move rfl rfl rfl ?_
  refine so_then ?_
  refine sx_block ?_
  refine sx_seq ?_
  refine sx_region (E := E) ?_
  refine so_bin rfl rfl rfl rfl (by first | exact bin_seql_t (by first | rfl | assumption | decide) | exact bin_seql_f (by first | rfl | assumption | decide)) ?_
  refine so_assign rfl rfl rfl ?_
  refine so_then ?_
  refine sx_false rfl ?_
  refine sx_seq ?_
  refine sx_region (E := E) ?_
  refine so_bin rfl rfl rfl rfl (by first | exact bin_seql_t (by first | rfl | assumption | decide) | exact bin_seql_f (by first | rfl | assumption | decide)) ?_
  refine so_assign rfl rfl rfl ?_
  refine so_then ?_
  refine sx_false rfl ?_
  refine sx_seq ?_
  refine sx_region (E := E) ?_
  refine so_bin rfl rfl rfl rfl (by first | exact bin_seql_t (by first | rfl | assumption | decide) | exact bin_seql_f (by first | rfl | assumption | decide)) ?_
  refine so_assign rfl rfl rfl ?_
  refine so_then ?_
  refine sx_false rfl ?_
  refine sx_seq ?_
  refine sx_region (E := E) ?_
  refine so_bin rfl rfl rfl rfl (by first | exact bin_seql_t (by first | rfl | assumption | decide) | exact bin_seql_f (by first | rfl | assumption | decide)) ?_
  refine so_assign rfl rfl rfl ?_
  refine so_then ?_
  refine sx_false rfl ?_
  refine sx_seq ?_
  refine sx_region (E := E) ?_
  refine so_bin rfl rfl rfl rfl (by first | exact bin_seql_t (by first | rfl | assumption | decide) | exact bin_seql_f (by first | rfl | assumption | decide)) ?_
  refine so_assign rfl rfl rfl ?_
  refine so_then ?_
  refine sx_false rfl ?_
  refine sx_seq ?_
  refine sx_region (E := E) ?_
  refine so_bin rfl rfl rfl rfl (by first | exact bin_seql_t (by first | rfl | assumption | decide) | exact bin_seql_f (by first | rfl | assumption | decide)) ?_
  refine so_assign rfl rfl rfl ?_
  refine so_then ?_
  refine sx_false rfl ?_
  refine sx_seq ?_
  refine sx_region (E := E) ?_
  refine so_bin rfl rfl rfl rfl (by first | exact bin_seql_t (by first | rfl | assumption | decide) | exact bin_seql_f (by first | rfl | assumption | decide)) ?_
  refine so_assign rfl rfl rfl ?_
  refine so_then ?_
  refine sx_false rfl ?_
  refine sx_seq ?_
  refine sx_region (E := E) ?_
  refine so_bin rfl rfl rfl rfl (by first | exact bin_seql_t (by first | rfl | assumption | decide) | exact bin_seql_f (by first | rfl | assumption | decide)) ?_
  refine so_assign rfl rfl rfl ?_
  refine so_then ?_
  refine sx_false rfl ?_
  refine sx_seq ?_
  refine sx_region (E := E) ?_
  refine so_bin rfl rfl rfl rfl (by first | exact bin_seql_t (by first | rfl | assumption | decide) | exact bin_seql_f (by first | rfl | assumption | decide)) ?_
  refine so_assign rfl rfl rfl ?_
  refine so_then ?_
  refine sx_false rfl ?_
  refine sx_seq ?_
  refine sx_region (E := E) ?_
  refine so_bin rfl rfl rfl rfl (by first | exact bin_seql_t (by first | rfl | assumption | decide) | exact bin_seql_f (by first | rfl | assumption | decide)) ?_
  refine so_assign rfl rfl rfl ?_
  refine so_then ?_
  refine sx_false rfl ?_
  refine sx_seq ?_
  refine sx_region (E := E) ?_
  refine so_bin rfl rfl rfl rfl (by first | exact bin_seql_t (by first | rfl | assumption | decide) | exact bin_seql_f (by first | rfl | assumption | decide)) ?_
  refine so_assign rfl rfl rfl ?_
  refine so_then ?_
  refine sx_false rfl ?_
  refine sx_seq ?_
  refine sx_region (E := E) ?_
  refine so_bin rfl rfl rfl rfl (by first | exact bin_seql_t (by first | rfl | assumption | decide) | exact bin_seql_f (by first | rfl | assumption | decide)) ?_
  refine so_assign rfl rfl rfl ?_
  refine so_then ?_
  refine sx_false rfl ?_
  refine sx_seq ?_
  refine sx_region (E := E) ?_
  refine so_bin rfl rfl rfl rfl (by first | exact bin_seql_t (by first | rfl | assumption | decide) | exact bin_seql_f (by first | rfl | assumption | decide)) ?_
  refine so_assign rfl rfl rfl ?_
  refine so_then ?_
  refine sx_false rfl ?_
  refine sx_seq ?_
  refine sx_region (E := E) ?_
  refine so_bin rfl rfl rfl rfl (by first | exact bin_seql_t (by first | rfl | assumption | decide) | exact bin_seql_f (by first | rfl | assumption | decide)) ?_
  refine so_assign rfl rfl rfl ?_
  refine so_then ?_
  refine sx_false rfl ?_
  refine sx_seq ?_
  refine sx_region (E := E) ?_
  refine so_bin rfl rfl rfl rfl (by first | exact bin_seql_t (by first | rfl | assumption | decide) | exact bin_seql_f (by first | rfl | assumption | decide)) ?_
  refine so_assign rfl rfl rfl ?_
  refine so_then ?_
  refine sx_false rfl ?_
  refine sx_seq ?_
  refine sx_region (E := E) ?_
  refine so_bin rfl rfl rfl rfl (by first | exact bin_seql_t (by first | rfl | assumption | decide) | exact bin_seql_f (by first | rfl | assumption | decide)) ?_
  refine so_assign rfl rfl rfl ?_
  refine so_then ?_
  refine sx_false rfl ?_
  refine sx_seq ?_
  refine sx_region (E := E) ?_
  refine so_buildSlice (out := cellsOf 0 (fun i => if i = 3 then .int .i64 v else pv i)) rfl rfl (fun h => nomatch h) (by repeat (first | exact Opps.nil | apply Opps.cons rfl)) Try.underlying22 inf3 rfl rfl (by kernel_rfl) rfl rfl ?_
  intro N10
  refine so_assign rfl rfl rfl ?_
  refine so_then ?_
  refine sx_seq ?_
  refine sx_seq ?_
  refine sx_region (E := E) ?_
  refine so_assign rfl rfl rfl ?_
  refine so_then ?_
  refine sx_block ?_
  refine sx_loop (σ := Nat × Nat × Bool) (fun q => pl.length - q.1) (fun q => [(1, .string ⟨⟨[112, 97, 114, 97, 109, 51]⟩⟩), (2, .int .i64 v), (3, .pointer (some ⟨2 * N3 + 1, 0, none⟩)), (6, .pointer (some ⟨2 * N6 + 1, 0, none⟩)), (7, .slice (some ⟨2 * q.2.1 + 1, 0, none⟩) q.1 q.1), (8, .int .i64 ((q.1 : Nat) : Int))]) (fun _ => S) (fun _ => A) (fun q => [(q.2.1, .cells (cellsOf q.1 (fun i => if i = 3 then .int .i64 v else pv i)) 1 q.2.2), (N6, .cells (.int .i64 0 :: .int .i64 0 :: .int .i64 0 :: .int .i64 0 :: .int .i64 0 :: .int .i64 0 :: .string ⟨#[]⟩ :: .string ⟨#[]⟩ :: .int .i64 0 :: .int .i64 0 :: .int .i64 0 :: .string ⟨#[]⟩ :: .bool false :: .bool false :: .bool false :: .int .i64 0 :: .int .i64 0 :: .int .i64 0 :: .int .i64 0 :: .slice none 0 0 :: .int .i64 0 :: .int .i64 0 :: .int .i64 0 :: .int .i64 0 :: .int .i64 0 :: .int .i64 0 :: .int .i64 0 :: .int .i64 0 :: .int .i64 0 :: .slice none 0 0 :: .int .i64 0 :: .int .i64 0 :: .int .i64 0 :: .int .i64 0 :: .int .i64 0 :: .slice none 0 0 :: .int .i64 0 :: .slice none 0 0 :: .slice none 0 0 :: .int .i64 0 :: .int .i64 0 :: .int .i64 0 :: .int .i64 0 :: .string ⟨#[]⟩ :: .int .i64 0 :: .int .i64 0 :: .int .i64 0 :: .int .i64 0 :: .int .i64 0 :: .int .i64 0 :: .slice none 0 0 :: .int .i64 0 :: .int .i64 0 :: .slice none 0 0 :: .int .i64 0 :: .int .i64 0 :: .slice none 0 0 :: .int .i64 0 :: .int .i64 0 :: .int .i64 0 :: .int .i64 0 :: .int .i64 0 :: .int .i64 0 :: .int .i64 0 :: .int .i64 0 :: .int .i64 0 :: .int .i64 0 :: .int .i64 0 :: .int .i64 0 :: .int .i64 0 :: .int .i64 0 :: .slice none 0 0 :: .bool false :: .slice none 0 0 :: .int .i64 0 :: .int .i64 0 :: .int .i64 0 :: .int .i64 0 :: .int .i64 0 :: .int .i64 0 :: .int .i64 0 :: .int .i64 0 :: .int .i64 0 :: .int .i64 0 :: []) (boxsz E 48) true), (N3, .cells (cellsOf 84 x) (boxsz E 48) true)]) (fun q => q.1 ≤ pl.length) ((0, N10, true)) (Nat.zero_le _) (by repeat (first | exact .nil | refine .cons rfl ?_)) rfl rfl (by repeat (first | exact List.nil_sublist _ | apply List.Sublist.cons_cons | apply List.Sublist.cons)) ?_
  intro s hJ t1
  obtain ⟨k, M, ex⟩ := s
  replace hJ : k ≤ pl.length := hJ
  dsimp only
  refine sx_seq ?_
  refine sx_seq ?_
  rcases Nat.lt_or_ge k pl.length with hk | hk
  · skip
    obtain ⟨qa, us, d, rfl, ia, hc, la, ka⟩ := rp.at' k hk
    obtain ⟨x0, rfl, la1⟩ := aloads_one la
    have hx0 : x0 = pv k := hpv k x0 hk ⟨_, rfl, la1⟩
    obtain ⟨n0, rfl⟩ := row_int ka
    refine sx_region (E := E) ?_
    refine so_move rfl rfl rfl ?_
    refine so_fieldO (o' := 8) rfl rfl rfl Try.underlying48 rfl inf38 rfl rfl ?_
    refine so_fieldO (o' := 35) rfl rfl rfl Try.underlying38 rfl inf22 rfl rfl ?_
    refine so_load rfl rfl rfl (by first | exact ld_own Try.underlying22 rfl (by repeat (first | exact List.Mem.head _ | apply List.Mem.tail)) (by first | exact (cellsOf_get rfl).trans (congrArg some hp35) | exact cellsOf_get rfl | rfl) | exact ld_data Try.underlying22 rfl (by first | assumption | exact InA.add (by assumption) | exact InA.add (InA.add (by assumption))) (by assumption)) ?_
    refine so_lenL rfl rfl rfl rfl rfl rfl Try.underlying22 ?_
    refine so_bin rfl rfl rfl rfl (by first | exact bin_lss_t (by omega) | exact bin_lss_f (by omega)) ?_
    refine so_then ?_
    refine sx_true rfl ?_
    refine sx_skip ?_
    refine sk_then ?_
    refine sx_seq ?_
    refine sx_block ?_
    refine sx_seq ?_
    by_cases hek : k = 3
    · skip
      refine sx_region (E := E) ?_
      refine so_move rfl rfl rfl ?_
      refine so_move rfl rfl rfl ?_
      refine so_call rfl rfl (fun h => nomatch h) rfl has40 (by repeat (first | exact Opvs.nil | apply Opvs.cons rfl)) (fun H hH => (pindex_ok ⟨⟨[112, 97, 114, 97, 109, 51]⟩⟩).i (b' := ((3 : Nat) : Int)) (by decide)) ?_
      refine so_bin rfl rfl rfl rfl (by first | exact bin_eql_t (by omega) | exact bin_eql_f (by omega) | exact bin_eql_t (by first | rfl | assumption | omega) | exact bin_eql_f (by first | rfl | assumption | omega)) ?_
      refine so_then ?_
      refine sx_true rfl ?_
      refine sx_region (E := E) ?_
      refine so_move rfl rfl rfl ?_
      refine so_move rfl rfl rfl ?_
      refine so_buildSlice (out := [.int .i64 v]) rfl rfl (fun h => nomatch h) (by repeat (first | exact Opps.nil | apply Opps.cons rfl)) Try.underlying22 inf3 rfl rfl (by kernel_rfl) rfl rfl ?_
      intro N25
      cases ex
      · skip
        first | (refine so_appNew (m := 1) (bt := 8) rfl rfl (fun h => nomatch h) rfl rfl rfl rfl rfl Try.underlying22 Try.underlying22 rfl inf3 rfl rfl (by decide) rfl (by decide) (first_own (List.Mem.head _) rfl) (.inr ⟨M, rfl, List.Mem.tail _ (List.Mem.head _), by rw [cellsOf_length, Nat.mul_one]⟩) (by omega) (by omega) (cellsOf_snoc (by rw [if_pos hek])) rfl ?_; intro M2) | (refine so_appOwn (m := 1) (bt := 8) rfl rfl (fun h => nomatch h) rfl rfl rfl rfl rfl Try.underlying22 Try.underlying22 rfl inf3 rfl rfl (by decide) rfl (by decide) (first_own (List.Mem.head _) rfl) (.succ .zero) (by rw [cellsOf_length, Nat.mul_one]) rfl (by omega) (by omega) (cellsOf_snoc (by rw [if_pos hek])) (fun h => nomatch h) rfl ?_; intro M2)
        refine so_assign rfl rfl rfl ?_
        refine so_nil ?_
        refine sk_block ?_
        refine sk_then ?_
        refine sx_region (E := E) ?_
        refine so_move rfl rfl rfl ?_
        refine so_bin rfl rfl rfl rfl (by first | exact bin_incr (by omega) | exact bin_add (wrap64 (by omega) (by omega)) | exact bin_add rfl) ?_
        refine so_assign rfl rfl rfl ?_
        refine so_nil ?_
        exact sk_round (k + 1, M2, false) (show pl.length - (k + 1) < pl.length - k by omega) (show k + 1 ≤ pl.length by omega) (by repeat (first | exact .nil | refine .cons rfl ?_)) rfl rfl (by repeat (first | exact List.nil_sublist _ | apply List.Sublist.cons_cons | apply List.Sublist.cons))
      · skip
        first | (refine so_appNew (m := 1) (bt := 8) rfl rfl (fun h => nomatch h) rfl rfl rfl rfl rfl Try.underlying22 Try.underlying22 rfl inf3 rfl rfl (by decide) rfl (by decide) (first_own (List.Mem.head _) rfl) (.inr ⟨M, rfl, List.Mem.tail _ (List.Mem.head _), by rw [cellsOf_length, Nat.mul_one]⟩) (by omega) (by omega) (cellsOf_snoc (by rw [if_pos hek])) rfl ?_; intro M2) | (refine so_appOwn (m := 1) (bt := 8) rfl rfl (fun h => nomatch h) rfl rfl rfl rfl rfl Try.underlying22 Try.underlying22 rfl inf3 rfl rfl (by decide) rfl (by decide) (first_own (List.Mem.head _) rfl) (.succ .zero) (by rw [cellsOf_length, Nat.mul_one]) rfl (by omega) (by omega) (cellsOf_snoc (by rw [if_pos hek])) (fun h => nomatch h) rfl ?_; intro M2)
        refine so_assign rfl rfl rfl ?_
        refine so_nil ?_
        refine sk_block ?_
        refine sk_then ?_
        refine sx_region (E := E) ?_
        refine so_move rfl rfl rfl ?_
        refine so_bin rfl rfl rfl rfl (by first | exact bin_incr (by omega) | exact bin_add (wrap64 (by omega) (by omega)) | exact bin_add rfl) ?_
        refine so_assign rfl rfl rfl ?_
        refine so_nil ?_
        exact sk_round (k + 1, M2, false) (show pl.length - (k + 1) < pl.length - k by omega) (show k + 1 ≤ pl.length by omega) (by repeat (first | exact .nil | refine .cons rfl ?_)) rfl rfl (by repeat (first | exact List.nil_sublist _ | apply List.Sublist.cons_cons | apply List.Sublist.cons))
    · skip
      refine sx_region (E := E) ?_
      refine so_move rfl rfl rfl ?_
      refine so_move rfl rfl rfl ?_
      refine so_call rfl rfl (fun h => nomatch h) rfl has40 (by repeat (first | exact Opvs.nil | apply Opvs.cons rfl)) (fun H hH => (pindex_ok ⟨⟨[112, 97, 114, 97, 109, 51]⟩⟩).i (b' := ((3 : Nat) : Int)) (by decide)) ?_
      refine so_bin rfl rfl rfl rfl (by first | exact bin_eql_t (by omega) | exact bin_eql_f (by omega) | exact bin_eql_t (by first | rfl | assumption | omega) | exact bin_eql_f (by first | rfl | assumption | omega)) ?_
      refine so_then ?_
      refine sx_false rfl ?_
      refine sx_region (E := E) ?_
      refine so_move rfl rfl rfl ?_
      refine so_fieldO (o' := 8) rfl rfl rfl Try.underlying48 rfl inf38 rfl rfl ?_
      refine so_fieldO (o' := 35) rfl rfl rfl Try.underlying38 rfl inf22 rfl rfl ?_
      refine so_load rfl rfl rfl (by first | exact ld_own Try.underlying22 rfl (by repeat (first | exact List.Mem.head _ | apply List.Mem.tail)) (by first | exact (cellsOf_get rfl).trans (congrArg some hp35) | exact cellsOf_get rfl | rfl) | exact ld_data Try.underlying22 rfl (by first | assumption | exact InA.add (by assumption) | exact InA.add (InA.add (by assumption))) (by assumption)) ?_
      refine so_move rfl rfl rfl ?_
      first | refine so_indexO rfl rfl rfl rfl Try.underlying22 inf3 rfl (by omega) rfl ?_ | refine so_index rfl rfl rfl rfl Try.underlying22 inf3 rfl (by omega) ?_
      refine so_load rfl rfl rfl (by first | exact ld_own Try.underlying3 rfl (by repeat (first | exact List.Mem.head _ | apply List.Mem.tail)) (by first | exact (cellsOf_get rfl).trans (congrArg some hp35) | exact cellsOf_get rfl | rfl) | exact ld_data Try.underlying3 rfl (by first | assumption | exact InA.add (by assumption) | exact InA.add (InA.add (by assumption))) (by assumption)) ?_
      refine so_buildSlice (out := [.int .i64 n0]) rfl rfl (fun h => nomatch h) (by repeat (first | exact Opps.nil | apply Opps.cons rfl)) Try.underlying22 inf3 rfl rfl (by kernel_rfl) rfl rfl ?_
      intro N34
      cases ex
      · skip
        first | (refine so_appNew (m := 1) (bt := 8) rfl rfl (fun h => nomatch h) rfl rfl rfl rfl rfl Try.underlying22 Try.underlying22 rfl inf3 rfl rfl (by decide) rfl (by decide) (first_own (List.Mem.head _) rfl) (.inr ⟨M, rfl, List.Mem.tail _ (List.Mem.head _), by rw [cellsOf_length, Nat.mul_one]⟩) (by omega) (by omega) (cellsOf_snoc (by rw [if_neg hek]; exact hx0)) rfl ?_; intro M2) | (refine so_appOwn (m := 1) (bt := 8) rfl rfl (fun h => nomatch h) rfl rfl rfl rfl rfl Try.underlying22 Try.underlying22 rfl inf3 rfl rfl (by decide) rfl (by decide) (first_own (List.Mem.head _) rfl) (.succ .zero) (by rw [cellsOf_length, Nat.mul_one]) rfl (by omega) (by omega) (cellsOf_snoc (by rw [if_neg hek]; exact hx0)) (fun h => nomatch h) rfl ?_; intro M2)
        refine so_assign rfl rfl rfl ?_
        refine so_nil ?_
        refine sk_block ?_
        refine sk_then ?_
        refine sx_region (E := E) ?_
        refine so_move rfl rfl rfl ?_
        refine so_bin rfl rfl rfl rfl (by first | exact bin_incr (by omega) | exact bin_add (wrap64 (by omega) (by omega)) | exact bin_add rfl) ?_
        refine so_assign rfl rfl rfl ?_
        refine so_nil ?_
        exact sk_round (k + 1, M2, false) (show pl.length - (k + 1) < pl.length - k by omega) (show k + 1 ≤ pl.length by omega) (by repeat (first | exact .nil | refine .cons rfl ?_)) rfl rfl (by repeat (first | exact List.nil_sublist _ | apply List.Sublist.cons_cons | apply List.Sublist.cons))
      · skip
        first | (refine so_appNew (m := 1) (bt := 8) rfl rfl (fun h => nomatch h) rfl rfl rfl rfl rfl Try.underlying22 Try.underlying22 rfl inf3 rfl rfl (by decide) rfl (by decide) (first_own (List.Mem.head _) rfl) (.inr ⟨M, rfl, List.Mem.tail _ (List.Mem.head _), by rw [cellsOf_length, Nat.mul_one]⟩) (by omega) (by omega) (cellsOf_snoc (by rw [if_neg hek]; exact hx0)) rfl ?_; intro M2) | (refine so_appOwn (m := 1) (bt := 8) rfl rfl (fun h => nomatch h) rfl rfl rfl rfl rfl Try.underlying22 Try.underlying22 rfl inf3 rfl rfl (by decide) rfl (by decide) (first_own (List.Mem.head _) rfl) (.succ .zero) (by rw [cellsOf_length, Nat.mul_one]) rfl (by omega) (by omega) (cellsOf_snoc (by rw [if_neg hek]; exact hx0)) (fun h => nomatch h) rfl ?_; intro M2)
        refine so_assign rfl rfl rfl ?_
        refine so_nil ?_
        refine sk_block ?_
        refine sk_then ?_
        refine sx_region (E := E) ?_
        refine so_move rfl rfl rfl ?_
        refine so_bin rfl rfl rfl rfl (by first | exact bin_incr (by omega) | exact bin_add (wrap64 (by omega) (by omega)) | exact bin_add rfl) ?_
        refine so_assign rfl rfl rfl ?_
        refine so_nil ?_
        exact sk_round (k + 1, M2, false) (show pl.length - (k + 1) < pl.length - k by omega) (show k + 1 ≤ pl.length by omega) (by repeat (first | exact .nil | refine .cons rfl ?_)) rfl rfl (by repeat (first | exact List.nil_sublist _ | apply List.Sublist.cons_cons | apply List.Sublist.cons))
  · skip
    obtain rfl : k = pl.length := by omega
    refine sx_region (E := E) ?_
    refine so_move rfl rfl rfl ?_
    refine so_fieldO (o' := 8) rfl rfl rfl Try.underlying48 rfl inf38 rfl rfl ?_
    refine so_fieldO (o' := 35) rfl rfl rfl Try.underlying38 rfl inf22 rfl rfl ?_
    refine so_load rfl rfl rfl (by first | exact ld_own Try.underlying22 rfl (by repeat (first | exact List.Mem.head _ | apply List.Mem.tail)) (by first | exact (cellsOf_get rfl).trans (congrArg some hp35) | exact cellsOf_get rfl | rfl) | exact ld_data Try.underlying22 rfl (by first | assumption | exact InA.add (by assumption) | exact InA.add (InA.add (by assumption))) (by assumption)) ?_
    refine so_lenL rfl rfl rfl rfl rfl rfl Try.underlying22 ?_
    refine so_bin rfl rfl rfl rfl (by first | exact bin_lss_t (by omega) | exact bin_lss_f (by omega)) ?_
    refine so_then ?_
    refine sx_false rfl ?_
    refine sx_exit ?_
    refine sk_then_exit ?_
    refine sk_loop_exit ?_
    refine sk_block_exit ?_
    refine sk_then ?_
    refine sx_region (E := E) ?_
    refine so_move rfl rfl rfl ?_
    refine so_fieldO (o' := 8) rfl rfl rfl Try.underlying48 rfl inf38 rfl rfl ?_
    refine so_fieldO (o' := 35) rfl rfl rfl Try.underlying38 rfl inf22 rfl rfl ?_
    refine so_storeS rfl (fun h => nomatch h) rfl rfl inf22 rfl rfl (by repeat (first | exact .zero | apply Upd.succ)) (by first | exact cellsOf_set rfl | exact cellsOf_setr rfl | exact cellsOf_store rfl | exact store_all rfl | rfl) (by first | exact cellsOf_in rfl rfl | exact cellsOf_in rfl (cellsOf_length _ _) | exact cellsOf_le rfl | exact Nat.le_of_ble_eq_true rfl | omega) (fun h => nomatch h) ?_
    refine so_nil ?_
    refine sk_block ?_
    refine sk_then ?_
    refine sx_seq ?_
    refine sx_freeze .zero ?_
    intro Hf Af gf hAf hgf
    have py := pts_up (px.gr gf) (o := 35) (k := .row 8 [.int .i64]) (d := .row (pl.set 3 [numC v])) (v := .slice (some ⟨2 * M + 1, 0, none⟩) pl.length pl.length) rfl (set_row hgf hAf rp hpv hv hpn hpb)
    refine sx_region (E := E) ?_
    refine so_load rfl rfl rfl (by first | exact ld_ownA Try.underlying48 rfl inf48 rfl (by repeat (first | exact List.Mem.head _ | apply List.Mem.tail)) (by first | exact cellsOf_le rfl | decide | omega) (by first | exact cellsOf_all | exact cellsOf_part rfl | rfl) | exact ld_dataA Try.underlying48 rfl inf48 rfl (by first | assumption | exact InA.add (by assumption) | exact InA.add (InA.add (by assumption))) (by assumption)) ?_
    refine so_storeA rfl (fun h => nomatch h) rfl rfl inf48 (by first | exact cellsOf_length _ _ | rfl) (CellsA.one (py.cells (n := 84) rfl)) (by repeat (first | exact .zero | apply Upd.succ)) (by first | exact cellsOf_set rfl | exact cellsOf_setr rfl | exact cellsOf_store rfl | exact store_all rfl | rfl) (by first | exact cellsOf_in rfl rfl | exact cellsOf_in rfl (cellsOf_length _ _) | exact cellsOf_le rfl | exact Nat.le_of_ble_eq_true rfl | omega) (fun h => nomatch h) ?_
    refine so_then ?_
    refine sx_ret ?_
    refine sk_return1 (.cell rfl (by first | exact ld_ownA Try.underlying48 rfl inf48 rfl (by repeat (first | exact List.Mem.head _ | apply List.Mem.tail)) (by first | exact cellsOf_le rfl | decide | omega) (by first | exact cellsOf_all | exact cellsOf_part rfl | rfl) | exact ld_dataA Try.underlying48 rfl inf48 rfl (by first | assumption | exact InA.add (by assumption) | exact InA.add (InA.add (by assumption))) (by assumption)) .nil) ?_
    exact fun H hH => setR_of hH py

end Go.Proofs.Ytaedeadgbojmnaa
