/-
  Walks, laid by program.
-/
import Derived.Test.YtaedeadgbojmnaaC6
set_option linter.unusedVariables false
set_option linter.unusedSimpArgs false
set_option maxRecDepth 100000
namespace Go.Proofs.Ytaedeadgbojmnaa
open Go Go.AM

theorem pts_edit {A : Nat → Prop} {H : AH} {x : Nat → Value} {c : Nat → CT} (px : Pts A H k51 x c) : Pts A H k48 (fun i => x (0 + i)) c := fun i k hk => by
  have e : k51 = k48 ++ [.row 32 k79] := by kernel_rfl
  simp only [Nat.zero_add]
  exact px i k (by rw [e, List.getElem?_append_left (lt_of_getElem? hk)]; exact hk)
set_option maxHeartbeats 2000000 in
theorem rfill_ok {S : AH} {A : Nat → Prop} (hA : ∀ j, A j → j < S.nx) {x : Nat → Value} {c : Nat → CT} (px : Pts A S k51 x c) {z : Value} {al : List (List CT)} (hz : CellA A S (.row 24 k73) z (.row al)) : XCall Try.prog 8 [.agg ⟨cellsOf 85 x⟩, z] S (FillR c al A S) := by
  obtain ⟨bl, ab, cb, eb, hb84, rb⟩ := (px 84 _ rfl).rowD
  obtain ⟨pl, ap, cp, ep, hp35, rp⟩ := (px 35 _ rfl).rowD
  obtain ⟨al2, aa, ca, e2, rfl, ra⟩ := hz.rowD
  cases e2
  obtain ⟨hbo, hpo⟩ := parts_fn c eb ep
  have hbb := rb.len
  have haa := ra.len
  clear hz
  refine x_enter (E := E) (n := 87) (rs := [.cell 4 48, .tmp 5]) (l := [(1, _), (0, _)]) (fn_own Try.func8 rfl rfl rfl) hA rfl ?_
  refine sx_seq ?_
  refine sx_region (E := E) ?_
  refine so_boxA rfl rfl (fun h => nomatch h) rfl ?_
  intro N2
  refine so_alloc (cs := (.int .i64 0 :: .int .i64 0 :: .int .i64 0 :: .int .i64 0 :: .int .i64 0 :: .int .i64 0 :: .string ⟨#[]⟩ :: .string ⟨#[]⟩ :: .int .i64 0 :: .int .i64 0 :: .int .i64 0 :: .string ⟨#[]⟩ :: .bool false :: .bool false :: .bool false :: .int .i64 0 :: .int .i64 0 :: .int .i64 0 :: .int .i64 0 :: .slice none 0 0 :: .int .i64 0 :: .int .i64 0 :: .int .i64 0 :: .int .i64 0 :: .int .i64 0 :: .int .i64 0 :: .int .i64 0 :: .int .i64 0 :: .int .i64 0 :: .slice none 0 0 :: .int .i64 0 :: .int .i64 0 :: .int .i64 0 :: .int .i64 0 :: .int .i64 0 :: .slice none 0 0 :: .int .i64 0 :: .slice none 0 0 :: .slice none 0 0 :: .int .i64 0 :: .int .i64 0 :: .int .i64 0 :: .int .i64 0 :: .string ⟨#[]⟩ :: .int .i64 0 :: .int .i64 0 :: .int .i64 0 :: .int .i64 0 :: .int .i64 0 :: .int .i64 0 :: .slice none 0 0 :: .int .i64 0 :: .int .i64 0 :: .slice none 0 0 :: .int .i64 0 :: .int .i64 0 :: .slice none 0 0 :: .int .i64 0 :: .int .i64 0 :: .int .i64 0 :: .int .i64 0 :: .int .i64 0 :: .int .i64 0 :: .int .i64 0 :: .int .i64 0 :: .int .i64 0 :: .int .i64 0 :: .int .i64 0 :: .int .i64 0 :: .int .i64 0 :: .int .i64 0 :: .slice none 0 0 :: .bool false :: .slice none 0 0 :: .int .i64 0 :: .int .i64 0 :: .int .i64 0 :: .int .i64 0 :: .int .i64 0 :: .int .i64 0 :: .int .i64 0 :: .int .i64 0 :: .int .i64 0 :: .int .i64 0 :: [])) rfl rfl (fun h => nomatch h) inf48 rfl rfl ?_
  intro N4
  refine so_assign rfl rfl rfl ?_
  refine so_then ?_
  refine sx_seq ?_
  refine sx_seq ?_
  refine sx_region (E := E) ?_
  refine so_load rfl rfl rfl (by first | exact ld_ownA Try.underlying51 rfl inf51 rfl (by repeat (first | exact List.Mem.head _ | apply List.Mem.tail)) (by first | exact cellsOf_le rfl | decide | omega) (by first | exact cellsOf_all | exact take_all rfl | exact cellsOf_part rfl | rfl) | exact ld_dataA Try.underlying51 rfl inf51 rfl (by first | assumption | exact InA.add (by assumption) | exact InA.add (InA.add (by assumption))) (by assumption)) ?_
  refine so_buildSlice (out := cellsOf 85 x) rfl rfl (fun h => nomatch h) (by repeat (first | exact Opps.nil | apply Opps.cons rfl)) Try.underlying61 inf51 rfl rfl (by kernel_rfl) rfl rfl ?_
  intro N14
  refine so_freeze .zero ?_
  intro H1 A1 g1 hA1 hg1
  replace px := px.gr g1
  replace rb := rb.gr g1
  replace ra := ra.gr g1
  have hrow := one_row hg1 hA1 px
  refine so_call rfl rfl (fun h => nomatch h) rfl has18 (by repeat (first | exact Opvs.nil | apply Opvs.cons rfl)) (fun H hH => (rcheck_ok hH.lt (CellA.gr hH.gr _ _ _ hrow)).i (chk_one _)) ?_
  refine so_assign rfl rfl rfl ?_
  refine so_then ?_
  refine sx_seq ?_
  by_cases he : errOf (ctsOf 85 c) = 0
  · skip
    refine sx_region (E := E) ?_
    refine so_move rfl rfl rfl ?_
    refine so_bin rfl rfl rfl rfl (by first | exact bin_neq_f (by first | rfl | assumption | omega) | exact bin_neq_t (by first | rfl | assumption | omega)) ?_
    refine so_then ?_
    refine sx_false rfl ?_
    refine sx_skip ?_
    refine sk_then ?_
    refine sx_seq ?_
    refine sx_seq ?_
    refine sx_region (E := E) ?_
    refine so_assign rfl rfl rfl ?_
    refine so_then ?_
    refine sx_block ?_
    refine sx_loop (σ := Nat) (fun i => al.length - i) (fun i => [(1, .slice aa al.length ca), (2, .pointer (some ⟨2 * N2 + 1, 0, none⟩)), (4, .pointer (some ⟨2 * N4 + 1, 0, none⟩)), (7, .int .i64 ((i : Nat) : Int))]) (fun _ => H1) (fun _ => A1) (fun _ => [(N4, .cells (.int .i64 0 :: .int .i64 0 :: .int .i64 0 :: .int .i64 0 :: .int .i64 0 :: .int .i64 0 :: .string ⟨#[]⟩ :: .string ⟨#[]⟩ :: .int .i64 0 :: .int .i64 0 :: .int .i64 0 :: .string ⟨#[]⟩ :: .bool false :: .bool false :: .bool false :: .int .i64 0 :: .int .i64 0 :: .int .i64 0 :: .int .i64 0 :: .slice none 0 0 :: .int .i64 0 :: .int .i64 0 :: .int .i64 0 :: .int .i64 0 :: .int .i64 0 :: .int .i64 0 :: .int .i64 0 :: .int .i64 0 :: .int .i64 0 :: .slice none 0 0 :: .int .i64 0 :: .int .i64 0 :: .int .i64 0 :: .int .i64 0 :: .int .i64 0 :: .slice none 0 0 :: .int .i64 0 :: .slice none 0 0 :: .slice none 0 0 :: .int .i64 0 :: .int .i64 0 :: .int .i64 0 :: .int .i64 0 :: .string ⟨#[]⟩ :: .int .i64 0 :: .int .i64 0 :: .int .i64 0 :: .int .i64 0 :: .int .i64 0 :: .int .i64 0 :: .slice none 0 0 :: .int .i64 0 :: .int .i64 0 :: .slice none 0 0 :: .int .i64 0 :: .int .i64 0 :: .slice none 0 0 :: .int .i64 0 :: .int .i64 0 :: .int .i64 0 :: .int .i64 0 :: .int .i64 0 :: .int .i64 0 :: .int .i64 0 :: .int .i64 0 :: .int .i64 0 :: .int .i64 0 :: .int .i64 0 :: .int .i64 0 :: .int .i64 0 :: .int .i64 0 :: .slice none 0 0 :: .bool false :: .slice none 0 0 :: .int .i64 0 :: .int .i64 0 :: .int .i64 0 :: .int .i64 0 :: .int .i64 0 :: .int .i64 0 :: .int .i64 0 :: .int .i64 0 :: .int .i64 0 :: .int .i64 0 :: []) (boxsz E 48) true), (N2, .cells (cellsOf 85 x) (boxsz E 51) true)]) (fun i => i ≤ al.length ∧ (∀ (i2 k2 : Nat) (a b : List CT), k2 < i2 → i2 < i → al[i2]? = some a → al[k2]? = some b → strF a ≠ strF b)) (0) (⟨Nat.zero_le _, fun i2 k2 a b _ h => absurd h (Nat.not_lt_zero _)⟩) (by repeat (first | exact .nil | refine .cons rfl ?_)) rfl rfl (by repeat (first | exact List.nil_sublist _ | apply List.Sublist.cons_cons | apply List.Sublist.cons)) ?_
    intro s hJ t1
    obtain ⟨hJ, hg⟩ := hJ
    refine sx_seq ?_
    refine sx_seq ?_
    rcases Nat.lt_or_ge s al.length with hk | hk
    · skip
      obtain ⟨qa, us, d, rfl, ia, hci, la, ka⟩ := ra.at' s hk
      obtain ⟨u, n, rfl, rfl, hu, hn⟩ := arg2 ka
      have la0 : aload H1 ((qa.add (s * 2)).add 0) = some (.string u) := aloads_at la (j := 0) (by decide)
      refine sx_region (E := E) ?_
      refine so_move rfl rfl rfl ?_
      refine so_move rfl rfl rfl ?_
      refine so_lenL rfl rfl rfl rfl rfl rfl Try.underlying52 ?_
      refine so_bin rfl rfl rfl rfl (by first | exact bin_lss_t (by omega) | exact bin_lss_f (by omega)) ?_
      refine so_then ?_
      refine sx_true rfl ?_
      refine sx_skip ?_
      refine sk_then ?_
      refine sx_seq ?_
      refine sx_block ?_
      refine sx_seq ?_
      refine sx_region (E := E) ?_
      refine so_assign rfl rfl rfl ?_
      refine so_then ?_
      refine sx_block ?_
      refine sx_loop (σ := Nat) (fun m => s - m) (fun m => [(1, .slice (some qa) al.length ca), (2, .pointer (some ⟨2 * N2 + 1, 0, none⟩)), (4, .pointer (some ⟨2 * N4 + 1, 0, none⟩)), (7, .int .i64 ((s : Nat) : Int)), (8, .int .i64 ((m : Nat) : Int))]) (fun _ => H1) (fun _ => A1) (fun _ => [(N4, .cells (.int .i64 0 :: .int .i64 0 :: .int .i64 0 :: .int .i64 0 :: .int .i64 0 :: .int .i64 0 :: .string ⟨#[]⟩ :: .string ⟨#[]⟩ :: .int .i64 0 :: .int .i64 0 :: .int .i64 0 :: .string ⟨#[]⟩ :: .bool false :: .bool false :: .bool false :: .int .i64 0 :: .int .i64 0 :: .int .i64 0 :: .int .i64 0 :: .slice none 0 0 :: .int .i64 0 :: .int .i64 0 :: .int .i64 0 :: .int .i64 0 :: .int .i64 0 :: .int .i64 0 :: .int .i64 0 :: .int .i64 0 :: .int .i64 0 :: .slice none 0 0 :: .int .i64 0 :: .int .i64 0 :: .int .i64 0 :: .int .i64 0 :: .int .i64 0 :: .slice none 0 0 :: .int .i64 0 :: .slice none 0 0 :: .slice none 0 0 :: .int .i64 0 :: .int .i64 0 :: .int .i64 0 :: .int .i64 0 :: .string ⟨#[]⟩ :: .int .i64 0 :: .int .i64 0 :: .int .i64 0 :: .int .i64 0 :: .int .i64 0 :: .int .i64 0 :: .slice none 0 0 :: .int .i64 0 :: .int .i64 0 :: .slice none 0 0 :: .int .i64 0 :: .int .i64 0 :: .slice none 0 0 :: .int .i64 0 :: .int .i64 0 :: .int .i64 0 :: .int .i64 0 :: .int .i64 0 :: .int .i64 0 :: .int .i64 0 :: .int .i64 0 :: .int .i64 0 :: .int .i64 0 :: .int .i64 0 :: .int .i64 0 :: .int .i64 0 :: .int .i64 0 :: .slice none 0 0 :: .bool false :: .slice none 0 0 :: .int .i64 0 :: .int .i64 0 :: .int .i64 0 :: .int .i64 0 :: .int .i64 0 :: .int .i64 0 :: .int .i64 0 :: .int .i64 0 :: .int .i64 0 :: .int .i64 0 :: []) (boxsz E 48) true), (N2, .cells (cellsOf 85 x) (boxsz E 51) true)]) (fun m => m ≤ s ∧ (∀ (k2 : Nat) (b : List CT), k2 < m → al[k2]? = some b → strF b ≠ u.data.toList)) (0) (⟨Nat.zero_le _, fun k2 b h => absurd h (Nat.not_lt_zero _)⟩) (by repeat (first | exact .nil | refine .cons rfl ?_)) rfl rfl (by repeat (first | exact List.nil_sublist _ | apply List.Sublist.cons_cons | apply List.Sublist.cons)) ?_
      intro m hJ2 t2
      obtain ⟨hJm, hgm⟩ := hJ2
      refine sx_seq ?_
      refine sx_seq ?_
      rcases Nat.lt_or_ge m s with hm | hm
      · skip
        obtain ⟨q2, vs2, d2, eq2, i2, hcm, lm, km⟩ := ra.at' m (by omega)
        cases eq2
        obtain ⟨u2, n2, rfl, rfl, hu2, hn2⟩ := arg2 km
        have lm0 : aload H1 ((qa.add (m * 2)).add 0) = some (.string u2) := aloads_at lm (j := 0) (by decide)
        refine sx_region (E := E) ?_
        refine so_move rfl rfl rfl ?_
        refine so_move rfl rfl rfl ?_
        refine so_bin rfl rfl rfl rfl (by first | exact bin_lss_t (by omega) | exact bin_lss_f (by omega)) ?_
        refine so_then ?_
        refine sx_true rfl ?_
        refine sx_skip ?_
        refine sk_then ?_
        refine sx_seq ?_
        refine sx_block ?_
        refine sx_seq ?_
        by_cases heq : u.data.toList = u2.data.toList
        · skip
          refine sx_draw (E := E) mixed [] _ (List.Sublist.refl _) (by kernel_rfl) (by kernel_rfl) (by decide) ?_
          refine so_move rfl rfl rfl ?_
          refine so_move rfl rfl rfl ?_
          first | refine so_indexO rfl rfl rfl rfl Try.underlying52 inf73 rfl (by omega) rfl ?_ | refine so_index rfl rfl rfl rfl Try.underlying52 inf73 rfl (by omega) ?_
          first | refine so_fieldO rfl rfl rfl Try.underlying73 rfl inf9 rfl rfl ?_ | refine so_fieldC rfl rfl rfl Try.underlying73 rfl inf9 rfl rfl ?_
          refine so_load rfl rfl rfl (by first | exact ld_own Try.underlying9 rfl (by repeat (first | exact List.Mem.head _ | apply List.Mem.tail)) (by first | exact (cellsOf_get rfl).trans (congrArg some hb84) | exact cellsOf_get rfl | rfl) | exact ld_data Try.underlying9 rfl (by first | assumption | exact InA.add (by assumption) | exact InA.add (InA.add (by assumption))) (by assumption)) ?_
          refine so_move rfl rfl rfl ?_
          refine so_move rfl rfl rfl ?_
          first | refine so_indexO rfl rfl rfl rfl Try.underlying52 inf73 rfl (by omega) rfl ?_ | refine so_index rfl rfl rfl rfl Try.underlying52 inf73 rfl (by omega) ?_
          first | refine so_fieldO rfl rfl rfl Try.underlying73 rfl inf9 rfl rfl ?_ | refine so_fieldC rfl rfl rfl Try.underlying73 rfl inf9 rfl rfl ?_
          refine so_load rfl rfl rfl (by first | exact ld_own Try.underlying9 rfl (by repeat (first | exact List.Mem.head _ | apply List.Mem.tail)) (by first | exact (cellsOf_get rfl).trans (congrArg some hb84) | exact cellsOf_get rfl | rfl) | exact ld_data Try.underlying9 rfl (by first | assumption | exact InA.add (by assumption) | exact InA.add (InA.add (by assumption))) (by assumption)) ?_
          refine so_bin rfl rfl rfl rfl (by first | exact bin_seql_t (by first | rfl | assumption | decide) | exact bin_seql_f (by first | rfl | assumption | decide)) ?_
          refine so_then ?_
          refine sx_true rfl ?_
          refine sx_seq ?_
          refine sx_region (E := E) ?_
          refine so_build (v := .agg ⟨k48.map zeroK⟩) rfl rfl .nil (by kernel_rfl) ?_
          refine so_storeA rfl (fun h => nomatch h) rfl rfl inf48 (by kernel_rfl) (by kernel_rfl) (by repeat (first | exact .zero | apply Upd.succ)) (store_all (by kernel_rfl)) (Nat.le_of_ble_eq_true (by kernel_rfl)) (fun h => nomatch h) ?_
          refine so_assign rfl rfl rfl ?_
          refine so_then ?_
          refine sx_ret ?_
          refine sk_block_ret ?_
          refine sk_then_ret ?_
          refine sk_loop_ret ?_
          refine sk_block_ret ?_
          refine sk_block_ret ?_
          refine sk_then_ret ?_
          refine sk_loop_ret ?_
          refine sk_block_ret ?_
          refine sk_then_ret ?_
          refine sk_return2 (.cell rfl (by first | exact ld_ownA Try.underlying48 rfl inf48 rfl (by repeat (first | exact List.Mem.head _ | apply List.Mem.tail)) (by first | exact cellsOf_le rfl | decide | omega) (by first | exact cellsOf_all | exact take_all rfl | exact cellsOf_part rfl | rfl) | exact ld_dataA Try.underlying48 rfl inf48 rfl (by first | assumption | exact InA.add (by assumption) | exact InA.add (InA.add (by assumption))) (by assumption)) (.tmp rfl .nil)) ?_
          exact fun H hH => fillR_of hH (.dup he ⟨s, m, _, _, hm, hci, hcm, heq⟩) zero_edit
        · skip
          refine sx_draw (E := E) mixed [] _ (List.Sublist.refl _) (by kernel_rfl) (by kernel_rfl) (by decide) ?_
          refine so_move rfl rfl rfl ?_
          refine so_move rfl rfl rfl ?_
          first | refine so_indexO rfl rfl rfl rfl Try.underlying52 inf73 rfl (by omega) rfl ?_ | refine so_index rfl rfl rfl rfl Try.underlying52 inf73 rfl (by omega) ?_
          first | refine so_fieldO rfl rfl rfl Try.underlying73 rfl inf9 rfl rfl ?_ | refine so_fieldC rfl rfl rfl Try.underlying73 rfl inf9 rfl rfl ?_
          refine so_load rfl rfl rfl (by first | exact ld_own Try.underlying9 rfl (by repeat (first | exact List.Mem.head _ | apply List.Mem.tail)) (by first | exact (cellsOf_get rfl).trans (congrArg some hb84) | exact cellsOf_get rfl | rfl) | exact ld_data Try.underlying9 rfl (by first | assumption | exact InA.add (by assumption) | exact InA.add (InA.add (by assumption))) (by assumption)) ?_
          refine so_move rfl rfl rfl ?_
          refine so_move rfl rfl rfl ?_
          first | refine so_indexO rfl rfl rfl rfl Try.underlying52 inf73 rfl (by omega) rfl ?_ | refine so_index rfl rfl rfl rfl Try.underlying52 inf73 rfl (by omega) ?_
          first | refine so_fieldO rfl rfl rfl Try.underlying73 rfl inf9 rfl rfl ?_ | refine so_fieldC rfl rfl rfl Try.underlying73 rfl inf9 rfl rfl ?_
          refine so_load rfl rfl rfl (by first | exact ld_own Try.underlying9 rfl (by repeat (first | exact List.Mem.head _ | apply List.Mem.tail)) (by first | exact (cellsOf_get rfl).trans (congrArg some hb84) | exact cellsOf_get rfl | rfl) | exact ld_data Try.underlying9 rfl (by first | assumption | exact InA.add (by assumption) | exact InA.add (InA.add (by assumption))) (by assumption)) ?_
          refine so_bin rfl rfl rfl rfl (by first | exact bin_seql_t (by first | rfl | assumption | decide) | exact bin_seql_f (by first | rfl | assumption | decide)) ?_
          refine so_then ?_
          refine sx_false rfl ?_
          refine sx_skip ?_
          refine sk_block ?_
          refine sk_then ?_
          refine sx_region (E := E) ?_
          refine so_move rfl rfl rfl ?_
          refine so_bin rfl rfl rfl rfl (by first | exact bin_incr (by omega) | exact bin_add (wrap64 (by omega) (by omega)) | exact bin_add rfl) ?_
          refine so_assign rfl rfl rfl ?_
          refine so_nil ?_
          refine sk_round (m + 1) (show s - (m + 1) < s - m by omega) ⟨show m + 1 ≤ s by omega, fun k2 b h1 h2 => ?_⟩ (by repeat (first | exact .nil | refine .cons rfl ?_)) rfl rfl (by repeat (first | exact List.nil_sublist _ | apply List.Sublist.cons_cons | apply List.Sublist.cons))
          by_cases e : k2 = m
          · subst e; rw [hcm] at h2; cases h2; exact fun h => heq h.symm
          · exact hgm k2 b (by omega) h2
      · skip
        refine sx_region (E := E) ?_
        refine so_move rfl rfl rfl ?_
        refine so_move rfl rfl rfl ?_
        refine so_bin rfl rfl rfl rfl (by first | exact bin_lss_t (by omega) | exact bin_lss_f (by omega)) ?_
        refine so_then ?_
        refine sx_false rfl ?_
        refine sx_exit ?_
        refine sk_then_exit ?_
        refine sk_loop_exit ?_
        refine sk_block_exit ?_
        refine sk_block ?_
        refine sk_then ?_
        refine sx_region (E := E) ?_
        refine so_move rfl rfl rfl ?_
        refine so_bin rfl rfl rfl rfl (by first | exact bin_incr (by omega) | exact bin_add (wrap64 (by omega) (by omega)) | exact bin_add rfl) ?_
        refine so_assign rfl rfl rfl ?_
        refine so_nil ?_
        refine sk_round (s + 1) (show al.length - (s + 1) < al.length - s by omega) ⟨show s + 1 ≤ al.length by omega, fun i2 k2 a b h1 h2 h3 h4 => ?_⟩ (by repeat (first | exact .nil | refine .cons rfl ?_)) rfl rfl (by repeat (first | exact List.nil_sublist _ | apply List.Sublist.cons_cons | apply List.Sublist.cons))
        by_cases e : i2 = s
        · subst e; rw [hci] at h3; cases h3; exact fun h => hgm k2 b (by omega) h4 h.symm
        · exact hg i2 k2 a b h1 (by omega) h3 h4
    · skip
      have hnd : ¬ dupA al := by
        rintro ⟨i, k, a, b, h1, h2, h3, h4⟩
        exact hg i k a b h1 (by have := lt_of_getElem? h2; omega) h2 h3 h4
      refine sx_region (E := E) ?_
      refine so_move rfl rfl rfl ?_
      refine so_move rfl rfl rfl ?_
      refine so_lenL rfl rfl rfl rfl rfl rfl Try.underlying52 ?_
      refine so_bin rfl rfl rfl rfl (by first | exact bin_lss_t (by omega) | exact bin_lss_f (by omega)) ?_
      refine so_then ?_
      refine sx_false rfl ?_
      refine sx_exit ?_
      refine sk_then_exit ?_
      refine sk_loop_exit ?_
      refine sk_block_exit ?_
      refine sk_then ?_
      refine sx_seq ?_
      refine sx_region (E := E) ?_
      refine so_fieldO (o' := 0) rfl rfl rfl Try.underlying51 rfl inf48 rfl rfl ?_
      refine so_load rfl rfl rfl (by first | exact ld_ownA Try.underlying48 rfl inf48 rfl (by repeat (first | exact List.Mem.head _ | apply List.Mem.tail)) (by first | exact cellsOf_le rfl | decide | omega) (by first | exact cellsOf_all | exact take_all rfl | exact cellsOf_part rfl | rfl) | exact ld_dataA Try.underlying48 rfl inf48 rfl (by first | assumption | exact InA.add (by assumption) | exact InA.add (InA.add (by assumption))) (by assumption)) ?_
      refine so_alloc (cs := (.int .i64 0 :: .int .i64 0 :: .int .i64 0 :: .int .i64 0 :: .int .i64 0 :: .int .i64 0 :: .string ⟨#[]⟩ :: .string ⟨#[]⟩ :: .int .i64 0 :: .int .i64 0 :: .int .i64 0 :: .string ⟨#[]⟩ :: .bool false :: .bool false :: .bool false :: .int .i64 0 :: .int .i64 0 :: .int .i64 0 :: .int .i64 0 :: .slice none 0 0 :: .int .i64 0 :: .int .i64 0 :: .int .i64 0 :: .int .i64 0 :: .int .i64 0 :: .int .i64 0 :: .int .i64 0 :: .int .i64 0 :: .int .i64 0 :: .slice none 0 0 :: .int .i64 0 :: .int .i64 0 :: .int .i64 0 :: .int .i64 0 :: .int .i64 0 :: .slice none 0 0 :: .int .i64 0 :: .slice none 0 0 :: .slice none 0 0 :: .int .i64 0 :: .int .i64 0 :: .int .i64 0 :: .int .i64 0 :: .string ⟨#[]⟩ :: .int .i64 0 :: .int .i64 0 :: .int .i64 0 :: .int .i64 0 :: .int .i64 0 :: .int .i64 0 :: .slice none 0 0 :: .int .i64 0 :: .int .i64 0 :: .slice none 0 0 :: .int .i64 0 :: .int .i64 0 :: .slice none 0 0 :: .int .i64 0 :: .int .i64 0 :: .int .i64 0 :: .int .i64 0 :: .int .i64 0 :: .int .i64 0 :: .int .i64 0 :: .int .i64 0 :: .int .i64 0 :: .int .i64 0 :: .int .i64 0 :: .int .i64 0 :: .int .i64 0 :: .int .i64 0 :: .slice none 0 0 :: .bool false :: .slice none 0 0 :: .int .i64 0 :: .int .i64 0 :: .int .i64 0 :: .int .i64 0 :: .int .i64 0 :: .int .i64 0 :: .int .i64 0 :: .int .i64 0 :: .int .i64 0 :: .int .i64 0 :: [])) rfl rfl (fun h => nomatch h) inf48 rfl rfl ?_
      intro N9
      refine so_storeA rfl (fun h => nomatch h) rfl rfl inf48 (by first | exact cellsOf_length _ _ | rfl) (CellsA.one ((pts_edit px).cells (n := 84) rfl)) (by repeat (first | exact .zero | apply Upd.succ)) (by first | exact cellsOf_set rfl | exact cellsOf_setr rfl | exact cellsOf_store rfl | exact store_all rfl | rfl) (by first | exact cellsOf_in rfl rfl | exact cellsOf_in rfl (cellsOf_length _ _) | exact cellsOf_le rfl | exact Nat.le_of_ble_eq_true rfl | omega) (fun h => nomatch h) ?_
      refine so_then ?_
      refine sx_seq ?_
      refine sx_seq ?_
      refine sx_region (E := E) ?_
      refine so_assign rfl rfl rfl ?_
      refine so_then ?_
      refine sx_block ?_
      refine sx_loop (σ := Nat × (Nat → Value) × (Nat → CT) × AH × (Nat → Prop)) (fun q => bl.length - q.1) (fun q => [(1, .slice aa al.length ca), (2, .pointer (some ⟨2 * N2 + 1, 0, none⟩)), (4, .pointer (some ⟨2 * N4 + 1, 0, none⟩)), (9, .pointer (some ⟨2 * N9 + 1, 0, none⟩)), (10, .int .i64 ((q.1 : Nat) : Int))]) (fun q => q.2.2.2.1) (fun q => q.2.2.2.2) (fun q => [(N9, .cells (cellsOf 84 q.2.1) (boxsz E 48) true), (N4, .cells (.int .i64 0 :: .int .i64 0 :: .int .i64 0 :: .int .i64 0 :: .int .i64 0 :: .int .i64 0 :: .string ⟨#[]⟩ :: .string ⟨#[]⟩ :: .int .i64 0 :: .int .i64 0 :: .int .i64 0 :: .string ⟨#[]⟩ :: .bool false :: .bool false :: .bool false :: .int .i64 0 :: .int .i64 0 :: .int .i64 0 :: .int .i64 0 :: .slice none 0 0 :: .int .i64 0 :: .int .i64 0 :: .int .i64 0 :: .int .i64 0 :: .int .i64 0 :: .int .i64 0 :: .int .i64 0 :: .int .i64 0 :: .int .i64 0 :: .slice none 0 0 :: .int .i64 0 :: .int .i64 0 :: .int .i64 0 :: .int .i64 0 :: .int .i64 0 :: .slice none 0 0 :: .int .i64 0 :: .slice none 0 0 :: .slice none 0 0 :: .int .i64 0 :: .int .i64 0 :: .int .i64 0 :: .int .i64 0 :: .string ⟨#[]⟩ :: .int .i64 0 :: .int .i64 0 :: .int .i64 0 :: .int .i64 0 :: .int .i64 0 :: .int .i64 0 :: .slice none 0 0 :: .int .i64 0 :: .int .i64 0 :: .slice none 0 0 :: .int .i64 0 :: .int .i64 0 :: .slice none 0 0 :: .int .i64 0 :: .int .i64 0 :: .int .i64 0 :: .int .i64 0 :: .int .i64 0 :: .int .i64 0 :: .int .i64 0 :: .int .i64 0 :: .int .i64 0 :: .int .i64 0 :: .int .i64 0 :: .int .i64 0 :: .int .i64 0 :: .int .i64 0 :: .slice none 0 0 :: .bool false :: .slice none 0 0 :: .int .i64 0 :: .int .i64 0 :: .int .i64 0 :: .int .i64 0 :: .int .i64 0 :: .int .i64 0 :: .int .i64 0 :: .int .i64 0 :: .int .i64 0 :: .int .i64 0 :: []) (boxsz E 48) true), (N2, .cells (cellsOf 85 x) (boxsz E 51) true)]) (fun q => q.1 ≤ bl.length ∧ fillB al (bl.drop q.1) q.2.2.1 = fillB al bl c ∧ Pts q.2.2.2.2 q.2.2.2.1 k48 q.2.1 q.2.2.1 ∧ Gr A1 H1 q.2.2.2.2 q.2.2.2.1 ∧ (rowOf (q.2.2.1 35)).length = pl.length) ((0, (fun i => x (0 + i)), c, H1, A1)) (⟨Nat.zero_le _, rfl, pts_edit px, Gr.refl _ _, (by show (rowOf (c 35)).length = pl.length; rw [ep]; rfl)⟩) (by repeat (first | exact .nil | refine .cons rfl ?_)) rfl rfl (by repeat (first | exact List.nil_sublist _ | apply List.Sublist.cons_cons | apply List.Sublist.cons)) ?_
      intro s hJ t3
      obtain ⟨b, y, cc, H2, A2⟩ := s
      obtain ⟨hJ, hfb, py, g2, hrl⟩ := hJ
      dsimp only at hJ hfb py g2 hrl ⊢
      refine sx_seq ?_
      refine sx_seq ?_
      rcases Nat.lt_or_ge b bl.length with hk | hk
      · skip
        obtain ⟨qb, us, d, rfl, ib, hcb, lb, kb⟩ := (rb.gr g2).at' b hk
        obtain ⟨u, p, rfl, rfl, hu, hp⟩ := str2 kb
        have lb0 : aload H2 ((qb.add (b * 2)).add 0) = some (.string u) := aloads_at lb (j := 0) (by decide)
        have lb1 : aload H2 ((qb.add (b * 2)).add 1) = some (.string p) := aloads_at lb (j := 1) (by decide)
        have hao := act_ok he b _ (by rw [hbo]; exact hcb)
        rw [hpo] at hao
        refine sx_region (E := E) ?_
        refine so_move rfl rfl rfl ?_
        refine so_fieldO (o' := 84) rfl rfl rfl Try.underlying51 rfl inf49 rfl rfl ?_
        refine so_load rfl rfl rfl (by first | exact ld_own Try.underlying49 rfl (by repeat (first | exact List.Mem.head _ | apply List.Mem.tail)) (by first | exact (cellsOf_get rfl).trans (congrArg some hb84) | exact cellsOf_get rfl | rfl) | exact ld_data Try.underlying49 rfl (by first | assumption | exact InA.add (by assumption) | exact InA.add (InA.add (by assumption))) (by assumption)) ?_
        refine so_lenL rfl rfl rfl rfl rfl rfl Try.underlying49 ?_
        refine so_bin rfl rfl rfl rfl (by first | exact bin_lss_t (by omega) | exact bin_lss_f (by omega)) ?_
        refine so_then ?_
        refine sx_true rfl ?_
        refine sx_skip ?_
        refine sk_then ?_
        refine sx_seq ?_
        refine sx_block ?_
        refine sx_seq ?_
        refine sx_region (E := E) ?_
        refine so_assign rfl rfl rfl ?_
        refine so_then ?_
        refine sx_seq ?_
        refine sx_seq ?_
        refine sx_region (E := E) ?_
        refine so_assign rfl rfl rfl ?_
        refine so_then ?_
        refine sx_block ?_
        refine sx_loop (σ := Nat × Bool × (Nat → Value) × (Nat → CT) × AH × (Nat → Prop)) (fun q => al.length - q.1) (fun q => [(1, .slice aa al.length ca), (2, .pointer (some ⟨2 * N2 + 1, 0, none⟩)), (4, .pointer (some ⟨2 * N4 + 1, 0, none⟩)), (9, .pointer (some ⟨2 * N9 + 1, 0, none⟩)), (10, .int .i64 ((b : Nat) : Int)), (11, .bool q.2.1), (12, .int .i64 ((q.1 : Nat) : Int))]) (fun q => q.2.2.2.2.1) (fun q => q.2.2.2.2.2) (fun q => [(N9, .cells (cellsOf 84 q.2.2.1) (boxsz E 48) true), (N4, .cells (.int .i64 0 :: .int .i64 0 :: .int .i64 0 :: .int .i64 0 :: .int .i64 0 :: .int .i64 0 :: .string ⟨#[]⟩ :: .string ⟨#[]⟩ :: .int .i64 0 :: .int .i64 0 :: .int .i64 0 :: .string ⟨#[]⟩ :: .bool false :: .bool false :: .bool false :: .int .i64 0 :: .int .i64 0 :: .int .i64 0 :: .int .i64 0 :: .slice none 0 0 :: .int .i64 0 :: .int .i64 0 :: .int .i64 0 :: .int .i64 0 :: .int .i64 0 :: .int .i64 0 :: .int .i64 0 :: .int .i64 0 :: .int .i64 0 :: .slice none 0 0 :: .int .i64 0 :: .int .i64 0 :: .int .i64 0 :: .int .i64 0 :: .int .i64 0 :: .slice none 0 0 :: .int .i64 0 :: .slice none 0 0 :: .slice none 0 0 :: .int .i64 0 :: .int .i64 0 :: .int .i64 0 :: .int .i64 0 :: .string ⟨#[]⟩ :: .int .i64 0 :: .int .i64 0 :: .int .i64 0 :: .int .i64 0 :: .int .i64 0 :: .int .i64 0 :: .slice none 0 0 :: .int .i64 0 :: .int .i64 0 :: .slice none 0 0 :: .int .i64 0 :: .int .i64 0 :: .slice none 0 0 :: .int .i64 0 :: .int .i64 0 :: .int .i64 0 :: .int .i64 0 :: .int .i64 0 :: .int .i64 0 :: .int .i64 0 :: .int .i64 0 :: .int .i64 0 :: .int .i64 0 :: .int .i64 0 :: .int .i64 0 :: .int .i64 0 :: .int .i64 0 :: .slice none 0 0 :: .bool false :: .slice none 0 0 :: .int .i64 0 :: .int .i64 0 :: .int .i64 0 :: .int .i64 0 :: .int .i64 0 :: .int .i64 0 :: .int .i64 0 :: .int .i64 0 :: .int .i64 0 :: .int .i64 0 :: []) (boxsz E 48) true), (N2, .cells (cellsOf 85 x) (boxsz E 51) true)]) (fun q => q.1 ≤ al.length ∧ Pts q.2.2.2.2.2 q.2.2.2.2.1 k48 q.2.2.1 q.2.2.2.1 ∧ Gr A2 H2 q.2.2.2.2.2 q.2.2.2.2.1 ∧ (rowOf (q.2.2.2.1 35)).length = pl.length ∧ ((q.2.1 = false ∧ q.2.2.2.1 = cc ∧ (∀ j a, j < q.1 → al[j]? = some a → strF a ≠ p.data.toList)) ∨ (q.2.1 = true ∧ ∃ j a, j < q.1 ∧ al[j]? = some a ∧ strF a = p.data.toList ∧ q.2.2.2.1 = setC cc u.data.toList (argV a)))) ((0, false, y, cc, H2, A2)) (⟨Nat.zero_le _, py, Gr.refl _ _, hrl, .inl ⟨rfl, rfl, fun j a h => absurd h (Nat.not_lt_zero _)⟩⟩) (by repeat (first | exact .nil | refine .cons rfl ?_)) rfl rfl (by repeat (first | exact List.nil_sublist _ | apply List.Sublist.cons_cons | apply List.Sublist.cons)) ?_
        intro m4 hJ2 t4
        obtain ⟨m, fnd, y3, cc3, H3, A3⟩ := m4
        obtain ⟨hJm, py3, g3, hr3, hfd⟩ := hJ2
        dsimp only at hJm py3 g3 hr3 hfd ⊢
        refine sx_seq ?_
        refine sx_seq ?_
        rcases Nat.lt_or_ge m al.length with hm | hm
        · skip
          obtain ⟨qa, us2, d2, rfl, ia, hcm, lm, km⟩ := (ra.gr (g2.trans g3)).at' m hm
          obtain ⟨u2, n2, rfl, rfl, hu2, hn2⟩ := arg2 km
          have lm0 : aload H3 ((qa.add (m * 2)).add 0) = some (.string u2) := aloads_at lm (j := 0) (by decide)
          have lm1 : aload H3 ((qa.add (m * 2)).add 1) = some (.int .i64 n2) := aloads_at lm (j := 1) (by decide)
          replace lb0 := (g3.aload (InA.add (InA.add ib))).trans lb0
          replace lb1 := (g3.aload (InA.add (InA.add ib))).trans lb1
          replace ib := g3.inA ib
          refine sx_region (E := E) ?_
          refine so_move rfl rfl rfl ?_
          refine so_move rfl rfl rfl ?_
          refine so_lenL rfl rfl rfl rfl rfl rfl Try.underlying52 ?_
          refine so_bin rfl rfl rfl rfl (by first | exact bin_lss_t (by omega) | exact bin_lss_f (by omega)) ?_
          refine so_then ?_
          refine sx_true rfl ?_
          refine sx_skip ?_
          refine sk_then ?_
          refine sx_seq ?_
          refine sx_block ?_
          refine sx_seq ?_
          by_cases heq : u2.data.toList = p.data.toList
          · skip
            obtain ⟨rfl, rfl, hno⟩ : fnd = false ∧ cc3 = cc ∧ (∀ j a, j < m → al[j]? = some a → strF a ≠ p.data.toList) := by
              rcases hfd with h | ⟨_, j, a, hj, ha, hpa, _⟩
              · exact h
              · exact absurd ⟨m, j, _, a, hj, hcm, ha, heq.trans hpa.symm⟩ hnd
            refine sx_draw (E := E) mixed [] _ (List.Sublist.refl _) (by kernel_rfl) (by kernel_rfl) (by decide) ?_
            refine so_move rfl rfl rfl ?_
            refine so_move rfl rfl rfl ?_
            first | refine so_indexO rfl rfl rfl rfl Try.underlying52 inf73 rfl (by omega) rfl ?_ | refine so_index rfl rfl rfl rfl Try.underlying52 inf73 rfl (by omega) ?_
            first | refine so_fieldO rfl rfl rfl Try.underlying73 rfl inf9 rfl rfl ?_ | refine so_fieldC rfl rfl rfl Try.underlying73 rfl inf9 rfl rfl ?_
            refine so_load rfl rfl rfl (by first | exact ld_own Try.underlying9 rfl (by repeat (first | exact List.Mem.head _ | apply List.Mem.tail)) (by first | exact (cellsOf_get rfl).trans (congrArg some hb84) | exact cellsOf_get rfl | rfl) | exact ld_data Try.underlying9 rfl (by first | assumption | exact InA.add (by assumption) | exact InA.add (InA.add (by assumption))) (by assumption)) ?_
            refine so_fieldO (o' := 84) rfl rfl rfl Try.underlying51 rfl inf49 rfl rfl ?_
            refine so_load rfl rfl rfl (by first | exact ld_own Try.underlying49 rfl (by repeat (first | exact List.Mem.head _ | apply List.Mem.tail)) (by first | exact (cellsOf_get rfl).trans (congrArg some hb84) | exact cellsOf_get rfl | rfl) | exact ld_data Try.underlying49 rfl (by first | assumption | exact InA.add (by assumption) | exact InA.add (InA.add (by assumption))) (by assumption)) ?_
            refine so_move rfl rfl rfl ?_
            first | refine so_indexO rfl rfl rfl rfl Try.underlying49 inf79 rfl (by omega) rfl ?_ | refine so_index rfl rfl rfl rfl Try.underlying49 inf79 rfl (by omega) ?_
            first | refine so_fieldO rfl rfl rfl Try.underlying79 rfl inf9 rfl rfl ?_ | refine so_fieldC rfl rfl rfl Try.underlying79 rfl inf9 rfl rfl ?_
            refine so_load rfl rfl rfl (by first | exact ld_own Try.underlying9 rfl (by repeat (first | exact List.Mem.head _ | apply List.Mem.tail)) (by first | exact (cellsOf_get rfl).trans (congrArg some hb84) | exact cellsOf_get rfl | rfl) | exact ld_data Try.underlying9 rfl (by first | assumption | exact InA.add (by assumption) | exact InA.add (InA.add (by assumption))) (by assumption)) ?_
            refine so_bin rfl rfl rfl rfl (by first | exact bin_seql_t (by first | rfl | assumption | decide) | exact bin_seql_f (by first | rfl | assumption | decide)) ?_
            refine so_then ?_
            refine sx_true rfl ?_
            refine sx_seq ?_
            refine sx_draw (E := E) mixed [12, 13] _ (List.sublist_cons_self _ _) (by kernel_rfl) (by kernel_rfl) (by decide) ?_
            refine so_loado rfl rfl rfl (by kernel_rfl) (ld_ownA Try.underlying48 rfl inf48 rfl (List.Mem.head _) (cellsOf_le rfl) cellsOf_all) ?_
            refine so_fieldO (o' := 84) rfl rfl rfl Try.underlying51 rfl inf49 rfl rfl ?_
            refine so_load rfl rfl rfl (by first | exact ld_own Try.underlying49 rfl (by repeat (first | exact List.Mem.head _ | apply List.Mem.tail)) (by first | exact (cellsOf_get rfl).trans (congrArg some hb84) | exact cellsOf_get rfl | rfl) | exact ld_data Try.underlying49 rfl (by first | assumption | exact InA.add (by assumption) | exact InA.add (InA.add (by assumption))) (by assumption)) ?_
            refine so_move rfl rfl rfl ?_
            first | refine so_indexO rfl rfl rfl rfl Try.underlying49 inf79 rfl (by omega) rfl ?_ | refine so_index rfl rfl rfl rfl Try.underlying49 inf79 rfl (by omega) ?_
            first | refine so_fieldO rfl rfl rfl Try.underlying79 rfl inf9 rfl rfl ?_ | refine so_fieldC rfl rfl rfl Try.underlying79 rfl inf9 rfl rfl ?_
            refine so_load rfl rfl rfl (by first | exact ld_own Try.underlying9 rfl (by repeat (first | exact List.Mem.head _ | apply List.Mem.tail)) (by first | exact (cellsOf_get rfl).trans (congrArg some hb84) | exact cellsOf_get rfl | rfl) | exact ld_data Try.underlying9 rfl (by first | assumption | exact InA.add (by assumption) | exact InA.add (InA.add (by assumption))) (by assumption)) ?_
            refine so_move rfl rfl rfl ?_
            refine so_move rfl rfl rfl ?_
            first | refine so_indexO rfl rfl rfl rfl Try.underlying52 inf73 rfl (by omega) rfl ?_ | refine so_index rfl rfl rfl rfl Try.underlying52 inf73 rfl (by omega) ?_
            first | refine so_fieldO rfl rfl rfl Try.underlying73 rfl inf3 rfl rfl ?_ | refine so_fieldC rfl rfl rfl Try.underlying73 rfl inf3 rfl rfl ?_
            refine so_load rfl rfl rfl (by first | exact ld_own Try.underlying3 rfl (by repeat (first | exact List.Mem.head _ | apply List.Mem.tail)) (by first | exact (cellsOf_get rfl).trans (congrArg some hb84) | exact cellsOf_get rfl | rfl) | exact ld_data Try.underlying3 rfl (by first | assumption | exact InA.add (by assumption) | exact InA.add (InA.add (by assumption))) (by assumption)) ?_
            refine so_callF (EditT (setC cc3 u.data.toList n2)) rfl rfl (fun _ => (by repeat (first | exact List.Mem.head _ | apply List.Mem.tail))) rfl has23 (by repeat (first | exact Opvs.nil | apply Opvs.cons rfl)) (fun H hH => set_ok hH.lt (py3.gr hH.gr) hn2 hao.1 (by rw [hr3]; exact hao.2)) ?_
            intro u9 H4 A4 g4 hT
            obtain ⟨y4, rfl, py4⟩ := hT
            refine so_storeA rfl (fun _ => (by repeat (first | exact List.Mem.head _ | apply List.Mem.tail))) rfl rfl inf48 (by first | exact cellsOf_length _ _ | rfl) (CellsA.one (py4.cells (n := 84) rfl)) (by repeat (first | exact .zero | apply Upd.succ)) (by first | exact cellsOf_set rfl | exact cellsOf_setr rfl | exact cellsOf_store rfl | exact store_all rfl | rfl) (by first | exact cellsOf_in rfl rfl | exact cellsOf_in rfl (cellsOf_length _ _) | exact cellsOf_le rfl | exact Nat.le_of_ble_eq_true rfl | omega) (fun _ => (by repeat (first | exact List.nil_sublist _ | apply List.Sublist.cons_cons | apply List.Sublist.cons))) ?_
            refine so_then ?_
            refine sx_region (E := E) ?_
            refine so_assign rfl rfl rfl ?_
            refine so_nil ?_
            refine sk_block ?_
            refine sk_then ?_
            refine sx_region (E := E) ?_
            refine so_move rfl rfl rfl ?_
            refine so_bin rfl rfl rfl rfl (by first | exact bin_incr (by omega) | exact bin_add (wrap64 (by omega) (by omega)) | exact bin_add rfl) ?_
            refine so_assign rfl rfl rfl ?_
            refine so_nil ?_
            exact sk_round (m + 1, true, y4, setC cc3 u.data.toList n2, H4, A4) (show al.length - (m + 1) < al.length - m by omega) ⟨show m + 1 ≤ al.length by omega, py4, g3.trans g4, setC_len.trans hr3, .inr ⟨rfl, m, _, Nat.lt_succ_self m, hcm, heq, rfl⟩⟩ (by repeat (first | exact .nil | refine .cons rfl ?_)) rfl rfl (by repeat (first | exact List.nil_sublist _ | apply List.Sublist.cons_cons | apply List.Sublist.cons))
          · skip
            refine sx_draw (E := E) mixed [] _ (List.Sublist.refl _) (by kernel_rfl) (by kernel_rfl) (by decide) ?_
            refine so_move rfl rfl rfl ?_
            refine so_move rfl rfl rfl ?_
            first | refine so_indexO rfl rfl rfl rfl Try.underlying52 inf73 rfl (by omega) rfl ?_ | refine so_index rfl rfl rfl rfl Try.underlying52 inf73 rfl (by omega) ?_
            first | refine so_fieldO rfl rfl rfl Try.underlying73 rfl inf9 rfl rfl ?_ | refine so_fieldC rfl rfl rfl Try.underlying73 rfl inf9 rfl rfl ?_
            refine so_load rfl rfl rfl (by first | exact ld_own Try.underlying9 rfl (by repeat (first | exact List.Mem.head _ | apply List.Mem.tail)) (by first | exact (cellsOf_get rfl).trans (congrArg some hb84) | exact cellsOf_get rfl | rfl) | exact ld_data Try.underlying9 rfl (by first | assumption | exact InA.add (by assumption) | exact InA.add (InA.add (by assumption))) (by assumption)) ?_
            refine so_fieldO (o' := 84) rfl rfl rfl Try.underlying51 rfl inf49 rfl rfl ?_
            refine so_load rfl rfl rfl (by first | exact ld_own Try.underlying49 rfl (by repeat (first | exact List.Mem.head _ | apply List.Mem.tail)) (by first | exact (cellsOf_get rfl).trans (congrArg some hb84) | exact cellsOf_get rfl | rfl) | exact ld_data Try.underlying49 rfl (by first | assumption | exact InA.add (by assumption) | exact InA.add (InA.add (by assumption))) (by assumption)) ?_
            refine so_move rfl rfl rfl ?_
            first | refine so_indexO rfl rfl rfl rfl Try.underlying49 inf79 rfl (by omega) rfl ?_ | refine so_index rfl rfl rfl rfl Try.underlying49 inf79 rfl (by omega) ?_
            first | refine so_fieldO rfl rfl rfl Try.underlying79 rfl inf9 rfl rfl ?_ | refine so_fieldC rfl rfl rfl Try.underlying79 rfl inf9 rfl rfl ?_
            refine so_load rfl rfl rfl (by first | exact ld_own Try.underlying9 rfl (by repeat (first | exact List.Mem.head _ | apply List.Mem.tail)) (by first | exact (cellsOf_get rfl).trans (congrArg some hb84) | exact cellsOf_get rfl | rfl) | exact ld_data Try.underlying9 rfl (by first | assumption | exact InA.add (by assumption) | exact InA.add (InA.add (by assumption))) (by assumption)) ?_
            refine so_bin rfl rfl rfl rfl (by first | exact bin_seql_t (by first | rfl | assumption | decide) | exact bin_seql_f (by first | rfl | assumption | decide)) ?_
            refine so_then ?_
            refine sx_false rfl ?_
            refine sx_skip ?_
            refine sk_block ?_
            refine sk_then ?_
            refine sx_region (E := E) ?_
            refine so_move rfl rfl rfl ?_
            refine so_bin rfl rfl rfl rfl (by first | exact bin_incr (by omega) | exact bin_add (wrap64 (by omega) (by omega)) | exact bin_add rfl) ?_
            refine so_assign rfl rfl rfl ?_
            refine so_nil ?_
            refine sk_round (m + 1, fnd, y3, cc3, H3, A3) (show al.length - (m + 1) < al.length - m by omega) ⟨show m + 1 ≤ al.length by omega, py3, g3, hr3, ?_⟩ (by repeat (first | exact .nil | refine .cons rfl ?_)) rfl rfl (by repeat (first | exact List.nil_sublist _ | apply List.Sublist.cons_cons | apply List.Sublist.cons))
            rcases hfd with ⟨h1, h2, h3⟩ | ⟨h1, j, a, hj, ha, hpa, h4⟩
            · refine .inl ⟨h1, h2, fun j a hj ha => ?_⟩
              by_cases e : j = m
              · subst e; rw [hcm] at ha; cases ha; exact heq
              · exact h3 j a (by show j < m; omega) ha
            · exact .inr ⟨h1, j, a, Nat.lt_succ_of_lt hj, ha, hpa, h4⟩
        · skip
          refine sx_region (E := E) ?_
          refine so_move rfl rfl rfl ?_
          refine so_move rfl rfl rfl ?_
          refine so_lenL rfl rfl rfl rfl rfl rfl Try.underlying52 ?_
          refine so_bin rfl rfl rfl rfl (by first | exact bin_lss_t (by omega) | exact bin_lss_f (by omega)) ?_
          refine so_then ?_
          refine sx_false rfl ?_
          refine sx_exit ?_
          refine sk_then_exit ?_
          refine sk_loop_exit ?_
          refine sk_block_exit ?_
          refine sk_then ?_
          refine sx_seq ?_
          rcases hfd with ⟨rfl, rfl, hno⟩ | ⟨rfl, j, a, hj, ha, hpa, rfl⟩
          · skip
            have hla : lookA al (strP [CT.v (.string u), CT.v (.string p)]) = none := lookA_none (fun j a h1 h2 => hno j a (by omega) h2)
            refine sx_region (E := E) ?_
            refine so_move rfl rfl rfl ?_
            refine so_not rfl rfl rfl rfl ?_
            refine so_then ?_
            refine sx_true rfl ?_
            refine sx_seq ?_
            refine sx_region (E := E) ?_
            refine so_build (v := .agg ⟨k48.map zeroK⟩) rfl rfl .nil (by kernel_rfl) ?_
            refine so_storeA rfl (fun h => nomatch h) rfl rfl inf48 (by kernel_rfl) (by kernel_rfl) (by repeat (first | exact .zero | apply Upd.succ)) (store_all (by kernel_rfl)) (Nat.le_of_ble_eq_true (by kernel_rfl)) (fun h => nomatch h) ?_
            refine so_assign rfl rfl rfl ?_
            refine so_then ?_
            refine sx_ret ?_
            refine sk_block_ret ?_
            refine sk_then_ret ?_
            refine sk_loop_ret ?_
            refine sk_block_ret ?_
            refine sk_then_ret ?_
            refine sk_return2 (.cell rfl (by first | exact ld_ownA Try.underlying48 rfl inf48 rfl (by repeat (first | exact List.Mem.head _ | apply List.Mem.tail)) (by first | exact cellsOf_le rfl | decide | omega) (by first | exact cellsOf_all | exact take_all rfl | exact cellsOf_part rfl | rfl) | exact ld_dataA Try.underlying48 rfl inf48 rfl (by first | assumption | exact InA.add (by assumption) | exact InA.add (InA.add (by assumption))) (by assumption)) (.tmp rfl .nil)) ?_
            exact fun H hH => fillR_of hH (.none he hnd (by rw [show rowOf (c 84) = bl by rw [eb]; rfl, ← hfb, fillB_step hcb, hla])) zero_edit
          · skip
            have hla : lookA al (strP [CT.v (.string u), CT.v (.string p)]) = some (argV a) := lookA_some hnd ha hpa
            refine sx_region (E := E) ?_
            refine so_move rfl rfl rfl ?_
            refine so_not rfl rfl rfl rfl ?_
            refine so_then ?_
            refine sx_false rfl ?_
            refine sx_skip ?_
            refine sk_block ?_
            refine sk_then ?_
            refine sx_region (E := E) ?_
            refine so_move rfl rfl rfl ?_
            refine so_bin rfl rfl rfl rfl (by first | exact bin_incr (by omega) | exact bin_add (wrap64 (by omega) (by omega)) | exact bin_add rfl) ?_
            refine so_assign rfl rfl rfl ?_
            refine so_nil ?_
            exact sk_round (b + 1, y3, setC cc u.data.toList (argV a), H3, A3) (show bl.length - (b + 1) < bl.length - b by omega) ⟨show b + 1 ≤ bl.length by omega, (by show fillB al (bl.drop (b + 1)) (setC cc u.data.toList (argV a)) = fillB al bl c; rw [← hfb, fillB_step hcb, hla]; rfl), py3, g2.trans g3, hr3⟩ (by repeat (first | exact .nil | refine .cons rfl ?_)) rfl rfl (by repeat (first | exact List.nil_sublist _ | apply List.Sublist.cons_cons | apply List.Sublist.cons))
      · skip
        refine sx_region (E := E) ?_
        refine so_move rfl rfl rfl ?_
        refine so_fieldO (o' := 84) rfl rfl rfl Try.underlying51 rfl inf49 rfl rfl ?_
        refine so_load rfl rfl rfl (by first | exact ld_own Try.underlying49 rfl (by repeat (first | exact List.Mem.head _ | apply List.Mem.tail)) (by first | exact (cellsOf_get rfl).trans (congrArg some hb84) | exact cellsOf_get rfl | rfl) | exact ld_data Try.underlying49 rfl (by first | assumption | exact InA.add (by assumption) | exact InA.add (InA.add (by assumption))) (by assumption)) ?_
        refine so_lenL rfl rfl rfl rfl rfl rfl Try.underlying49 ?_
        refine so_bin rfl rfl rfl rfl (by first | exact bin_lss_t (by omega) | exact bin_lss_f (by omega)) ?_
        refine so_then ?_
        refine sx_false rfl ?_
        refine sx_exit ?_
        refine sk_then_exit ?_
        refine sk_loop_exit ?_
        refine sk_block_exit ?_
        refine sk_then ?_
        refine sx_seq ?_
        refine sx_region (E := E) ?_
        refine so_load rfl rfl rfl (by first | exact ld_ownA Try.underlying48 rfl inf48 rfl (by repeat (first | exact List.Mem.head _ | apply List.Mem.tail)) (by first | exact cellsOf_le rfl | decide | omega) (by first | exact cellsOf_all | exact take_all rfl | exact cellsOf_part rfl | rfl) | exact ld_dataA Try.underlying48 rfl inf48 rfl (by first | assumption | exact InA.add (by assumption) | exact InA.add (InA.add (by assumption))) (by assumption)) ?_
        refine so_storeA rfl (fun h => nomatch h) rfl rfl inf48 (by first | exact cellsOf_length _ _ | rfl) (CellsA.one (py.cells (n := 84) rfl)) (by repeat (first | exact .zero | apply Upd.succ)) (by first | exact cellsOf_set rfl | exact cellsOf_setr rfl | exact cellsOf_store rfl | exact store_all rfl | rfl) (by first | exact cellsOf_in rfl rfl | exact cellsOf_in rfl (cellsOf_length _ _) | exact cellsOf_le rfl | exact Nat.le_of_ble_eq_true rfl | omega) (fun h => nomatch h) ?_
        refine so_assign rfl rfl rfl ?_
        refine so_then ?_
        refine sx_ret ?_
        refine sk_return2 (.cell rfl (by first | exact ld_ownA Try.underlying48 rfl inf48 rfl (by repeat (first | exact List.Mem.head _ | apply List.Mem.tail)) (by first | exact cellsOf_le rfl | decide | omega) (by first | exact cellsOf_all | exact take_all rfl | exact cellsOf_part rfl | rfl) | exact ld_dataA Try.underlying48 rfl inf48 rfl (by first | assumption | exact InA.add (by assumption) | exact InA.add (InA.add (by assumption))) (by assumption)) (.tmp rfl .nil)) ?_
        exact fun H hH => fillR_of hH (.ok he hnd (by
          rw [show rowOf (c 84) = bl by rw [eb]; rfl, ← hfb]
          obtain rfl : b = bl.length := by omega
          rw [List.drop_length]; rfl)) (py.cells rfl)
  · skip
    refine sx_region (E := E) ?_
    refine so_move rfl rfl rfl ?_
    refine so_bin rfl rfl rfl rfl (by first | exact bin_neq_f (by first | rfl | assumption | omega) | exact bin_neq_t (by first | rfl | assumption | omega)) ?_
    refine so_then ?_
    refine sx_true rfl ?_
    refine sx_seq ?_
    refine sx_region (E := E) ?_
    refine so_build (v := .agg ⟨k48.map zeroK⟩) rfl rfl .nil (by kernel_rfl) ?_
    refine so_move rfl rfl rfl ?_
    refine so_storeA rfl (fun h => nomatch h) rfl rfl inf48 (by kernel_rfl) (by kernel_rfl) (by repeat (first | exact .zero | apply Upd.succ)) (store_all (by kernel_rfl)) (Nat.le_of_ble_eq_true (by kernel_rfl)) (fun h => nomatch h) ?_
    refine so_assign rfl rfl rfl ?_
    refine so_then ?_
    refine sx_ret ?_
    refine sk_then_ret ?_
    refine sk_return2 (.cell rfl (by first | exact ld_ownA Try.underlying48 rfl inf48 rfl (by repeat (first | exact List.Mem.head _ | apply List.Mem.tail)) (by first | exact cellsOf_le rfl | decide | omega) (by first | exact cellsOf_all | exact take_all rfl | exact cellsOf_part rfl | rfl) | exact ld_dataA Try.underlying48 rfl inf48 rfl (by first | assumption | exact InA.add (by assumption) | exact InA.add (InA.add (by assumption))) (by assumption)) (.tmp rfl .nil)) ?_
    exact fun H hH => fillR_of hH (.chk he) zero_edit

end Go.Proofs.Ytaedeadgbojmnaa
