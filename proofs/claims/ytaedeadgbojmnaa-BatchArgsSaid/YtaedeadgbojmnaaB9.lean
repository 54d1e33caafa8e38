/-
  Walks, laid by program.
-/
import Derived.Test.YtaedeadgbojmnaaB8
set_option linter.unusedVariables false
set_option linter.unusedSimpArgs false
set_option maxRecDepth 100000
namespace Go.Proofs.Ytaedeadgbojmnaa
open Go Go.AM

theorem str_len {p : ByteArray} (h : p.size ≤ maxLen) : p.data.toList.length ≤ 9223372036854775807 := by
  have e : p.data.toList.length = p.size := by rw [Array.length_toList]; rfl
  rw [e]; exact h
theorem checkAction_ok {S : AH} {A : Nat → Prop} (hA : ∀ j, A j → j < S.nx) {xs : List Value} {cs : List CT} (hx : CellsA A S k51 xs cs) {bl pl : List (List CT)} {np : Nat} (hbl : cs[84]? = some (.row bl)) (hpl : cs[35]? = some (.row pl)) (hnp : np = pl.length) : XCall Try.prog 29 [.agg ⟨xs⟩] S fun v H' => v = .int .i64 (actErr bl np) ∧ Kept S.nx S H' := by
  obtain ⟨x, c, rfl, rfl, px⟩ := hx.fn (n := 85) rfl
  rw [ctsOf_get (by omega)] at hbl hpl
  obtain ⟨bl2, ab, cb, eb, hb84, rb⟩ := (px 84 _ rfl).rowD
  obtain ⟨pl2, ap, cp, ep, hp35, rp⟩ := (px 35 _ rfl).rowD
  rw [Option.some.inj hbl] at eb; cases eb
  rw [Option.some.inj hpl] at ep; cases ep
  subst hnp
  have hbb := rb.len
  have hbc := rb.le
  have hpp := rp.len
  refine x_enter (E := E) (n := 40) (rs := [.tmp 2]) (l := [(0, _)]) (fn_own Try.func29 rfl rfl rfl) hA rfl ?_
  refine sx_seq ?_
  refine sx_region (E := E) ?_
  refine so_boxA rfl rfl (fun h => nomatch h) rfl ?_
  intro N1
  refine so_assign rfl rfl rfl ?_
  refine so_then ?_
  refine sx_seq ?_
  refine sx_seq ?_
  rcases Nat.lt_or_ge 16 bl.length with h16 | h16
  · skip
    refine sx_region (E := E) ?_
    refine so_fieldO (o' := 84) rfl rfl rfl Try.underlying51 rfl inf49 rfl rfl ?_
    refine so_load rfl rfl rfl (by first | exact ld_own Try.underlying49 rfl (by repeat (first | exact List.Mem.head _ | apply List.Mem.tail)) (by first | exact (cellsOf_get rfl).trans (congrArg some hb84) | exact (cellsOf_get rfl).trans (congrArg some hp35) | exact cellsOf_get rfl | rfl) | exact ld_data Try.underlying49 rfl (by first | assumption | exact InA.add (by assumption) | exact InA.add (InA.add (by assumption))) (by assumption)) ?_
    refine so_lenL rfl rfl rfl rfl rfl rfl Try.underlying49 ?_
    refine so_bin rfl rfl rfl rfl (by first | exact bin_gtr_t (by omega) | exact bin_gtr_f (by omega)) ?_
    refine so_then ?_
    refine sx_true rfl ?_
    refine sx_seq ?_
    refine sx_region (E := E) ?_
    refine so_assign rfl rfl rfl ?_
    refine so_then ?_
    refine sx_ret ?_
    refine sk_then_ret ?_
    refine sk_return1 (.tmp rfl .nil) ?_
    exact fun H hH => ⟨by rw [actErr_big h16], hH.kept⟩
  · skip
    refine sx_region (E := E) ?_
    refine so_fieldO (o' := 84) rfl rfl rfl Try.underlying51 rfl inf49 rfl rfl ?_
    refine so_load rfl rfl rfl (by first | exact ld_own Try.underlying49 rfl (by repeat (first | exact List.Mem.head _ | apply List.Mem.tail)) (by first | exact (cellsOf_get rfl).trans (congrArg some hb84) | exact (cellsOf_get rfl).trans (congrArg some hp35) | exact cellsOf_get rfl | rfl) | exact ld_data Try.underlying49 rfl (by first | assumption | exact InA.add (by assumption) | exact InA.add (InA.add (by assumption))) (by assumption)) ?_
    refine so_lenL rfl rfl rfl rfl rfl rfl Try.underlying49 ?_
    refine so_bin rfl rfl rfl rfl (by first | exact bin_gtr_t (by omega) | exact bin_gtr_f (by omega)) ?_
    refine so_then ?_
    refine sx_false rfl ?_
    refine sx_skip ?_
    refine sk_then ?_
    refine sx_seq ?_
    refine sx_region (E := E) ?_
    refine so_callF (fun u H' A' => CellA A' H' (.row 16 [.str]) u (.row (strs fieldsL))) rfl rfl (fun h => nomatch h) rfl has15 (by repeat (first | exact Opvs.nil | apply Opvs.cons rfl)) (fun H hH => fields_ok _) ?_
    intro fu H1 A1 g1 hf
    obtain ⟨l, af, cf, ec, rfl, rf⟩ := hf.rowD
    cases ec
    have rb1 := rb.gr g1
    refine so_assign rfl rfl rfl ?_
    refine so_then ?_
    refine sx_seq ?_
    refine sx_seq ?_
    refine sx_region (E := E) ?_
    refine so_fieldO (o' := 84) rfl rfl rfl Try.underlying51 rfl inf49 rfl rfl ?_
    refine so_load rfl rfl rfl (by first | exact ld_own Try.underlying49 rfl (by repeat (first | exact List.Mem.head _ | apply List.Mem.tail)) (by first | exact (cellsOf_get rfl).trans (congrArg some hb84) | exact (cellsOf_get rfl).trans (congrArg some hp35) | exact cellsOf_get rfl | rfl) | exact ld_data Try.underlying49 rfl (by first | assumption | exact InA.add (by assumption) | exact InA.add (InA.add (by assumption))) (by assumption)) ?_
    refine so_lenL rfl rfl rfl rfl rfl rfl Try.underlying49 ?_
    refine so_move rfl rfl rfl ?_
    refine so_then ?_
    refine sx_block ?_
    refine sx_loop (σ := Nat) (fun k => bl.length - k) (fun k => [(1, .pointer (some ⟨2 * N1 + 1, 0, none⟩)), (3, .slice af (strs fieldsL).length cf), (12, .slice ab bl.length cb), (13, .int .i64 ((bl.length : Nat) : Int)), (14, .int .i64 ((k : Nat) : Int))]) (fun _ => H1) (fun _ => A1) (fun _ => [(N1, .cells (cellsOf 85 x) (boxsz E 51) true)]) (fun k => k ≤ bl.length ∧ (∀ j, j < k → bindErr bl pl.length j = 0)) (0) (⟨Nat.zero_le _, fun j h => absurd h (Nat.not_lt_zero _)⟩) (by repeat (first | exact .nil | refine .cons rfl ?_)) rfl rfl (by repeat (first | exact List.nil_sublist _ | apply List.Sublist.cons_cons | apply List.Sublist.cons)) ?_
    intro s hJ t1
    obtain ⟨hJ, hg⟩ := hJ
    refine sx_seq ?_
    rcases Nat.lt_or_ge s bl.length with hk | hk
    · skip
      obtain ⟨qb, us, d, rfl, ib, hc, lb, kb⟩ := rb1.at' s hk
      obtain ⟨u, p, rfl, rfl, hu, hp⟩ := str2 kb
      refine sx_region (E := E) ?_
      refine so_bin rfl rfl rfl rfl (by first | exact bin_lss_t (by omega) | exact bin_lss_f (by omega)) ?_
      refine so_then ?_
      refine sx_seq ?_
      refine sx_true rfl ?_
      refine sx_skip ?_
      refine sk_then ?_
      refine sx_seq ?_
      refine sx_block ?_
      refine sx_seq ?_
      refine sx_region (E := E) ?_
      refine so_move rfl rfl rfl ?_
      first | refine so_indexO rfl rfl rfl rfl Try.underlying49 inf79 rfl (by omega) rfl ?_ | refine so_index rfl rfl rfl rfl Try.underlying49 inf79 rfl (by omega) ?_
      refine so_load rfl rfl rfl (by first | exact ld_ownA Try.underlying79 rfl inf79 rfl (by repeat (first | exact List.Mem.head _ | apply List.Mem.tail)) (by first | exact cellsOf_le rfl | decide | omega) (by first | exact cellsOf_all | exact take_all rfl | exact cellsOf_part rfl | rfl) | exact ld_dataA Try.underlying79 rfl inf79 rfl (by first | assumption | exact InA.add (by assumption) | exact InA.add (InA.add (by assumption))) (by assumption)) ?_
      refine so_alloc (cs := (.string ⟨#[]⟩ :: .string ⟨#[]⟩ :: [])) rfl rfl (fun h => nomatch h) inf79 rfl rfl ?_
      intro N5
      refine so_assign rfl rfl rfl ?_
      refine so_storeA rfl (fun h => nomatch h) rfl rfl inf79 (by first | exact cellsOf_length _ _ | rfl) rfl (by repeat (first | exact .zero | apply Upd.succ)) (by first | exact cellsOf_set rfl | exact cellsOf_setr rfl | exact cellsOf_store rfl | exact store_all rfl | rfl) (by first | exact cellsOf_in rfl rfl | exact cellsOf_in rfl (cellsOf_length _ _) | exact cellsOf_le rfl | exact Nat.le_of_ble_eq_true rfl | omega) (fun h => nomatch h) ?_
      refine so_then ?_
      refine sx_seq ?_
      refine sx_seq ?_
      cases hn : nameB p.data.toList
      · skip
        refine sx_region (E := E) ?_
        refine so_fieldO (o' := 1) rfl rfl rfl Try.underlying79 rfl inf9 rfl rfl ?_
        refine so_load rfl rfl rfl (by first | exact ld_own Try.underlying9 rfl (by repeat (first | exact List.Mem.head _ | apply List.Mem.tail)) (by first | exact (cellsOf_get rfl).trans (congrArg some hb84) | exact (cellsOf_get rfl).trans (congrArg some hp35) | exact cellsOf_get rfl | rfl) | exact ld_data Try.underlying9 rfl (by first | assumption | exact InA.add (by assumption) | exact InA.add (InA.add (by assumption))) (by assumption)) ?_
        refine so_call rfl rfl (fun h => nomatch h) rfl has44 (by repeat (first | exact Opvs.nil | apply Opvs.cons rfl)) (fun H hH => (isName_ok p (str_len hp)).b hn) ?_
        refine so_not rfl rfl rfl rfl ?_
        refine so_then ?_
        refine sx_true rfl ?_
        refine sx_seq ?_
        refine sx_region (E := E) ?_
        refine so_assign rfl rfl rfl ?_
        refine so_then ?_
        refine sx_ret ?_
        refine sk_then_ret ?_
        refine sk_block_ret ?_
        refine sk_then_ret ?_
        refine sk_loop_ret ?_
        refine sk_block_ret ?_
        refine sk_then_ret ?_
        refine sk_return1 (.tmp rfl .nil) ?_
        exact fun H hH => ⟨by rw [actErr_at (by omega) hk hg (bindErr_13 hc hn) (by decide)], hH.kept⟩
      · skip
        refine sx_region (E := E) ?_
        refine so_fieldO (o' := 1) rfl rfl rfl Try.underlying79 rfl inf9 rfl rfl ?_
        refine so_load rfl rfl rfl (by first | exact ld_own Try.underlying9 rfl (by repeat (first | exact List.Mem.head _ | apply List.Mem.tail)) (by first | exact (cellsOf_get rfl).trans (congrArg some hb84) | exact (cellsOf_get rfl).trans (congrArg some hp35) | exact cellsOf_get rfl | rfl) | exact ld_data Try.underlying9 rfl (by first | assumption | exact InA.add (by assumption) | exact InA.add (InA.add (by assumption))) (by assumption)) ?_
        refine so_call rfl rfl (fun h => nomatch h) rfl has44 (by repeat (first | exact Opvs.nil | apply Opvs.cons rfl)) (fun H hH => (isName_ok p (str_len hp)).b hn) ?_
        refine so_not rfl rfl rfl rfl ?_
        refine so_then ?_
        refine sx_false rfl ?_
        refine sx_skip ?_
        refine sk_then ?_
        refine sx_seq ?_
        refine sx_seq ?_
        cases hv : contB (strs fieldsL) u.data.toList
        · skip
          refine sx_region (E := E) ?_
          refine so_move rfl rfl rfl ?_
          refine so_fieldO (o' := 0) rfl rfl rfl Try.underlying79 rfl inf9 rfl rfl ?_
          refine so_load rfl rfl rfl (by first | exact ld_own Try.underlying9 rfl (by repeat (first | exact List.Mem.head _ | apply List.Mem.tail)) (by first | exact (cellsOf_get rfl).trans (congrArg some hb84) | exact (cellsOf_get rfl).trans (congrArg some hp35) | exact cellsOf_get rfl | rfl) | exact ld_data Try.underlying9 rfl (by first | assumption | exact InA.add (by assumption) | exact InA.add (InA.add (by assumption))) (by assumption)) ?_
          refine so_call rfl rfl (fun h => nomatch h) rfl has45 (by repeat (first | exact Opvs.nil | apply Opvs.cons rfl)) (fun H hH => (contains_ok hH.lt u (CellA.gr hH.gr _ _ _ rf.cell)).b hv) ?_
          refine so_not rfl rfl rfl rfl ?_
          refine so_then ?_
          refine sx_true rfl ?_
          refine sx_seq ?_
          refine sx_region (E := E) ?_
          refine so_assign rfl rfl rfl ?_
          refine so_then ?_
          refine sx_ret ?_
          refine sk_then_ret ?_
          refine sk_block_ret ?_
          refine sk_then_ret ?_
          refine sk_loop_ret ?_
          refine sk_block_ret ?_
          refine sk_then_ret ?_
          refine sk_return1 (.tmp rfl .nil) ?_
          exact fun H hH => ⟨by rw [actErr_at (by omega) hk hg (bindErr_9 hc hn hv) (by decide)], hH.kept⟩
        · skip
          refine sx_region (E := E) ?_
          refine so_move rfl rfl rfl ?_
          refine so_fieldO (o' := 0) rfl rfl rfl Try.underlying79 rfl inf9 rfl rfl ?_
          refine so_load rfl rfl rfl (by first | exact ld_own Try.underlying9 rfl (by repeat (first | exact List.Mem.head _ | apply List.Mem.tail)) (by first | exact (cellsOf_get rfl).trans (congrArg some hb84) | exact (cellsOf_get rfl).trans (congrArg some hp35) | exact cellsOf_get rfl | rfl) | exact ld_data Try.underlying9 rfl (by first | assumption | exact InA.add (by assumption) | exact InA.add (InA.add (by assumption))) (by assumption)) ?_
          refine so_call rfl rfl (fun h => nomatch h) rfl has45 (by repeat (first | exact Opvs.nil | apply Opvs.cons rfl)) (fun H hH => (contains_ok hH.lt u (CellA.gr hH.gr _ _ _ rf.cell)).b hv) ?_
          refine so_not rfl rfl rfl rfl ?_
          refine so_then ?_
          refine sx_false rfl ?_
          refine sx_skip ?_
          refine sk_then ?_
          refine sx_seq ?_
          refine sx_seq ?_
          cases hd : contB (bl.take s) u.data.toList
          · skip
            refine sx_region (E := E) ?_
            refine so_fieldO (o' := 84) rfl rfl rfl Try.underlying51 rfl inf49 rfl rfl ?_
            refine so_load rfl rfl rfl (by first | exact ld_own Try.underlying49 rfl (by repeat (first | exact List.Mem.head _ | apply List.Mem.tail)) (by first | exact (cellsOf_get rfl).trans (congrArg some hb84) | exact (cellsOf_get rfl).trans (congrArg some hp35) | exact cellsOf_get rfl | rfl) | exact ld_data Try.underlying49 rfl (by first | assumption | exact InA.add (by assumption) | exact InA.add (InA.add (by assumption))) (by assumption)) ?_
            refine so_move rfl rfl rfl ?_
            refine so_cutD rfl rfl rfl Try.underlying49 inf79 .none (.some rfl) .none rb1 rfl (by decide) (abounds_h (by omega)) (by omega) (by omega) ?_
            intro ab2 rb2
            refine so_makeFunc rfl rfl (by repeat (first | exact Opvs.nil | apply Opvs.cons rfl)) (by repeat (first | exact Opvs.nil | apply Opvs.cons rfl)) ?_
            refine so_call rfl rfl (fun h => nomatch h) rfl has46 (by repeat (first | exact Opvs.nil | apply Opvs.cons rfl)) (fun H hH => (containsF_ok hH.lt (by have h3 := (rb2.gr hH.gr).cell; rwa [List.length_take, Nat.min_eq_left (Nat.le_of_lt hk)] at h3) (hH.own _ (List.Mem.head _)).2.2.1 (hH.own _ (List.Mem.head _)).1 rfl).b hd) ?_
            refine so_then ?_
            refine sx_false rfl ?_
            refine sx_skip ?_
            refine sk_then ?_
            refine sx_seq ?_
            by_cases hr : (pl.length : Int) ≤ pIx u.data.toList
            · skip
              refine sx_region (E := E) ?_
              refine so_fieldO (o' := 0) rfl rfl rfl Try.underlying51 rfl inf48 rfl rfl ?_
              refine so_fieldO (o' := 0) rfl rfl rfl Try.underlying79 rfl inf9 rfl rfl ?_
              refine so_load rfl rfl rfl (by first | exact ld_own Try.underlying9 rfl (by repeat (first | exact List.Mem.head _ | apply List.Mem.tail)) (by first | exact (cellsOf_get rfl).trans (congrArg some hb84) | exact (cellsOf_get rfl).trans (congrArg some hp35) | exact cellsOf_get rfl | rfl) | exact ld_data Try.underlying9 rfl (by first | assumption | exact InA.add (by assumption) | exact InA.add (InA.add (by assumption))) (by assumption)) ?_
              refine so_call rfl rfl (fun h => nomatch h) rfl has22 (by repeat (first | exact Opvs.nil | apply Opvs.cons rfl)) ((by first | exact fun H hH => field_nil ((cellsOf_get rfl).trans (congrArg some hp35)) hv hr (hH.own _ (List.Mem.tail _ (List.Mem.head _))).2.2.1 (hH.own _ (List.Mem.tail _ (List.Mem.head _))).1 | exact fun H hH => hfa H (hH.own _ (List.Mem.tail _ (List.Mem.head _))).2.2.1 (hH.own _ (List.Mem.tail _ (List.Mem.head _))).1)) ?_
              refine so_bin rfl rfl rfl rfl (by first | exact bin_pnil_t Try.underlying80 | exact bin_pnil_f Try.underlying80) ?_
              refine so_then ?_
              refine sx_true rfl ?_
              refine sx_seq ?_
              refine sx_region (E := E) ?_
              refine so_assign rfl rfl rfl ?_
              refine so_then ?_
              refine sx_ret ?_
              refine sk_block_ret ?_
              refine sk_then_ret ?_
              refine sk_loop_ret ?_
              refine sk_block_ret ?_
              refine sk_then_ret ?_
              refine sk_return1 (.tmp rfl .nil) ?_
              exact fun H hH => ⟨by rw [actErr_at (by omega) hk hg (bindErr_2 hc hn hv hd hr) (by decide)], hH.kept⟩
            · skip
              obtain ⟨fa, hfa⟩ := field_ptr (N := N1) (sz := boxsz E 51) (ex := true) (cs := cellsOf 85 x) ((cellsOf_get rfl).trans (congrArg some hp35)) (fun h => by have := rp.le; have := rp.nil h; omega) hv hr
              refine sx_region (E := E) ?_
              refine so_fieldO (o' := 0) rfl rfl rfl Try.underlying51 rfl inf48 rfl rfl ?_
              refine so_fieldO (o' := 0) rfl rfl rfl Try.underlying79 rfl inf9 rfl rfl ?_
              refine so_load rfl rfl rfl (by first | exact ld_own Try.underlying9 rfl (by repeat (first | exact List.Mem.head _ | apply List.Mem.tail)) (by first | exact (cellsOf_get rfl).trans (congrArg some hb84) | exact (cellsOf_get rfl).trans (congrArg some hp35) | exact cellsOf_get rfl | rfl) | exact ld_data Try.underlying9 rfl (by first | assumption | exact InA.add (by assumption) | exact InA.add (InA.add (by assumption))) (by assumption)) ?_
              refine so_call rfl rfl (fun h => nomatch h) rfl has22 (by repeat (first | exact Opvs.nil | apply Opvs.cons rfl)) ((by first | exact fun H hH => field_nil ((cellsOf_get rfl).trans (congrArg some hp35)) hv hr (hH.own _ (List.Mem.tail _ (List.Mem.head _))).2.2.1 (hH.own _ (List.Mem.tail _ (List.Mem.head _))).1 | exact fun H hH => hfa H (hH.own _ (List.Mem.tail _ (List.Mem.head _))).2.2.1 (hH.own _ (List.Mem.tail _ (List.Mem.head _))).1)) ?_
              refine so_bin rfl rfl rfl rfl (by first | exact bin_pnil_t Try.underlying80 | exact bin_pnil_f Try.underlying80) ?_
              refine so_then ?_
              refine sx_false rfl ?_
              refine sx_skip ?_
              refine sk_block ?_
              refine sk_then ?_
              refine sx_region (E := E) ?_
              refine so_bin rfl rfl rfl rfl (by first | exact bin_incr (by omega) | exact bin_add (wrap64 (by omega) (by omega)) | exact bin_add rfl) ?_
              refine so_move rfl rfl rfl ?_
              refine so_nil ?_
              refine sk_round (s + 1) (show bl.length - (s + 1) < bl.length - s by omega) ⟨by omega, fun j hj => ?_⟩ (by repeat (first | exact .nil | refine .cons rfl ?_)) rfl rfl (by repeat (first | exact List.nil_sublist _ | apply List.Sublist.cons_cons | apply List.Sublist.cons))
              by_cases e : j = s
              · subst e; exact bindErr_0 hc hn hv hd hr
              · exact hg j (by omega)
          · skip
            refine sx_region (E := E) ?_
            refine so_fieldO (o' := 84) rfl rfl rfl Try.underlying51 rfl inf49 rfl rfl ?_
            refine so_load rfl rfl rfl (by first | exact ld_own Try.underlying49 rfl (by repeat (first | exact List.Mem.head _ | apply List.Mem.tail)) (by first | exact (cellsOf_get rfl).trans (congrArg some hb84) | exact (cellsOf_get rfl).trans (congrArg some hp35) | exact cellsOf_get rfl | rfl) | exact ld_data Try.underlying49 rfl (by first | assumption | exact InA.add (by assumption) | exact InA.add (InA.add (by assumption))) (by assumption)) ?_
            refine so_move rfl rfl rfl ?_
            refine so_cutD rfl rfl rfl Try.underlying49 inf79 .none (.some rfl) .none rb1 rfl (by decide) (abounds_h (by omega)) (by omega) (by omega) ?_
            intro ab2 rb2
            refine so_makeFunc rfl rfl (by repeat (first | exact Opvs.nil | apply Opvs.cons rfl)) (by repeat (first | exact Opvs.nil | apply Opvs.cons rfl)) ?_
            refine so_call rfl rfl (fun h => nomatch h) rfl has46 (by repeat (first | exact Opvs.nil | apply Opvs.cons rfl)) (fun H hH => (containsF_ok hH.lt (by have h3 := (rb2.gr hH.gr).cell; rwa [List.length_take, Nat.min_eq_left (Nat.le_of_lt hk)] at h3) (hH.own _ (List.Mem.head _)).2.2.1 (hH.own _ (List.Mem.head _)).1 rfl).b hd) ?_
            refine so_then ?_
            refine sx_true rfl ?_
            refine sx_seq ?_
            refine sx_region (E := E) ?_
            refine so_assign rfl rfl rfl ?_
            refine so_then ?_
            refine sx_ret ?_
            refine sk_then_ret ?_
            refine sk_block_ret ?_
            refine sk_then_ret ?_
            refine sk_loop_ret ?_
            refine sk_block_ret ?_
            refine sk_then_ret ?_
            refine sk_return1 (.tmp rfl .nil) ?_
            exact fun H hH => ⟨by rw [actErr_at (by omega) hk hg (bindErr_10 hc hn hv hd) (by decide)], hH.kept⟩
    · skip
      refine sx_region (E := E) ?_
      refine so_bin rfl rfl rfl rfl (by first | exact bin_lss_t (by omega) | exact bin_lss_f (by omega)) ?_
      refine so_then ?_
      refine sx_seq ?_
      refine sx_false rfl ?_
      refine sx_exit ?_
      refine sk_then_exit ?_
      refine sk_loop_exit ?_
      refine sk_block_exit ?_
      refine sk_then ?_
      refine sx_seq ?_
      refine sx_region (E := E) ?_
      refine so_assign rfl rfl rfl ?_
      refine so_then ?_
      refine sx_ret ?_
      refine sk_return1 (.tmp rfl .nil) ?_
      exact fun H hH => ⟨by rw [actErr_ok h16 fun j hj => hg j (by omega)], hH.kept⟩

theorem bind_ok {S : AH} {A : Nat → Prop} (hA : ∀ j, A j → j < S.nx) {xs : List Value} {cs : List CT} (hx : CellsA A S k51 xs cs) {bl pl : List (List CT)} {np : Nat} (hbl : cs[84]? = some (.row bl)) (hpl : cs[35]? = some (.row pl)) (hnp : np = pl.length) {k : Nat} (hk : k < bl.length) : XCall Try.prog 30 [.agg ⟨xs⟩, .int .i64 ((k : Nat) : Int)] S fun v H' => v = .int .i64 (bindErr bl np k) ∧ Kept S.nx S H' := by
  obtain ⟨x, c, rfl, rfl, px⟩ := hx.fn (n := 85) rfl
  rw [ctsOf_get (by omega)] at hbl hpl
  obtain ⟨bl2, ab, cb, eb, hb84, rb⟩ := (px 84 _ rfl).rowD
  obtain ⟨pl2, ap, cp, ep, hp35, rp⟩ := (px 35 _ rfl).rowD
  rw [Option.some.inj hbl] at eb; cases eb
  rw [Option.some.inj hpl] at ep; cases ep
  subst hnp
  have hbb := rb.len
  have hbc := rb.le
  have hpp := rp.len
  obtain ⟨qb, us, d, rfl, ib, hc, lb, kb⟩ := rb.at' k hk
  obtain ⟨u, p, rfl, rfl, hu, hp⟩ := str2 kb
  refine x_enter (E := E) (n := 43) (rs := [.tmp 4]) (l := [(1, _), (0, _)]) (fn_own Try.func30 rfl rfl rfl) hA rfl ?_
  refine sx_seq ?_
  refine sx_region (E := E) ?_
  refine so_boxA rfl rfl (fun h => nomatch h) rfl ?_
  intro N2
  refine so_assign rfl rfl rfl ?_
  refine so_then ?_
  refine sx_seq ?_
  refine sx_region (E := E) ?_
  refine so_fieldO (o' := 84) rfl rfl rfl Try.underlying51 rfl inf49 rfl rfl ?_
  refine so_load rfl rfl rfl (by first | exact ld_own Try.underlying49 rfl (by repeat (first | exact List.Mem.head _ | apply List.Mem.tail)) (by first | exact (cellsOf_get rfl).trans (congrArg some hb84) | exact (cellsOf_get rfl).trans (congrArg some hp35) | exact cellsOf_get rfl | rfl) | exact ld_data Try.underlying49 rfl (by first | assumption | exact InA.add (by assumption) | exact InA.add (InA.add (by assumption))) (by assumption)) ?_
  refine so_move rfl rfl rfl ?_
  first | refine so_indexO rfl rfl rfl rfl Try.underlying49 inf79 rfl (by omega) rfl ?_ | refine so_index rfl rfl rfl rfl Try.underlying49 inf79 rfl (by omega) ?_
  refine so_load rfl rfl rfl (by first | exact ld_ownA Try.underlying79 rfl inf79 rfl (by repeat (first | exact List.Mem.head _ | apply List.Mem.tail)) (by first | exact cellsOf_le rfl | decide | omega) (by first | exact cellsOf_all | exact take_all rfl | exact cellsOf_part rfl | rfl) | exact ld_dataA Try.underlying79 rfl inf79 rfl (by first | assumption | exact InA.add (by assumption) | exact InA.add (InA.add (by assumption))) (by assumption)) ?_
  refine so_alloc (cs := (.string ⟨#[]⟩ :: .string ⟨#[]⟩ :: [])) rfl rfl (fun h => nomatch h) inf79 rfl rfl ?_
  intro N5
  refine so_storeA rfl (fun h => nomatch h) rfl rfl inf79 (by first | exact cellsOf_length _ _ | rfl) rfl (by repeat (first | exact .zero | apply Upd.succ)) (by first | exact cellsOf_set rfl | exact cellsOf_setr rfl | exact cellsOf_store rfl | exact store_all rfl | rfl) (by first | exact cellsOf_in rfl rfl | exact cellsOf_in rfl (cellsOf_length _ _) | exact cellsOf_le rfl | exact Nat.le_of_ble_eq_true rfl | omega) (fun h => nomatch h) ?_
  refine so_then ?_
  refine sx_seq ?_
  refine sx_seq ?_
  cases hn : nameB p.data.toList
  · skip
    refine sx_region (E := E) ?_
    refine so_fieldO (o' := 1) rfl rfl rfl Try.underlying79 rfl inf9 rfl rfl ?_
    refine so_load rfl rfl rfl (by first | exact ld_own Try.underlying9 rfl (by repeat (first | exact List.Mem.head _ | apply List.Mem.tail)) (by first | exact (cellsOf_get rfl).trans (congrArg some hb84) | exact (cellsOf_get rfl).trans (congrArg some hp35) | exact cellsOf_get rfl | rfl) | exact ld_data Try.underlying9 rfl (by first | assumption | exact InA.add (by assumption) | exact InA.add (InA.add (by assumption))) (by assumption)) ?_
    refine so_call rfl rfl (fun h => nomatch h) rfl has48 (by repeat (first | exact Opvs.nil | apply Opvs.cons rfl)) (fun H hH => (named_ok p (str_len hp)).b hn) ?_
    refine so_not rfl rfl rfl rfl ?_
    refine so_then ?_
    refine sx_true rfl ?_
    refine sx_seq ?_
    refine sx_region (E := E) ?_
    refine so_assign rfl rfl rfl ?_
    refine so_then ?_
    refine sx_ret ?_
    refine sk_then_ret ?_
    refine sk_return1 (.tmp rfl .nil) ?_
    exact fun H hH => ⟨by rw [bindErr_13 hc hn], hH.kept⟩
  · skip
    refine sx_region (E := E) ?_
    refine so_fieldO (o' := 1) rfl rfl rfl Try.underlying79 rfl inf9 rfl rfl ?_
    refine so_load rfl rfl rfl (by first | exact ld_own Try.underlying9 rfl (by repeat (first | exact List.Mem.head _ | apply List.Mem.tail)) (by first | exact (cellsOf_get rfl).trans (congrArg some hb84) | exact (cellsOf_get rfl).trans (congrArg some hp35) | exact cellsOf_get rfl | rfl) | exact ld_data Try.underlying9 rfl (by first | assumption | exact InA.add (by assumption) | exact InA.add (InA.add (by assumption))) (by assumption)) ?_
    refine so_call rfl rfl (fun h => nomatch h) rfl has48 (by repeat (first | exact Opvs.nil | apply Opvs.cons rfl)) (fun H hH => (named_ok p (str_len hp)).b hn) ?_
    refine so_not rfl rfl rfl rfl ?_
    refine so_then ?_
    refine sx_false rfl ?_
    refine sx_skip ?_
    refine sk_then ?_
    refine sx_seq ?_
    refine sx_seq ?_
    cases hv : contB (strs fieldsL) u.data.toList
    · skip
      refine sx_region (E := E) ?_
      refine so_fieldO (o' := 0) rfl rfl rfl Try.underlying79 rfl inf9 rfl rfl ?_
      refine so_load rfl rfl rfl (by first | exact ld_own Try.underlying9 rfl (by repeat (first | exact List.Mem.head _ | apply List.Mem.tail)) (by first | exact (cellsOf_get rfl).trans (congrArg some hb84) | exact (cellsOf_get rfl).trans (congrArg some hp35) | exact cellsOf_get rfl | rfl) | exact ld_data Try.underlying9 rfl (by first | assumption | exact InA.add (by assumption) | exact InA.add (InA.add (by assumption))) (by assumption)) ?_
      refine so_call rfl rfl (fun h => nomatch h) rfl has49 (by repeat (first | exact Opvs.nil | apply Opvs.cons rfl)) (fun H hH => (rfield_ok u).b hv) ?_
      refine so_not rfl rfl rfl rfl ?_
      refine so_then ?_
      refine sx_true rfl ?_
      refine sx_seq ?_
      refine sx_region (E := E) ?_
      refine so_assign rfl rfl rfl ?_
      refine so_then ?_
      refine sx_ret ?_
      refine sk_then_ret ?_
      refine sk_return1 (.tmp rfl .nil) ?_
      exact fun H hH => ⟨by rw [bindErr_9 hc hn hv], hH.kept⟩
    · skip
      refine sx_region (E := E) ?_
      refine so_fieldO (o' := 0) rfl rfl rfl Try.underlying79 rfl inf9 rfl rfl ?_
      refine so_load rfl rfl rfl (by first | exact ld_own Try.underlying9 rfl (by repeat (first | exact List.Mem.head _ | apply List.Mem.tail)) (by first | exact (cellsOf_get rfl).trans (congrArg some hb84) | exact (cellsOf_get rfl).trans (congrArg some hp35) | exact cellsOf_get rfl | rfl) | exact ld_data Try.underlying9 rfl (by first | assumption | exact InA.add (by assumption) | exact InA.add (InA.add (by assumption))) (by assumption)) ?_
      refine so_call rfl rfl (fun h => nomatch h) rfl has49 (by repeat (first | exact Opvs.nil | apply Opvs.cons rfl)) (fun H hH => (rfield_ok u).b hv) ?_
      refine so_not rfl rfl rfl rfl ?_
      refine so_then ?_
      refine sx_false rfl ?_
      refine sx_skip ?_
      refine sk_then ?_
      refine sx_seq ?_
      refine sx_seq ?_
      refine sx_region (E := E) ?_
      refine so_assign rfl rfl rfl ?_
      refine so_then ?_
      refine sx_block ?_
      refine sx_loop (σ := Nat) (fun j => k - j) (fun j => [(1, .int .i64 ((k : Nat) : Int)), (2, .pointer (some ⟨2 * N2 + 1, 0, none⟩)), (5, .pointer (some ⟨2 * N5 + 1, 0, none⟩)), (6, .int .i64 ((j : Nat) : Int))]) (fun _ => S) (fun _ => A) (fun _ => [(N5, .cells [.string u, .string p] (boxsz E 79) true), (N2, .cells (cellsOf 85 x) (boxsz E 51) true)]) (fun j => j ≤ k ∧ (∀ i c, i < j → bl[i]? = some c → strF c ≠ u.data.toList)) (0) (⟨Nat.zero_le _, fun j c h => absurd h (Nat.not_lt_zero _)⟩) (by repeat (first | exact .nil | refine .cons rfl ?_)) rfl rfl (by repeat (first | exact List.nil_sublist _ | apply List.Sublist.cons_cons | apply List.Sublist.cons)) ?_
      intro s hJ t1
      obtain ⟨hJ, hg⟩ := hJ
      refine sx_seq ?_
      refine sx_seq ?_
      rcases Nat.lt_or_ge s k with hsk | hsk
      · skip
        obtain ⟨qs, vs, d, eqs, is', hcs, ls, ks⟩ := rb.at' s (by omega)
        cases eqs
        obtain ⟨u2, p2, rfl, rfl, hu2, hp2⟩ := str2 ks
        have ls0 : aload S ((qb.add (s * 2)).add 0) = some (.string u2) := aloads_at ls (j := 0) (by decide)
        refine sx_region (E := E) ?_
        refine so_move rfl rfl rfl ?_
        refine so_move rfl rfl rfl ?_
        refine so_bin rfl rfl rfl rfl (by first | exact bin_lss_t (by omega) | exact bin_lss_f (by omega)) ?_
        refine so_then ?_
        refine sx_true rfl ?_
        refine sx_skip ?_
        refine sk_then ?_
        refine sx_seq ?_
        refine sx_block ?_
        refine sx_seq ?_
        by_cases heq : u2.data.toList = u.data.toList
        · skip
          have hd10 : contB (bl.take k) u.data.toList = true := contB_found (k := s) (c := [.v (.string u2), .v (.string p2)]) (by rw [List.getElem?_take, if_pos hsk]; exact hcs) heq
          refine sx_draw (E := E) mixed [] _ (List.Sublist.refl _) (by kernel_rfl) (by kernel_rfl) (by decide) ?_
          refine so_fieldO (o' := 84) rfl rfl rfl Try.underlying51 rfl inf49 rfl rfl ?_
          refine so_load rfl rfl rfl (by first | exact ld_own Try.underlying49 rfl (by repeat (first | exact List.Mem.head _ | apply List.Mem.tail)) (by first | exact (cellsOf_get rfl).trans (congrArg some hb84) | exact (cellsOf_get rfl).trans (congrArg some hp35) | exact cellsOf_get rfl | rfl) | exact ld_data Try.underlying49 rfl (by first | assumption | exact InA.add (by assumption) | exact InA.add (InA.add (by assumption))) (by assumption)) ?_
          refine so_move rfl rfl rfl ?_
          first | refine so_indexO rfl rfl rfl rfl Try.underlying49 inf79 rfl (by omega) rfl ?_ | refine so_index rfl rfl rfl rfl Try.underlying49 inf79 rfl (by omega) ?_
          first | refine so_fieldO rfl rfl rfl Try.underlying79 rfl inf9 rfl rfl ?_ | refine so_fieldC rfl rfl rfl Try.underlying79 rfl inf9 rfl rfl ?_
          refine so_load rfl rfl rfl (by first | exact ld_own Try.underlying9 rfl (by repeat (first | exact List.Mem.head _ | apply List.Mem.tail)) (by first | exact (cellsOf_get rfl).trans (congrArg some hb84) | exact (cellsOf_get rfl).trans (congrArg some hp35) | exact cellsOf_get rfl | rfl) | exact ld_data Try.underlying9 rfl (by first | assumption | exact InA.add (by assumption) | exact InA.add (InA.add (by assumption))) (by assumption)) ?_
          refine so_fieldO (o' := 0) rfl rfl rfl Try.underlying79 rfl inf9 rfl rfl ?_
          refine so_load rfl rfl rfl (by first | exact ld_own Try.underlying9 rfl (by repeat (first | exact List.Mem.head _ | apply List.Mem.tail)) (by first | exact (cellsOf_get rfl).trans (congrArg some hb84) | exact (cellsOf_get rfl).trans (congrArg some hp35) | exact cellsOf_get rfl | rfl) | exact ld_data Try.underlying9 rfl (by first | assumption | exact InA.add (by assumption) | exact InA.add (InA.add (by assumption))) (by assumption)) ?_
          refine so_bin rfl rfl rfl rfl (by first | exact bin_seql_t (by first | rfl | assumption | decide) | exact bin_seql_f (by first | rfl | assumption | decide)) ?_
          refine so_then ?_
          refine sx_true rfl ?_
          refine sx_seq ?_
          refine sx_region (E := E) ?_
          refine so_assign rfl rfl rfl ?_
          refine so_then ?_
          refine sx_ret ?_
          refine sk_block_ret ?_
          refine sk_then_ret ?_
          refine sk_loop_ret ?_
          refine sk_block_ret ?_
          refine sk_then_ret ?_
          refine sk_return1 (.tmp rfl .nil) ?_
          exact fun H hH => ⟨by rw [bindErr_10 hc hn hv hd10], hH.kept⟩
        · skip
          refine sx_draw (E := E) mixed [] _ (List.Sublist.refl _) (by kernel_rfl) (by kernel_rfl) (by decide) ?_
          refine so_fieldO (o' := 84) rfl rfl rfl Try.underlying51 rfl inf49 rfl rfl ?_
          refine so_load rfl rfl rfl (by first | exact ld_own Try.underlying49 rfl (by repeat (first | exact List.Mem.head _ | apply List.Mem.tail)) (by first | exact (cellsOf_get rfl).trans (congrArg some hb84) | exact (cellsOf_get rfl).trans (congrArg some hp35) | exact cellsOf_get rfl | rfl) | exact ld_data Try.underlying49 rfl (by first | assumption | exact InA.add (by assumption) | exact InA.add (InA.add (by assumption))) (by assumption)) ?_
          refine so_move rfl rfl rfl ?_
          first | refine so_indexO rfl rfl rfl rfl Try.underlying49 inf79 rfl (by omega) rfl ?_ | refine so_index rfl rfl rfl rfl Try.underlying49 inf79 rfl (by omega) ?_
          first | refine so_fieldO rfl rfl rfl Try.underlying79 rfl inf9 rfl rfl ?_ | refine so_fieldC rfl rfl rfl Try.underlying79 rfl inf9 rfl rfl ?_
          refine so_load rfl rfl rfl (by first | exact ld_own Try.underlying9 rfl (by repeat (first | exact List.Mem.head _ | apply List.Mem.tail)) (by first | exact (cellsOf_get rfl).trans (congrArg some hb84) | exact (cellsOf_get rfl).trans (congrArg some hp35) | exact cellsOf_get rfl | rfl) | exact ld_data Try.underlying9 rfl (by first | assumption | exact InA.add (by assumption) | exact InA.add (InA.add (by assumption))) (by assumption)) ?_
          refine so_fieldO (o' := 0) rfl rfl rfl Try.underlying79 rfl inf9 rfl rfl ?_
          refine so_load rfl rfl rfl (by first | exact ld_own Try.underlying9 rfl (by repeat (first | exact List.Mem.head _ | apply List.Mem.tail)) (by first | exact (cellsOf_get rfl).trans (congrArg some hb84) | exact (cellsOf_get rfl).trans (congrArg some hp35) | exact cellsOf_get rfl | rfl) | exact ld_data Try.underlying9 rfl (by first | assumption | exact InA.add (by assumption) | exact InA.add (InA.add (by assumption))) (by assumption)) ?_
          refine so_bin rfl rfl rfl rfl (by first | exact bin_seql_t (by first | rfl | assumption | decide) | exact bin_seql_f (by first | rfl | assumption | decide)) ?_
          refine so_then ?_
          refine sx_false rfl ?_
          refine sx_skip ?_
          refine sk_block ?_
          refine sk_then ?_
          refine sx_region (E := E) ?_
          refine so_move rfl rfl rfl ?_
          refine so_bin rfl rfl rfl rfl (by first | exact bin_incr (by omega) | exact bin_add (wrap64 (by omega) (by omega)) | exact bin_add rfl) ?_
          refine so_assign rfl rfl rfl ?_
          refine so_nil ?_
          refine sk_round (s + 1) (show k - (s + 1) < k - s by omega) ⟨by omega, fun j c2 hj hb2 => ?_⟩ (by repeat (first | exact .nil | refine .cons rfl ?_)) rfl rfl (by repeat (first | exact List.nil_sublist _ | apply List.Sublist.cons_cons | apply List.Sublist.cons))
          by_cases e : j = s
          · subst e; rw [hcs] at hb2; cases hb2; exact heq
          · exact hg j c2 (by omega) hb2
      · skip
        have hd : contB (bl.take k) u.data.toList = false := contB_none fun j c h1 h2 => by
          rw [List.length_take] at h1
          rw [List.getElem?_take, if_pos (by omega)] at h2
          exact hg j c (by omega) h2
        refine sx_region (E := E) ?_
        refine so_move rfl rfl rfl ?_
        refine so_move rfl rfl rfl ?_
        refine so_bin rfl rfl rfl rfl (by first | exact bin_lss_t (by omega) | exact bin_lss_f (by omega)) ?_
        refine so_then ?_
        refine sx_false rfl ?_
        refine sx_exit ?_
        refine sk_then_exit ?_
        refine sk_loop_exit ?_
        refine sk_block_exit ?_
        refine sk_then ?_
        refine sx_seq ?_
        refine sx_seq ?_
        by_cases hr : (pl.length : Int) ≤ pIx u.data.toList
        · skip
          refine sx_draw (E := E) mixed [2] _ (List.Sublist.refl _) (by kernel_rfl) (by kernel_rfl) (by decide) ?_
          refine so_fieldO (o' := 0) rfl rfl rfl Try.underlying79 rfl inf9 rfl rfl ?_
          refine so_load rfl rfl rfl (by first | exact ld_own Try.underlying9 rfl (by repeat (first | exact List.Mem.head _ | apply List.Mem.tail)) (by first | exact (cellsOf_get rfl).trans (congrArg some hb84) | exact (cellsOf_get rfl).trans (congrArg some hp35) | exact cellsOf_get rfl | rfl) | exact ld_data Try.underlying9 rfl (by first | assumption | exact InA.add (by assumption) | exact InA.add (InA.add (by assumption))) (by assumption)) ?_
          refine so_call rfl rfl (fun _ => (by repeat (first | exact List.Mem.head _ | apply List.Mem.tail))) rfl has40 (by repeat (first | exact Opvs.nil | apply Opvs.cons rfl)) (fun H hH => pindex_ok u) ?_
          refine so_fieldO (o' := 0) rfl rfl rfl Try.underlying51 rfl inf48 rfl rfl ?_
          refine so_fieldO (o' := 8) rfl rfl rfl Try.underlying48 rfl inf38 rfl rfl ?_
          refine so_fieldO (o' := 35) rfl rfl rfl Try.underlying38 rfl inf22 rfl rfl ?_
          refine so_load rfl rfl rfl (by first | exact ld_own Try.underlying22 rfl (by repeat (first | exact List.Mem.head _ | apply List.Mem.tail)) (by first | exact (cellsOf_get rfl).trans (congrArg some hb84) | exact (cellsOf_get rfl).trans (congrArg some hp35) | exact cellsOf_get rfl | rfl) | exact ld_data Try.underlying22 rfl (by first | assumption | exact InA.add (by assumption) | exact InA.add (InA.add (by assumption))) (by assumption)) ?_
          refine so_lenL rfl rfl rfl rfl rfl rfl Try.underlying22 ?_
          refine so_bin rfl rfl rfl rfl (by first | exact bin_geq_t (by omega) | exact bin_geq_f (by omega)) ?_
          refine so_then ?_
          refine sx_true rfl ?_
          refine sx_seq ?_
          refine sx_region (E := E) ?_
          refine so_assign rfl rfl rfl ?_
          refine so_then ?_
          refine sx_ret ?_
          refine sk_then_ret ?_
          refine sk_return1 (.tmp rfl .nil) ?_
          exact fun H hH => ⟨by rw [bindErr_2 hc hn hv hd hr], hH.kept⟩
        · skip
          refine sx_draw (E := E) mixed [2] _ (List.Sublist.refl _) (by kernel_rfl) (by kernel_rfl) (by decide) ?_
          refine so_fieldO (o' := 0) rfl rfl rfl Try.underlying79 rfl inf9 rfl rfl ?_
          refine so_load rfl rfl rfl (by first | exact ld_own Try.underlying9 rfl (by repeat (first | exact List.Mem.head _ | apply List.Mem.tail)) (by first | exact (cellsOf_get rfl).trans (congrArg some hb84) | exact (cellsOf_get rfl).trans (congrArg some hp35) | exact cellsOf_get rfl | rfl) | exact ld_data Try.underlying9 rfl (by first | assumption | exact InA.add (by assumption) | exact InA.add (InA.add (by assumption))) (by assumption)) ?_
          refine so_call rfl rfl (fun _ => (by repeat (first | exact List.Mem.head _ | apply List.Mem.tail))) rfl has40 (by repeat (first | exact Opvs.nil | apply Opvs.cons rfl)) (fun H hH => pindex_ok u) ?_
          refine so_fieldO (o' := 0) rfl rfl rfl Try.underlying51 rfl inf48 rfl rfl ?_
          refine so_fieldO (o' := 8) rfl rfl rfl Try.underlying48 rfl inf38 rfl rfl ?_
          refine so_fieldO (o' := 35) rfl rfl rfl Try.underlying38 rfl inf22 rfl rfl ?_
          refine so_load rfl rfl rfl (by first | exact ld_own Try.underlying22 rfl (by repeat (first | exact List.Mem.head _ | apply List.Mem.tail)) (by first | exact (cellsOf_get rfl).trans (congrArg some hb84) | exact (cellsOf_get rfl).trans (congrArg some hp35) | exact cellsOf_get rfl | rfl) | exact ld_data Try.underlying22 rfl (by first | assumption | exact InA.add (by assumption) | exact InA.add (InA.add (by assumption))) (by assumption)) ?_
          refine so_lenL rfl rfl rfl rfl rfl rfl Try.underlying22 ?_
          refine so_bin rfl rfl rfl rfl (by first | exact bin_geq_t (by omega) | exact bin_geq_f (by omega)) ?_
          refine so_then ?_
          refine sx_false rfl ?_
          refine sx_skip ?_
          refine sk_then ?_
          refine sx_seq ?_
          refine sx_region (E := E) ?_
          refine so_assign rfl rfl rfl ?_
          refine so_then ?_
          refine sx_ret ?_
          refine sk_return1 (.tmp rfl .nil) ?_
          exact fun H hH => ⟨by rw [bindErr_0 hc hn hv hd hr], hH.kept⟩


def bindsOf (a : List CT) : List (List CT) :=
  match (a[84]? : Option CT) with
  | some (.row l) => l
  | _ => []
def paramsOf (a : List CT) : List (List CT) :=
  match (a[35]? : Option CT) with
  | some (.row l) => l
  | _ => []
def errOf (a : List CT) : Int := actErr (bindsOf a) (paramsOf a).length
def errAt (l : List (List CT)) (i : Nat) : Int :=
  match l[i]? with
  | some a => errOf a
  | none => 0
def chkErr (l : List (List CT)) : Int := if 256 < l.length then 3 else firstE (errAt l) l.length
theorem errAt_of {l : List (List CT)} {i : Nat} {a : List CT} (h : l[i]? = some a) : errAt l i = errOf a := by simp only [errAt, h]
theorem chkErr_big {l : List (List CT)} (h : 256 < l.length) : chkErr l = 3 := by rw [chkErr, if_pos h]
theorem chkErr_at {l : List (List CT)} {k : Nat} {a : List CT} (h : l.length ≤ 256) (hc : l[k]? = some a) (hb : ∀ j, j < k → errAt l j = 0) (h0 : errOf a ≠ 0) : chkErr l = errOf a := by
  have e := errAt_of hc
  rw [chkErr, if_neg (by omega), firstE_found (lt_of_getElem? hc) (by rw [e]; exact h0) hb, e]
theorem chkErr_ok {l : List (List CT)} (h : l.length ≤ 256) (hb : ∀ j, j < l.length → errAt l j = 0) : chkErr l = 0 := by
  rw [chkErr, if_neg (by omega), firstE_none hb]
theorem act_parts {A : Nat → Prop} {H : AH} {xs : List Value} {cs : List CT} (h : CellsA A H k51 xs cs) : cs[84]? = some (.row (bindsOf cs)) ∧ cs[35]? = some (.row (paramsOf cs)) := by
  obtain ⟨x, c, rfl, rfl, px⟩ := h.fn (n := 85) rfl
  obtain ⟨bl, ab, cb, eb, _, _⟩ := (px 84 _ rfl).rowD
  obtain ⟨pl, ap, cp, ep, _, _⟩ := (px 35 _ rfl).rowD
  have h1 : (ctsOf 85 c)[84]? = some (.row bl) := by rw [ctsOf_get (by omega), eb]
  have h2 : (ctsOf 85 c)[35]? = some (.row pl) := by rw [ctsOf_get (by omega), ep]
  simp only [bindsOf, paramsOf, h1, h2]
  exact ⟨trivial, trivial⟩
theorem check_ok {S : AH} {A : Nat → Prop} (hA : ∀ j, A j → j < S.nx) {x : Value} {l : List (List CT)} {bt : Nat} (hx : CellA A S (.row bt k51) x (.row l)) : XCall Try.prog 17 [x] S fun v H' => v = .int .i64 (chkErr l) ∧ Kept S.nx S H' := by
  obtain ⟨l2, ax, cx, e2, rfl, rx⟩ := hx.rowD
  cases e2
  have hb := rx.len
  refine x_enter (E := E) (n := 21) (rs := [.tmp 2]) (l := [(0, _)]) (fn_own Try.func17 rfl rfl rfl) hA rfl ?_
  refine sx_seq ?_
  refine sx_region (E := E) ?_
  refine so_assign rfl rfl rfl ?_
  refine so_then ?_
  refine sx_seq ?_
  refine sx_seq ?_
  rcases Nat.lt_or_ge 256 l.length with h16 | h16
  · skip
    refine sx_region (E := E) ?_
    refine so_move rfl rfl rfl ?_
    refine so_lenL rfl rfl rfl rfl rfl rfl Try.underlying61 ?_
    refine so_bin rfl rfl rfl rfl (by first | exact bin_gtr_t (by omega) | exact bin_gtr_f (by omega)) ?_
    refine so_then ?_
    refine sx_true rfl ?_
    refine sx_seq ?_
    refine sx_region (E := E) ?_
    refine so_assign rfl rfl rfl ?_
    refine so_then ?_
    refine sx_ret ?_
    refine sk_then_ret ?_
    refine sk_return1 (.tmp rfl .nil) ?_
    exact fun H hH => ⟨by rw [chkErr_big h16], hH.kept⟩
  · skip
    refine sx_region (E := E) ?_
    refine so_move rfl rfl rfl ?_
    refine so_lenL rfl rfl rfl rfl rfl rfl Try.underlying61 ?_
    refine so_bin rfl rfl rfl rfl (by first | exact bin_gtr_t (by omega) | exact bin_gtr_f (by omega)) ?_
    refine so_then ?_
    refine sx_false rfl ?_
    refine sx_skip ?_
    refine sk_then ?_
    refine sx_seq ?_
    refine sx_seq ?_
    refine sx_region (E := E) ?_
    refine so_move rfl rfl rfl ?_
    refine so_lenL rfl rfl rfl rfl rfl rfl Try.underlying61 ?_
    refine so_move rfl rfl rfl ?_
    refine so_then ?_
    refine sx_block ?_
    refine sx_loop (σ := Nat) (fun k => l.length - k) (fun k => [(9, .slice ax l.length cx), (10, .int .i64 ((l.length : Nat) : Int)), (11, .int .i64 ((k : Nat) : Int))]) (fun _ => S) (fun _ => A) (fun _ => []) (fun k => k ≤ l.length ∧ (∀ j, j < k → errAt l j = 0)) (0) (⟨Nat.zero_le _, fun j h => absurd h (Nat.not_lt_zero _)⟩) (by repeat (first | exact .nil | refine .cons rfl ?_)) rfl rfl (by repeat (first | exact List.nil_sublist _ | apply List.Sublist.cons_cons | apply List.Sublist.cons)) ?_
    intro s hJ t1
    obtain ⟨hJ, hg⟩ := hJ
    refine sx_seq ?_
    rcases Nat.lt_or_ge s l.length with hk | hk
    · skip
      obtain ⟨qb, us, d, rfl, ib, hc, lb, kb⟩ := rx.at' s hk
      obtain ⟨y, e, rfl, rfl, py⟩ := kb.fn (n := 85) rfl
      obtain ⟨hbl, hpl⟩ := act_parts kb
      refine sx_region (E := E) ?_
      refine so_bin rfl rfl rfl rfl (by first | exact bin_lss_t (by omega) | exact bin_lss_f (by omega)) ?_
      refine so_then ?_
      refine sx_seq ?_
      refine sx_true rfl ?_
      refine sx_skip ?_
      refine sk_then ?_
      refine sx_seq ?_
      refine sx_block ?_
      refine sx_seq ?_
      refine sx_region (E := E) ?_
      first | refine so_indexO rfl rfl rfl rfl Try.underlying61 inf51 rfl (by omega) rfl ?_ | refine so_index rfl rfl rfl rfl Try.underlying61 inf51 rfl (by omega) ?_
      refine so_load rfl rfl rfl (by first | exact ld_ownA Try.underlying51 rfl inf51 rfl (by repeat (first | exact List.Mem.head _ | apply List.Mem.tail)) (by first | exact cellsOf_le rfl | decide | omega) (by first | exact cellsOf_all | exact take_all rfl | exact cellsOf_part rfl | rfl) | exact ld_dataA Try.underlying51 rfl inf51 rfl (by first | assumption | exact InA.add (by assumption) | exact InA.add (InA.add (by assumption))) (by assumption)) ?_
      refine so_alloc (cs := (.int .i64 0 :: .int .i64 0 :: .int .i64 0 :: .int .i64 0 :: .int .i64 0 :: .int .i64 0 :: .string ⟨#[]⟩ :: .string ⟨#[]⟩ :: .int .i64 0 :: .int .i64 0 :: .int .i64 0 :: .string ⟨#[]⟩ :: .bool false :: .bool false :: .bool false :: .int .i64 0 :: .int .i64 0 :: .int .i64 0 :: .int .i64 0 :: .slice none 0 0 :: .int .i64 0 :: .int .i64 0 :: .int .i64 0 :: .int .i64 0 :: .int .i64 0 :: .int .i64 0 :: .int .i64 0 :: .int .i64 0 :: .int .i64 0 :: .slice none 0 0 :: .int .i64 0 :: .int .i64 0 :: .int .i64 0 :: .int .i64 0 :: .int .i64 0 :: .slice none 0 0 :: .int .i64 0 :: .slice none 0 0 :: .slice none 0 0 :: .int .i64 0 :: .int .i64 0 :: .int .i64 0 :: .int .i64 0 :: .string ⟨#[]⟩ :: .int .i64 0 :: .int .i64 0 :: .int .i64 0 :: .int .i64 0 :: .int .i64 0 :: .int .i64 0 :: .slice none 0 0 :: .int .i64 0 :: .int .i64 0 :: .slice none 0 0 :: .int .i64 0 :: .int .i64 0 :: .slice none 0 0 :: .int .i64 0 :: .int .i64 0 :: .int .i64 0 :: .int .i64 0 :: .int .i64 0 :: .int .i64 0 :: .int .i64 0 :: .int .i64 0 :: .int .i64 0 :: .int .i64 0 :: .int .i64 0 :: .int .i64 0 :: .int .i64 0 :: .int .i64 0 :: .slice none 0 0 :: .bool false :: .slice none 0 0 :: .int .i64 0 :: .int .i64 0 :: .int .i64 0 :: .int .i64 0 :: .int .i64 0 :: .int .i64 0 :: .int .i64 0 :: .int .i64 0 :: .int .i64 0 :: .int .i64 0 :: .slice none 0 0 :: [])) rfl rfl (fun h => nomatch h) inf51 rfl rfl ?_
      intro N4
      refine so_storeA rfl (fun h => nomatch h) rfl rfl inf51 (by first | exact cellsOf_length _ _ | rfl) (CellsA.one kb) (by repeat (first | exact .zero | apply Upd.succ)) (by first | exact cellsOf_set rfl | exact cellsOf_setr rfl | exact cellsOf_store rfl | exact store_all rfl | rfl) (by first | exact cellsOf_in rfl rfl | exact cellsOf_in rfl (cellsOf_length _ _) | exact cellsOf_le rfl | exact Nat.le_of_ble_eq_true rfl | omega) (fun h => nomatch h) ?_
      refine so_then ?_
      refine sx_seq ?_
      refine sx_region (E := E) ?_
      refine so_load rfl rfl rfl (by first | exact ld_ownA Try.underlying51 rfl inf51 rfl (by repeat (first | exact List.Mem.head _ | apply List.Mem.tail)) (by first | exact cellsOf_le rfl | decide | omega) (by first | exact cellsOf_all | exact take_all rfl | exact cellsOf_part rfl | rfl) | exact ld_dataA Try.underlying51 rfl inf51 rfl (by first | assumption | exact InA.add (by assumption) | exact InA.add (InA.add (by assumption))) (by assumption)) ?_
      refine so_call rfl rfl (fun h => nomatch h) rfl has29 (by repeat (first | exact Opvs.nil | apply Opvs.cons rfl)) (fun H hH => checkAction_ok hH.lt (CellsA.gr hH.gr _ _ _ kb) hbl hpl rfl) ?_
      refine so_assign rfl rfl rfl ?_
      refine so_then ?_
      refine sx_seq ?_
      by_cases he : errOf (ctsOf 85 e) = 0
      · skip
        refine sx_region (E := E) ?_
        refine so_move rfl rfl rfl ?_
        refine so_bin rfl rfl rfl rfl (by first | exact bin_neq_f (by first | rfl | assumption | omega) | exact bin_neq_t (by first | rfl | assumption | omega)) ?_
        refine so_then ?_
        refine sx_false rfl ?_
        refine sx_skip ?_
        refine sk_block ?_
        refine sk_then ?_
        refine sx_region (E := E) ?_
        refine so_bin rfl rfl rfl rfl (by first | exact bin_incr (by omega) | exact bin_add (wrap64 (by omega) (by omega)) | exact bin_add rfl) ?_
        refine so_move rfl rfl rfl ?_
        refine so_nil ?_
        refine sk_round (s + 1) (show l.length - (s + 1) < l.length - s by omega) ⟨by omega, fun j hj => ?_⟩ (by repeat (first | exact .nil | refine .cons rfl ?_)) rfl rfl (by repeat (first | exact List.nil_sublist _ | apply List.Sublist.cons_cons | apply List.Sublist.cons))
        by_cases e : j = s
        · subst e; rw [errAt_of hc]; exact he
        · exact hg j (by omega)
      · skip
        refine sx_region (E := E) ?_
        refine so_move rfl rfl rfl ?_
        refine so_bin rfl rfl rfl rfl (by first | exact bin_neq_f (by first | rfl | assumption | omega) | exact bin_neq_t (by first | rfl | assumption | omega)) ?_
        refine so_then ?_
        refine sx_true rfl ?_
        refine sx_seq ?_
        refine sx_region (E := E) ?_
        refine so_move rfl rfl rfl ?_
        refine so_assign rfl rfl rfl ?_
        refine so_then ?_
        refine sx_ret ?_
        refine sk_block_ret ?_
        refine sk_then_ret ?_
        refine sk_loop_ret ?_
        refine sk_block_ret ?_
        refine sk_then_ret ?_
        refine sk_return1 (.tmp rfl .nil) ?_
        exact fun H hH => ⟨by rw [chkErr_at h16 hc hg he, errOf], hH.kept⟩
    · skip
      refine sx_region (E := E) ?_
      refine so_bin rfl rfl rfl rfl (by first | exact bin_lss_t (by omega) | exact bin_lss_f (by omega)) ?_
      refine so_then ?_
      refine sx_seq ?_
      refine sx_false rfl ?_
      refine sx_exit ?_
      refine sk_then_exit ?_
      refine sk_loop_exit ?_
      refine sk_block_exit ?_
      refine sk_then ?_
      refine sx_seq ?_
      refine sx_region (E := E) ?_
      refine so_assign rfl rfl rfl ?_
      refine so_then ?_
      refine sx_ret ?_
      refine sk_return1 (.tmp rfl .nil) ?_
      exact fun H hH => ⟨by rw [chkErr_ok h16 fun j hj => hg j (by omega)], hH.kept⟩

theorem rcheck_ok {S : AH} {A : Nat → Prop} (hA : ∀ j, A j → j < S.nx) {x : Value} {l : List (List CT)} {bt : Nat} (hx : CellA A S (.row bt k51) x (.row l)) : XCall Try.prog 18 [x] S fun v H' => v = .int .i64 (chkErr l) ∧ Kept S.nx S H' := by
  obtain ⟨l2, ax, cx, e2, rfl, rx⟩ := hx.rowD
  cases e2
  have hb := rx.len
  refine x_enter (E := E) (n := 41) (rs := [.tmp 2]) (l := [(0, _)]) (fn_own Try.func18 rfl rfl rfl) hA rfl ?_
  refine sx_seq ?_
  refine sx_region (E := E) ?_
  refine so_assign rfl rfl rfl ?_
  refine so_then ?_
  refine sx_seq ?_
  refine sx_seq ?_
  rcases Nat.lt_or_ge 256 l.length with h16 | h16
  · skip
    refine sx_region (E := E) ?_
    refine so_move rfl rfl rfl ?_
    refine so_lenL rfl rfl rfl rfl rfl rfl Try.underlying61 ?_
    refine so_bin rfl rfl rfl rfl (by first | exact bin_gtr_t (by omega) | exact bin_gtr_f (by omega)) ?_
    refine so_then ?_
    refine sx_true rfl ?_
    refine sx_seq ?_
    refine sx_region (E := E) ?_
    refine so_assign rfl rfl rfl ?_
    refine so_then ?_
    refine sx_ret ?_
    refine sk_then_ret ?_
    refine sk_return1 (.tmp rfl .nil) ?_
    exact fun H hH => ⟨by rw [chkErr_big h16], hH.kept⟩
  · skip
    refine sx_region (E := E) ?_
    refine so_move rfl rfl rfl ?_
    refine so_lenL rfl rfl rfl rfl rfl rfl Try.underlying61 ?_
    refine so_bin rfl rfl rfl rfl (by first | exact bin_gtr_t (by omega) | exact bin_gtr_f (by omega)) ?_
    refine so_then ?_
    refine sx_false rfl ?_
    refine sx_skip ?_
    refine sk_then ?_
    refine sx_seq ?_
    refine sx_seq ?_
    refine sx_region (E := E) ?_
    refine so_assign rfl rfl rfl ?_
    refine so_then ?_
    refine sx_block ?_
    refine sx_loop (σ := Nat) (fun k => l.length - k) (fun k => [(0, .slice ax l.length cx), (3, .int .i64 ((k : Nat) : Int))]) (fun _ => S) (fun _ => A) (fun _ => []) (fun k => k ≤ l.length ∧ (∀ j, j < k → errAt l j = 0)) (0) (⟨Nat.zero_le _, fun j h => absurd h (Nat.not_lt_zero _)⟩) (by repeat (first | exact .nil | refine .cons rfl ?_)) rfl rfl (by repeat (first | exact List.nil_sublist _ | apply List.Sublist.cons_cons | apply List.Sublist.cons)) ?_
    intro s hJ t1
    obtain ⟨hJ, hg⟩ := hJ
    refine sx_seq ?_
    refine sx_seq ?_
    rcases Nat.lt_or_ge s l.length with hk | hk
    · skip
      obtain ⟨qb, us, d, rfl, ib, hc, lb, kb⟩ := rx.at' s hk
      obtain ⟨y, e, rfl, rfl, py⟩ := kb.fn (n := 85) rfl
      obtain ⟨hbl, hpl⟩ := act_parts kb
      obtain ⟨bl, ab, cb, eb, hb84, rb⟩ := (py 84 _ rfl).rowD
      have hbb := rb.len
      have ebl : bindsOf (ctsOf 85 e) = bl := by rw [ctsOf_get (by omega), eb] at hbl; exact (CT.row.inj (Option.some.inj hbl)).symm
      have lb84 : aload S ((qb.add (s * 85)).add 84) = some (.slice ab bl.length cb) := (aloads_at lb (j := 84) (by decide)).trans ((cellsOf_get rfl).trans (congrArg some hb84))
      refine sx_region (E := E) ?_
      refine so_move rfl rfl rfl ?_
      refine so_move rfl rfl rfl ?_
      refine so_lenL rfl rfl rfl rfl rfl rfl Try.underlying61 ?_
      refine so_bin rfl rfl rfl rfl (by first | exact bin_lss_t (by omega) | exact bin_lss_f (by omega)) ?_
      refine so_then ?_
      refine sx_true rfl ?_
      refine sx_skip ?_
      refine sk_then ?_
      refine sx_seq ?_
      refine sx_block ?_
      refine sx_seq ?_
      refine sx_seq ?_
      rcases Nat.lt_or_ge 16 bl.length with h3 | h3
      · skip
        refine sx_region (E := E) ?_
        refine so_move rfl rfl rfl ?_
        refine so_move rfl rfl rfl ?_
        first | refine so_indexO rfl rfl rfl rfl Try.underlying61 inf51 rfl (by omega) rfl ?_ | refine so_index rfl rfl rfl rfl Try.underlying61 inf51 rfl (by omega) ?_
        first | refine so_fieldO rfl rfl rfl Try.underlying51 rfl inf49 rfl rfl ?_ | refine so_fieldC rfl rfl rfl Try.underlying51 rfl inf49 rfl rfl ?_
        refine so_load rfl rfl rfl (by first | exact ld_own Try.underlying49 rfl (by repeat (first | exact List.Mem.head _ | apply List.Mem.tail)) (by first | exact cellsOf_get rfl | rfl) | exact ld_data Try.underlying49 rfl (by first | assumption | exact InA.add (by assumption) | exact InA.add (InA.add (by assumption))) (by assumption)) ?_
        refine so_lenL rfl rfl rfl rfl rfl rfl Try.underlying49 ?_
        refine so_bin rfl rfl rfl rfl (by first | exact bin_gtr_t (by omega) | exact bin_gtr_f (by omega)) ?_
        refine so_then ?_
        refine sx_true rfl ?_
        refine sx_seq ?_
        refine sx_region (E := E) ?_
        refine so_assign rfl rfl rfl ?_
        refine so_then ?_
        refine sx_ret ?_
        refine sk_then_ret ?_
        refine sk_block_ret ?_
        refine sk_then_ret ?_
        refine sk_loop_ret ?_
        refine sk_block_ret ?_
        refine sk_then_ret ?_
        refine sk_return1 (.tmp rfl .nil) ?_
        exact fun H hH => ⟨by rw [chkErr_at h16 hc hg (by rw [errOf, ebl, actErr_big h3]; decide), errOf, ebl, actErr_big h3], hH.kept⟩
      · skip
        refine sx_region (E := E) ?_
        refine so_move rfl rfl rfl ?_
        refine so_move rfl rfl rfl ?_
        first | refine so_indexO rfl rfl rfl rfl Try.underlying61 inf51 rfl (by omega) rfl ?_ | refine so_index rfl rfl rfl rfl Try.underlying61 inf51 rfl (by omega) ?_
        first | refine so_fieldO rfl rfl rfl Try.underlying51 rfl inf49 rfl rfl ?_ | refine so_fieldC rfl rfl rfl Try.underlying51 rfl inf49 rfl rfl ?_
        refine so_load rfl rfl rfl (by first | exact ld_own Try.underlying49 rfl (by repeat (first | exact List.Mem.head _ | apply List.Mem.tail)) (by first | exact cellsOf_get rfl | rfl) | exact ld_data Try.underlying49 rfl (by first | assumption | exact InA.add (by assumption) | exact InA.add (InA.add (by assumption))) (by assumption)) ?_
        refine so_lenL rfl rfl rfl rfl rfl rfl Try.underlying49 ?_
        refine so_bin rfl rfl rfl rfl (by first | exact bin_gtr_t (by omega) | exact bin_gtr_f (by omega)) ?_
        refine so_then ?_
        refine sx_false rfl ?_
        refine sx_skip ?_
        refine sk_then ?_
        refine sx_seq ?_
        refine sx_region (E := E) ?_
        refine so_assign rfl rfl rfl ?_
        refine so_then ?_
        refine sx_block ?_
        refine sx_loop (σ := Nat) (fun m => bl.length - m) (fun m => [(0, .slice (some qb) l.length cx), (3, .int .i64 ((s : Nat) : Int)), (4, .int .i64 ((m : Nat) : Int))]) (fun _ => S) (fun _ => A) (fun _ => []) (fun m => m ≤ bl.length ∧ (∀ j, j < m → bindErr bl (paramsOf (ctsOf 85 e)).length j = 0)) (0) (⟨Nat.zero_le _, fun j h => absurd h (Nat.not_lt_zero _)⟩) (by repeat (first | exact .nil | refine .cons rfl ?_)) rfl rfl (by repeat (first | exact List.nil_sublist _ | apply List.Sublist.cons_cons | apply List.Sublist.cons)) ?_
        intro m hJ2 t2
        obtain ⟨hJm, hgm⟩ := hJ2
        refine sx_seq ?_
        refine sx_seq ?_
        rcases Nat.lt_or_ge m bl.length with hm | hm
        · skip
          refine sx_region (E := E) ?_
          refine so_move rfl rfl rfl ?_
          refine so_move rfl rfl rfl ?_
          refine so_move rfl rfl rfl ?_
          first | refine so_indexO rfl rfl rfl rfl Try.underlying61 inf51 rfl (by omega) rfl ?_ | refine so_index rfl rfl rfl rfl Try.underlying61 inf51 rfl (by omega) ?_
          first | refine so_fieldO rfl rfl rfl Try.underlying51 rfl inf49 rfl rfl ?_ | refine so_fieldC rfl rfl rfl Try.underlying51 rfl inf49 rfl rfl ?_
          refine so_load rfl rfl rfl (by first | exact ld_own Try.underlying49 rfl (by repeat (first | exact List.Mem.head _ | apply List.Mem.tail)) (by first | exact cellsOf_get rfl | rfl) | exact ld_data Try.underlying49 rfl (by first | assumption | exact InA.add (by assumption) | exact InA.add (InA.add (by assumption))) (by assumption)) ?_
          refine so_lenL rfl rfl rfl rfl rfl rfl Try.underlying49 ?_
          refine so_bin rfl rfl rfl rfl (by first | exact bin_lss_t (by omega) | exact bin_lss_f (by omega)) ?_
          refine so_then ?_
          refine sx_true rfl ?_
          refine sx_skip ?_
          refine sk_then ?_
          refine sx_seq ?_
          refine sx_block ?_
          refine sx_seq ?_
          refine sx_region (E := E) ?_
          refine so_move rfl rfl rfl ?_
          refine so_move rfl rfl rfl ?_
          first | refine so_indexO rfl rfl rfl rfl Try.underlying61 inf51 rfl (by omega) rfl ?_ | refine so_index rfl rfl rfl rfl Try.underlying61 inf51 rfl (by omega) ?_
          refine so_load rfl rfl rfl (by first | exact ld_ownA Try.underlying51 rfl inf51 rfl (by repeat (first | exact List.Mem.head _ | apply List.Mem.tail)) (by first | exact cellsOf_le rfl | decide | omega) (by first | exact cellsOf_all | exact take_all rfl | exact cellsOf_part rfl | rfl) | exact ld_dataA Try.underlying51 rfl inf51 rfl (by first | assumption | exact InA.add (by assumption) | exact InA.add (InA.add (by assumption))) (by assumption)) ?_
          refine so_move rfl rfl rfl ?_
          refine so_call rfl rfl (fun h => nomatch h) rfl has30 (by repeat (first | exact Opvs.nil | apply Opvs.cons rfl)) (fun H hH => bind_ok hH.lt (CellsA.gr hH.gr _ _ _ kb) (by rw [← ebl]; exact hbl) hpl rfl hm) ?_
          refine so_assign rfl rfl rfl ?_
          refine so_then ?_
          refine sx_seq ?_
          by_cases heb : bindErr bl (paramsOf (ctsOf 85 e)).length m = 0
          · skip
            refine sx_region (E := E) ?_
            refine so_move rfl rfl rfl ?_
            refine so_bin rfl rfl rfl rfl (by first | exact bin_neq_f (by first | rfl | assumption | omega) | exact bin_neq_t (by first | rfl | assumption | omega)) ?_
            refine so_then ?_
            refine sx_false rfl ?_
            refine sx_skip ?_
            refine sk_block ?_
            refine sk_then ?_
            refine sx_region (E := E) ?_
            refine so_move rfl rfl rfl ?_
            refine so_bin rfl rfl rfl rfl (by first | exact bin_incr (by omega) | exact bin_add (wrap64 (by omega) (by omega)) | exact bin_add rfl) ?_
            refine so_assign rfl rfl rfl ?_
            refine so_nil ?_
            refine sk_round (m + 1) (show bl.length - (m + 1) < bl.length - m by omega) ⟨by omega, fun j hj => ?_⟩ (by repeat (first | exact .nil | refine .cons rfl ?_)) rfl rfl (by repeat (first | exact List.nil_sublist _ | apply List.Sublist.cons_cons | apply List.Sublist.cons))
            by_cases e : j = m
            · subst e; exact heb
            · exact hgm j (by omega)
          · skip
            refine sx_region (E := E) ?_
            refine so_move rfl rfl rfl ?_
            refine so_bin rfl rfl rfl rfl (by first | exact bin_neq_f (by first | rfl | assumption | omega) | exact bin_neq_t (by first | rfl | assumption | omega)) ?_
            refine so_then ?_
            refine sx_true rfl ?_
            refine sx_seq ?_
            refine sx_region (E := E) ?_
            refine so_move rfl rfl rfl ?_
            refine so_assign rfl rfl rfl ?_
            refine so_then ?_
            refine sx_ret ?_
            refine sk_block_ret ?_
            refine sk_then_ret ?_
            refine sk_loop_ret ?_
            refine sk_block_ret ?_
            refine sk_block_ret ?_
            refine sk_then_ret ?_
            refine sk_loop_ret ?_
            refine sk_block_ret ?_
            refine sk_then_ret ?_
            refine sk_return1 (.tmp rfl .nil) ?_
            exact fun H hH => ⟨by rw [chkErr_at h16 hc hg (by rw [errOf, ebl, actErr_at h3 hm hgm rfl heb]; exact heb), errOf, ebl, actErr_at h3 hm hgm rfl heb], hH.kept⟩
        · skip
          have he : errOf (ctsOf 85 e) = 0 := by rw [errOf, ebl]; exact actErr_ok h3 fun j hj => hgm j (by omega)
          refine sx_region (E := E) ?_
          refine so_move rfl rfl rfl ?_
          refine so_move rfl rfl rfl ?_
          refine so_move rfl rfl rfl ?_
          first | refine so_indexO rfl rfl rfl rfl Try.underlying61 inf51 rfl (by omega) rfl ?_ | refine so_index rfl rfl rfl rfl Try.underlying61 inf51 rfl (by omega) ?_
          first | refine so_fieldO rfl rfl rfl Try.underlying51 rfl inf49 rfl rfl ?_ | refine so_fieldC rfl rfl rfl Try.underlying51 rfl inf49 rfl rfl ?_
          refine so_load rfl rfl rfl (by first | exact ld_own Try.underlying49 rfl (by repeat (first | exact List.Mem.head _ | apply List.Mem.tail)) (by first | exact cellsOf_get rfl | rfl) | exact ld_data Try.underlying49 rfl (by first | assumption | exact InA.add (by assumption) | exact InA.add (InA.add (by assumption))) (by assumption)) ?_
          refine so_lenL rfl rfl rfl rfl rfl rfl Try.underlying49 ?_
          refine so_bin rfl rfl rfl rfl (by first | exact bin_lss_t (by omega) | exact bin_lss_f (by omega)) ?_
          refine so_then ?_
          refine sx_false rfl ?_
          refine sx_exit ?_
          refine sk_then_exit ?_
          refine sk_loop_exit ?_
          refine sk_block_exit ?_
          refine sk_block ?_
          refine sk_then ?_
          refine sx_region (E := E) ?_
          refine so_move rfl rfl rfl ?_
          refine so_bin rfl rfl rfl rfl (by first | exact bin_incr (by omega) | exact bin_add (wrap64 (by omega) (by omega)) | exact bin_add rfl) ?_
          refine so_assign rfl rfl rfl ?_
          refine so_nil ?_
          refine sk_round (s + 1) (show l.length - (s + 1) < l.length - s by omega) ⟨by omega, fun j hj => ?_⟩ (by repeat (first | exact .nil | refine .cons rfl ?_)) rfl rfl (by repeat (first | exact List.nil_sublist _ | apply List.Sublist.cons_cons | apply List.Sublist.cons))
          by_cases e : j = s
          · subst e; rw [errAt_of hc]; exact he
          · exact hg j (by omega)
    · skip
      refine sx_region (E := E) ?_
      refine so_move rfl rfl rfl ?_
      refine so_move rfl rfl rfl ?_
      refine so_lenL rfl rfl rfl rfl rfl rfl Try.underlying61 ?_
      refine so_bin rfl rfl rfl rfl (by first | exact bin_lss_t (by omega) | exact bin_lss_f (by omega)) ?_
      refine so_then ?_
      refine sx_false rfl ?_
      refine sx_exit ?_
      refine sk_then_exit ?_
      refine sk_loop_exit ?_
      refine sk_block_exit ?_
      refine sk_then ?_
      refine sx_seq ?_
      refine sx_region (E := E) ?_
      refine so_assign rfl rfl rfl ?_
      refine so_then ?_
      refine sx_ret ?_
      refine sk_return1 (.tmp rfl .nil) ?_
      exact fun H hH => ⟨by rw [chkErr_ok h16 fun j hj => hg j (by omega)], hH.kept⟩

end Go.Proofs.Ytaedeadgbojmnaa
