/-
  Walks, laid by program.
-/
import Derived.Test.YtaedeadgbojmnaaG3
set_option linter.unusedVariables false
set_option linter.unusedSimpArgs false
set_option maxRecDepth 100000
namespace Go.Proofs.Ytaedeadgbojmnaa
open Go Go.AM

theorem compactS_ok' {S : AH} {N n : Nat} {ss : List Txt} {ex : Bool} (hn : ss.length = n) (hg : S.tr.get N = some (.cells (ss.map encS) 1 ex)) (hne : ss ≠ []) (hb : n ≤ 140737488355328) :
    XCall Try.prog 32 [.slice (some ⟨2 * N + 1, 0, none⟩) n n] S fun v H' => v = .slice (some ⟨2 * N + 1, 0, none⟩) (Lib.compact ss).length n ∧ H' = { S with tr := S.tr.set N (some (.cells ((Lib.compact ss ++ List.replicate (n - (Lib.compact ss).length) []).map encS) 1 ex)) } := by
  subst hn; exact compactS_ok hg hne hb
/-- a row of names: nothing, or an own row -/
def nv (M : Nat) : List Txt → Value
  | [] => .slice none 0 0
  | n :: ns => .slice (some ⟨2 * M + 1, 0, none⟩) (n :: ns).length (n :: ns).length
def nl (M : Nat) : List Txt → OL
  | [] => []
  | n :: ns => [(M, .cells ((n :: ns).map encS) 1 false)]
theorem nil_texts {A : Nat → Prop} {H : AH} : CellA A H (.row 16 [.str]) (.slice none 0 0) (.row (strs [])) := by
  rw [show strs [] = [] from rfl]; simp only [CellA]; exact ⟨by simp, by simp, .inl ⟨trivial, trivial⟩⟩
theorem sort_ne {ns : List Txt} (h : ns ≠ []) : ns.mergeSort leT ≠ [] := fun e => h (List.eq_nil_of_length_eq_zero (by rw [← sort_len ns, e]; rfl))
set_option maxHeartbeats 2000000 in
theorem params_ok {S : AH} {A : Nat → Prop} (hA : ∀ j, A j → j < S.nx) {x : Value} {l : List (List CT)} {bt : Nat} (hx : CellA A S (.row bt k51) x (.row l)) (hN : (pnames l).length ≤ 8796093000000) : XCall Try.prog 19 [x] S (RowR (insAll (pnames l)) A S) := by
  obtain ⟨l2, ax, cx, e2, rfl, rx⟩ := hx.rowD
  cases e2
  have hb := rx.len
  have hsh := pnames_short rx
  refine x_enter (E := E) (n := 32) (rs := [.tmp 2]) (l := [(0, _)]) (fn_own Try.func19 rfl rfl rfl) hA rfl ?_
  refine sx_seq ?_
  refine sx_region (E := E) ?_
  refine so_assign rfl rfl rfl ?_
  refine so_then ?_
  refine sx_seq ?_
  refine sx_region (E := E) ?_
  refine so_assign rfl rfl rfl ?_
  refine so_then ?_
  refine sx_seq ?_
  refine sx_seq ?_
  refine sx_region (E := E) ?_
  refine so_move rfl rfl rfl ?_
  refine so_lenL rfl rfl rfl rfl rfl rfl Try.underlying61 ?_
  refine so_move rfl rfl rfl ?_
  refine so_then ?_
  refine sx_block ?_
  refine sx_loop (σ := Nat × Nat × List Txt) (fun z => l.length - z.1) (fun z => [(3, nv z.2.1 z.2.2), (8, .slice ax l.length cx), (9, .int .i64 ((l.length : Nat) : Int)), (10, .int .i64 ((z.1 : Nat) : Int))]) (fun _ => S) (fun _ => A) (fun z => nl z.2.1 z.2.2) (fun z => z.1 ≤ l.length ∧ z.2.2 = pnames (l.take z.1)) ((0, 0, [])) (⟨Nat.zero_le _, rfl⟩) (by repeat (first | exact .nil | refine .cons rfl ?_)) rfl rfl (List.nil_sublist _) ?_
  intro s hJ t1
  obtain ⟨i, M0, ns0⟩ := s
  obtain ⟨hJ, hns⟩ := hJ
  dsimp only at hJ hns ⊢
  refine sx_seq ?_
  rcases Nat.lt_or_ge i l.length with hk | hk
  · skip
    obtain ⟨qb, us, d, rfl, ib, hc, lb, kb⟩ := rx.at' i hk
    obtain ⟨y, e, rfl, rfl, py⟩ := kb.fn (n := 85) rfl
    obtain ⟨hbl, hpl⟩ := act_parts kb
    obtain ⟨bl, ab, cb, eb, hb84, rb⟩ := (py 84 _ rfl).rowD
    have hbb := rb.len
    have ebl : bindsOf (ctsOf 85 e) = bl := by rw [ctsOf_get (by omega), eb] at hbl; exact (CT.row.inj (Option.some.inj hbl)).symm
    refine sx_region (E := E) ?_
    refine so_bin rfl rfl rfl rfl (by first | exact bin_lss_t (by omega) | exact bin_lss_f (by omega)) ?_
    refine so_then ?_
    refine sx_seq ?_
    refine sx_true rfl ?_
    refine sx_skip ?_
    refine sk_then ?_
    refine sx_seq ?_
    refine sx_block ?_
    refine sx_seq ?_
    refine sx_region (E := E) ?_
    first | refine so_indexO rfl rfl rfl rfl Try.underlying61 inf51 rfl (by omega) rfl ?_ | refine so_index rfl rfl rfl rfl Try.underlying61 inf51 rfl (by omega) ?_
    refine so_load rfl rfl rfl (by first | exact ld_ownA Try.underlying51 rfl inf51 rfl (by repeat (first | exact List.Mem.head _ | apply List.Mem.tail)) (by first | exact cellsOf_le rfl | decide | omega) (by first | exact cellsOf_all | exact take_all rfl | exact cellsOf_part rfl | rfl) | exact ld_dataA Try.underlying51 rfl inf51 rfl (by first | assumption | exact InA.add (by assumption) | exact InA.add (InA.add (by assumption))) (by assumption)) ?_
    refine so_alloc (cs := (.int .i64 0 :: .int .i64 0 :: .int .i64 0 :: .int .i64 0 :: .int .i64 0 :: .int .i64 0 :: .string ⟨#[]⟩ :: .string ⟨#[]⟩ :: .int .i64 0 :: .int .i64 0 :: .int .i64 0 :: .string ⟨#[]⟩ :: .bool false :: .bool false :: .bool false :: .int .i64 0 :: .int .i64 0 :: .int .i64 0 :: .int .i64 0 :: .slice none 0 0 :: .int .i64 0 :: .int .i64 0 :: .int .i64 0 :: .int .i64 0 :: .int .i64 0 :: .int .i64 0 :: .int .i64 0 :: .int .i64 0 :: .int .i64 0 :: .slice none 0 0 :: .int .i64 0 :: .int .i64 0 :: .int .i64 0 :: .int .i64 0 :: .int .i64 0 :: .slice none 0 0 :: .int .i64 0 :: .slice none 0 0 :: .slice none 0 0 :: .int .i64 0 :: .int .i64 0 :: .int .i64 0 :: .int .i64 0 :: .string ⟨#[]⟩ :: .int .i64 0 :: .int .i64 0 :: .int .i64 0 :: .int .i64 0 :: .int .i64 0 :: .int .i64 0 :: .slice none 0 0 :: .int .i64 0 :: .int .i64 0 :: .slice none 0 0 :: .int .i64 0 :: .int .i64 0 :: .slice none 0 0 :: .int .i64 0 :: .int .i64 0 :: .int .i64 0 :: .int .i64 0 :: .int .i64 0 :: .int .i64 0 :: .int .i64 0 :: .int .i64 0 :: .int .i64 0 :: .int .i64 0 :: .int .i64 0 :: .int .i64 0 :: .int .i64 0 :: .int .i64 0 :: .slice none 0 0 :: .bool false :: .slice none 0 0 :: .int .i64 0 :: .int .i64 0 :: .int .i64 0 :: .int .i64 0 :: .int .i64 0 :: .int .i64 0 :: .int .i64 0 :: .int .i64 0 :: .int .i64 0 :: .int .i64 0 :: .slice none 0 0 :: [])) rfl rfl (fun h => nomatch h) inf51 rfl rfl ?_
    intro N5
    refine so_storeA rfl (fun h => nomatch h) rfl rfl inf51 (by first | exact cellsOf_length _ _ | rfl) (CellsA.one kb) (by repeat (first | exact .zero | apply Upd.succ)) (by first | exact cellsOf_set rfl | exact cellsOf_setr rfl | exact cellsOf_store rfl | exact store_all rfl | rfl) (by first | exact cellsOf_in rfl rfl | exact cellsOf_in rfl (cellsOf_length _ _) | exact cellsOf_le rfl | exact Nat.le_of_ble_eq_true rfl | omega) (fun h => nomatch h) ?_
    refine so_then ?_
    refine sx_seq ?_
    refine sx_region (E := E) ?_
    refine so_fieldO (o' := 84) rfl rfl rfl Try.underlying51 rfl inf49 rfl rfl ?_
    refine so_load rfl rfl rfl (by first | exact ld_own Try.underlying49 rfl (by repeat (first | exact List.Mem.head _ | apply List.Mem.tail)) (by first | exact (cellsOf_get rfl).trans (congrArg some hb84) | exact cellsOf_get rfl | rfl) | exact ld_data Try.underlying49 rfl (by first | assumption | exact InA.add (by assumption) | exact InA.add (InA.add (by assumption))) (by assumption)) ?_
    refine so_lenL rfl rfl rfl rfl rfl rfl Try.underlying49 ?_
    refine so_move rfl rfl rfl ?_
    refine so_then ?_
    refine sx_block ?_
    refine sx_loop (σ := Nat × Nat × List Txt) (fun z => bl.length - z.1) (fun z => [(3, nv z.2.1 z.2.2), (8, .slice (some qb) l.length cx), (9, .int .i64 ((l.length : Nat) : Int)), (10, .int .i64 ((i : Nat) : Int)), (15, .slice ab bl.length cb), (16, .int .i64 ((bl.length : Nat) : Int)), (17, .int .i64 ((z.1 : Nat) : Int))]) (fun _ => S) (fun _ => A) (fun z => nl z.2.1 z.2.2) (fun z => z.1 ≤ bl.length ∧ z.2.2 = pnames (l.take i) ++ (bl.map strP).take z.1) ((0, M0, ns0)) (⟨Nat.zero_le _, by rw [List.take_zero, List.append_nil]; exact hns⟩) (by repeat (first | exact .nil | refine .cons rfl ?_)) rfl rfl (List.sublist_cons_self _ _) ?_
    intro s2 hJ2 t2
    obtain ⟨k, M, ns⟩ := s2
    obtain ⟨hJ2, hns2⟩ := hJ2
    dsimp only at hJ2 hns2 ⊢
    refine sx_seq ?_
    rcases Nat.lt_or_ge k bl.length with hm | hm
    · skip
      obtain ⟨qe, us, d, rfl, ie, hce, le, ke⟩ := rb.at' k hm
      obtain ⟨u, p, rfl, rfl, hu, hp⟩ := str2 ke
      have hle2 := pnames_in (k := k) hc ebl
      rw [← hns2] at hle2
      refine sx_region (E := E) ?_
      refine so_bin rfl rfl rfl rfl (by first | exact bin_lss_t (by omega) | exact bin_lss_f (by omega)) ?_
      refine so_then ?_
      refine sx_seq ?_
      refine sx_true rfl ?_
      refine sx_skip ?_
      refine sk_then ?_
      refine sx_seq ?_
      refine sx_block ?_
      refine sx_seq ?_
      refine sx_region (E := E) ?_
      first | refine so_indexO rfl rfl rfl rfl Try.underlying49 inf79 rfl (by omega) rfl ?_ | refine so_index rfl rfl rfl rfl Try.underlying49 inf79 rfl (by omega) ?_
      refine so_load rfl rfl rfl (by first | exact ld_ownA Try.underlying79 rfl inf79 rfl (by repeat (first | exact List.Mem.head _ | apply List.Mem.tail)) (by first | exact cellsOf_le rfl | decide | omega) (by first | exact cellsOf_all | exact take_all rfl | exact cellsOf_part rfl | rfl) | exact ld_dataA Try.underlying79 rfl inf79 rfl (by first | assumption | exact InA.add (by assumption) | exact InA.add (InA.add (by assumption))) (by assumption)) ?_
      refine so_alloc (cs := (.string ⟨#[]⟩ :: .string ⟨#[]⟩ :: [])) rfl rfl (fun h => nomatch h) inf79 rfl rfl ?_
      intro N7
      refine so_storeA rfl (fun h => nomatch h) rfl rfl inf79 (by first | exact cellsOf_length _ _ | rfl) rfl (by repeat (first | exact .zero | apply Upd.succ)) (by first | exact cellsOf_set rfl | exact cellsOf_setr rfl | exact cellsOf_store rfl | exact store_all rfl | rfl) (by first | exact cellsOf_in rfl rfl | exact cellsOf_in rfl (cellsOf_length _ _) | exact cellsOf_le rfl | exact Nat.le_of_ble_eq_true rfl | omega) (fun h => nomatch h) ?_
      refine so_then ?_
      refine sx_region (E := E) ?_
      refine so_move rfl rfl rfl ?_
      refine so_fieldO (o' := 1) rfl rfl rfl Try.underlying79 rfl inf9 rfl rfl ?_
      refine so_load rfl rfl rfl (by first | exact ld_own Try.underlying9 rfl (by repeat (first | exact List.Mem.head _ | apply List.Mem.tail)) (by first | exact (cellsOf_get rfl).trans (congrArg some hb84) | exact cellsOf_get rfl | rfl) | exact ld_data Try.underlying9 rfl (by first | assumption | exact InA.add (by assumption) | exact InA.add (InA.add (by assumption))) (by assumption)) ?_
      refine so_buildSlice (out := [encS p.data.toList]) (s := 1) rfl rfl (fun h => nomatch h) (by repeat (first | exact Opps.nil | apply Opps.cons rfl)) Try.underlying67 inf9 rfl rfl (by kernel_rfl) rfl rfl ?_
      intro N24
      rcases ns with _ | ⟨n0, ns⟩
      · skip
        refine so_appNew (m := 1) (bt := 16) (sz := 1) (old := []) (cs' := ([p.data.toList] : List Txt).map encS) (k := 1) rfl rfl (fun h => nomatch h) rfl rfl rfl rfl rfl Try.underlying67 Try.underlying67 rfl inf9 rfl rfl (by decide) rfl (by decide) (first_own (List.Mem.head _) rfl) (.inl ⟨rfl, rfl, rfl⟩) (roomB_of (by decide)) (by decide) rfl rfl ?_
        intro M2
        refine so_assign rfl rfl rfl ?_
        refine so_nil ?_
        refine sk_block ?_
        refine sk_then ?_
        refine sx_region (E := E) ?_
        refine so_bin rfl rfl rfl rfl (by first | exact bin_incr (by omega) | exact bin_add (wrap64 (by omega) (by omega)) | exact bin_add rfl) ?_
        refine so_move rfl rfl rfl ?_
        refine so_nil ?_
        exact sk_round (k + 1, M2, [p.data.toList]) (show bl.length - (k + 1) < bl.length - k by omega) ⟨show k + 1 ≤ bl.length by omega, by rw [nm_snoc hce, ← hns2]; rfl⟩ (by repeat (first | exact .nil | refine .cons rfl ?_)) rfl rfl (List.Sublist.cons_cons _ (List.nil_sublist _))
      · skip
        refine so_appAny (m := 1) (bt := 16) (sz := 1) (old := (n0 :: ns).map encS) (N := M) (ex := false) (L' := [(N24, .cells [encS p.data.toList] 1 true), (N7, .cells [.string u, .string p] (boxsz E 79) true)]) (cs' := ((n0 :: ns) ++ [p.data.toList]).map encS) (k := ((n0 :: ns) ++ [p.data.toList]).length) rfl rfl (fun h => nomatch h) rfl rfl rfl rfl rfl Try.underlying67 Try.underlying67 rfl inf9 rfl rfl (by decide) rfl (by decide) (first_own (List.Mem.head _) rfl) (.succ (.succ .zero)) (by rw [List.length_map, Nat.mul_one]) rfl (roomB_of (by omega)) (by omega) (enc_snoc _ _) (fun h => nomatch h) (len_snoc _ _) ?_
        intro M2
        refine so_assign rfl rfl rfl ?_
        refine so_nil ?_
        refine sk_block ?_
        refine sk_then ?_
        refine sx_region (E := E) ?_
        refine so_bin rfl rfl rfl rfl (by first | exact bin_incr (by omega) | exact bin_add (wrap64 (by omega) (by omega)) | exact bin_add rfl) ?_
        refine so_move rfl rfl rfl ?_
        refine so_nil ?_
        exact sk_round (k + 1, M2, (n0 :: ns) ++ [p.data.toList]) (show bl.length - (k + 1) < bl.length - k by omega) ⟨show k + 1 ≤ bl.length by omega, by rw [nm_snoc hce, ← hns2]; rfl⟩ (by repeat (first | exact .nil | refine .cons rfl ?_)) rfl rfl (List.Sublist.cons_cons _ (List.nil_sublist _))
    · skip
      obtain rfl : k = bl.length := by omega
      rw [nm_all, ← pnames_next hc ebl] at hns2
      refine sx_region (E := E) ?_
      refine so_bin rfl rfl rfl rfl (by first | exact bin_lss_t (by omega) | exact bin_lss_f (by omega)) ?_
      refine so_then ?_
      refine sx_seq ?_
      refine sx_false rfl ?_
      refine sx_exit ?_
      refine sk_then_exit ?_
      refine sk_loop_exit ?_
      refine sk_block_exit ?_
      refine sk_block ?_
      refine sk_then ?_
      refine sx_region (E := E) ?_
      refine so_bin rfl rfl rfl rfl (by first | exact bin_incr (by omega) | exact bin_add (wrap64 (by omega) (by omega)) | exact bin_add rfl) ?_
      refine so_move rfl rfl rfl ?_
      refine so_nil ?_
      exact sk_round (i + 1, M, ns) (show l.length - (i + 1) < l.length - i by omega) ⟨show i + 1 ≤ l.length by omega, hns2⟩ (by repeat (first | exact .nil | refine .cons rfl ?_)) rfl rfl (List.Sublist.refl _)
  · skip
    rw [List.take_of_length_le (by omega)] at hns
    refine sx_region (E := E) ?_
    refine so_bin rfl rfl rfl rfl (by first | exact bin_lss_t (by omega) | exact bin_lss_f (by omega)) ?_
    refine so_then ?_
    refine sx_seq ?_
    refine sx_false rfl ?_
    refine sx_exit ?_
    refine sk_then_exit ?_
    refine sk_loop_exit ?_
    refine sk_block_exit ?_
    refine sk_then ?_
    refine sx_seq ?_
    rcases ns0 with _ | ⟨n0, ns⟩
    · skip
      refine sx_region (E := E) ?_
      refine so_move rfl rfl rfl ?_
      refine so_call rfl rfl (fun h => nomatch h) rfl has31 (by repeat (first | exact Opvs.nil | apply Opvs.cons rfl)) (fun H hH => sortNil_ok) ?_
      refine so_then ?_
      refine sx_seq ?_
      refine sx_region (E := E) ?_
      refine so_move rfl rfl rfl ?_
      refine so_call rfl rfl (fun h => nomatch h) rfl has32 (by repeat (first | exact Opvs.nil | apply Opvs.cons rfl)) (fun H hH => compactNil_ok) ?_
      refine so_assign rfl rfl rfl ?_
      refine so_then ?_
      refine sx_ret ?_
      refine sk_return1 (.tmp rfl .nil) ?_
      exact fun H hH => rowR_of hH (by rw [← hns]; exact nil_texts)
    · skip
      have hnl : (n0 :: ns).length ≤ 8796093000000 := by rw [hns]; exact hN
      refine sx_region (E := E) ?_
      refine so_move rfl rfl rfl ?_
      refine so_callM (N := M0) rfl rfl (fun h => nomatch h) rfl has31 (by repeat (first | exact Opvs.nil | apply Opvs.cons rfl)) (.zero) (fun h => nomatch h) (fun H hH => sortS_ok (ss := n0 :: ns) (ex := false) (hH.own _ (List.Mem.head _)).1 (by simp) (by omega)) ?_
      refine so_then ?_
      refine sx_seq ?_
      refine sx_region (E := E) ?_
      refine so_move rfl rfl rfl ?_
      refine so_callM (N := M0) rfl rfl (fun h => nomatch h) rfl has32 (by repeat (first | exact Opvs.nil | apply Opvs.cons rfl)) (.zero) (fun h => nomatch h) (fun H hH => compactS_ok' (ss := (n0 :: ns).mergeSort leT) (ex := false) (sort_len _) (hH.own _ (List.Mem.head _)).1 (sort_ne (by simp)) (by omega)) ?_
      refine so_assign rfl rfl rfl ?_
      refine so_freeze .zero ?_
      intro Hf Af gf hAf hgf
      refine so_then ?_
      refine sx_ret ?_
      refine sk_return1 (.tmp rfl .nil) ?_
      exact fun H hH => rowR_of hH (by rw [← hns, ← single_eq]; exact row_texts hgf hAf (by rw [single_eq, hns]; exact insAll_short hsh) (Nat.le_trans (compact_len _) (by rw [sort_len]; exact Nat.le_refl _)) (Nat.le_trans (compact_len _) (by rw [sort_len]; omega)))

end Go.Proofs.Ytaedeadgbojmnaa
