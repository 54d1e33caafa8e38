/-
  Walks, laid by program.
-/
import Derived.Test.YtaedeadgbojmnaaG2
import Derived.Test.YtaedeadgbojmnaaB9
set_option linter.unusedVariables false
set_option linter.unusedSimpArgs false
set_option maxRecDepth 100000
namespace Go.Proofs.Ytaedeadgbojmnaa
open Go Go.AM

def nmsOf (a : List CT) : List Txt := (bindsOf a).map strP
/-- the names of the parameters, in the order of the binds -/
def pnames (l : List (List CT)) : List Txt := l.flatMap nmsOf
theorem pnames_next {l : List (List CT)} {i : Nat} {a : List CT} {bl : List (List CT)} (hc : l[i]? = some a) (hb : bindsOf a = bl) : pnames (l.take (i + 1)) = pnames (l.take i) ++ bl.map strP := by
  rw [List.take_add_one, hc]
  simp only [pnames, Option.toList_some, List.flatMap_append, List.flatMap_cons, List.flatMap_nil, List.append_nil, nmsOf, hb]
theorem pnames_take (l : List (List CT)) (i : Nat) : (pnames (l.take i)).length ≤ (pnames l).length := by
  have h : pnames l = pnames (l.take i) ++ pnames (l.drop i) := by unfold pnames; rw [← List.flatMap_append, List.take_append_drop]
  rw [h, List.length_append]; omega
theorem pnames_in {l : List (List CT)} {i k : Nat} {a : List CT} {bl : List (List CT)} (hc : l[i]? = some a) (hb : bindsOf a = bl) : (pnames (l.take i) ++ (bl.map strP).take k).length ≤ (pnames l).length := by
  have h := pnames_take l (i + 1)
  rw [pnames_next hc hb, List.length_append] at h
  rw [List.length_append, List.length_take]; omega
theorem nm_snoc {N : List Txt} {bl : List (List CT)} {k : Nat} {d : List CT} (h : bl[k]? = some d) : N ++ (bl.map strP).take (k + 1) = (N ++ (bl.map strP).take k) ++ [strP d] := by
  rw [List.take_add_one, List.getElem?_map, h, List.append_assoc]; rfl
theorem nm_all {N : List Txt} {bl : List (List CT)} : N ++ (bl.map strP).take bl.length = N ++ bl.map strP := by
  rw [List.take_of_length_le (by simp)]
theorem pnames_short {A : Nat → Prop} {H : AH} {bt : Nat} {l : List (List CT)} {ax : Option Addr} {cx : Nat} (r : RowD A H bt k51 l ax cx) : ∀ s ∈ pnames l, s.length ≤ maxLen := by
  intro s hs
  simp only [pnames, List.mem_flatMap, nmsOf, List.mem_map] at hs
  obtain ⟨a, ha, b, hb, rfl⟩ := hs
  obtain ⟨i, hi, rfl⟩ := List.getElem_of_mem ha
  obtain ⟨p, xs, c, _, _, h3, _, h5⟩ := r.at' i hi
  rw [List.getElem?_eq_getElem hi] at h3
  cases h3
  obtain ⟨hbl, _⟩ := act_parts h5
  obtain ⟨y, e, rfl, he, py⟩ := h5.fn (n := 85) rfl
  obtain ⟨bl, ab, cb, eb, hb84, rb⟩ := (py 84 _ rfl).rowD
  have ebl : bindsOf l[i] = bl := by
    rw [he, ctsOf_get (by omega), eb] at hbl
    rw [he]; exact (CT.row.inj (Option.some.inj hbl)).symm
  rw [ebl] at hb
  obtain ⟨k, hk, rfl⟩ := List.getElem_of_mem hb
  obtain ⟨p, xs, c, _, _, h3, _, h5⟩ := rb.at' k hk
  rw [List.getElem?_eq_getElem hk] at h3
  cases h3
  obtain ⟨u, q, _, e2, _, hq⟩ := str2 h5
  rw [e2]; exact hq
theorem insAll_short {ns : List Txt} (h : ∀ s ∈ ns, s.length ≤ maxLen) : ∀ s ∈ insAll ns, s.length ≤ maxLen := fun s hs => h s (((insAll_spec ns).2 s).1 hs)
set_option maxHeartbeats 2000000 in
theorem rparams_ok {S : AH} {A : Nat → Prop} (hA : ∀ j, A j → j < S.nx) {x : Value} {l : List (List CT)} {bt : Nat} (hx : CellA A S (.row bt k51) x (.row l)) (hN : (pnames l).length ≤ 8796093000000) : XCall Try.prog 20 [x] S (RowR (insAll (pnames l)) A S) := by
  obtain ⟨l2, ax, cx, e2, rfl, rx⟩ := hx.rowD
  cases e2
  have hb := rx.len
  refine x_enter (E := E) (n := 35) (rs := [.tmp 2]) (l := [(0, _)]) (fn_own Try.func20 rfl rfl rfl) hA rfl ?_
  refine sx_seq ?_
  refine sx_region (E := E) ?_
  refine so_assign rfl rfl rfl ?_
  refine so_then ?_
  refine sx_seq ?_
  refine sx_region (E := E) ?_
  refine so_buildSlice (out := []) (s := 1) rfl rfl (fun h => nomatch h) (by repeat (first | exact Opps.nil | apply Opps.cons rfl)) Try.underlying67 inf9 rfl rfl (by kernel_rfl) rfl rfl ?_
  intro N6
  refine so_assign rfl rfl rfl ?_
  refine so_then ?_
  refine sx_seq ?_
  refine sx_seq ?_
  refine sx_region (E := E) ?_
  refine so_assign rfl rfl rfl ?_
  refine so_then ?_
  refine sx_block ?_
  refine sx_freeze .zero ?_
  intro Hf Af gf hAf hgf
  refine sx_loop (σ := Nat × Value × AH × (Nat → Prop)) (fun z => l.length - z.1) (fun z => [(0, .slice ax l.length cx), (3, z.2.1), (4, .int .i64 ((z.1 : Nat) : Int))]) (fun z => z.2.2.1) (fun z => z.2.2.2) (fun _ => []) (fun z => z.1 ≤ l.length ∧ Gr A S z.2.2.2 z.2.2.1 ∧ CellA z.2.2.2 z.2.2.1 (.row 16 [.str]) z.2.1 (.row (strs (insAll (pnames (l.take z.1)))))) ((0, .slice (some ⟨2 * N6 + 1, 0, none⟩) 0 0, Hf, Af)) (⟨Nat.zero_le _, gf, row_texts' (o := []) hgf hAf (fun s h => nomatch h) (by decide)⟩) (by repeat (first | exact .nil | refine .cons rfl ?_)) rfl rfl (by repeat (first | exact List.nil_sublist _ | apply List.Sublist.cons_cons | apply List.Sublist.cons)) ?_
  intro s hJ t1
  obtain ⟨i, v, H2, A2⟩ := s
  obtain ⟨hJ, g, hv⟩ := hJ
  dsimp only at hJ g hv ⊢
  refine sx_seq ?_
  refine sx_seq ?_
  rcases Nat.lt_or_ge i l.length with hk | hk
  · skip
    obtain ⟨qb, us, d, rfl, ib, hc, lb, kb⟩ := (rx.gr g).at' i hk
    obtain ⟨y, e, rfl, rfl, py⟩ := kb.fn (n := 85) rfl
    obtain ⟨hbl, hpl⟩ := act_parts kb
    obtain ⟨bl, ab, cb, eb, hb84, rb⟩ := (py 84 _ rfl).rowD
    have hbb := rb.len
    have ebl : bindsOf (ctsOf 85 e) = bl := by rw [ctsOf_get (by omega), eb] at hbl; exact (CT.row.inj (Option.some.inj hbl)).symm
    refine sx_region (E := E) ?_
    refine so_move rfl rfl rfl ?_
    refine so_move rfl rfl rfl ?_
    refine so_lenL rfl rfl rfl rfl rfl rfl Try.underlying61 ?_
    refine so_bin rfl rfl rfl rfl (by first | exact bin_lss_t (by omega) | exact bin_lss_f (by omega)) ?_
    refine so_then ?_
    refine sx_true rfl ?_
    refine sx_skip ?_
    refine sk_then ?_
    refine sx_seq ?_
    refine sx_block ?_
    refine sx_seq ?_
    refine sx_region (E := E) ?_
    refine so_assign rfl rfl rfl ?_
    refine so_then ?_
    refine sx_block ?_
    refine sx_loop (σ := Nat × Value × AH × (Nat → Prop)) (fun z => bl.length - z.1) (fun z => [(0, .slice (some qb) l.length cx), (3, z.2.1), (4, .int .i64 ((i : Nat) : Int)), (5, .int .i64 ((z.1 : Nat) : Int))]) (fun z => z.2.2.1) (fun z => z.2.2.2) (fun _ => []) (fun z => z.1 ≤ bl.length ∧ Gr A2 H2 z.2.2.2 z.2.2.1 ∧ CellA z.2.2.2 z.2.2.1 (.row 16 [.str]) z.2.1 (.row (strs (insAll (pnames (l.take i) ++ (bl.map strP).take z.1))))) ((0, v, H2, A2)) (⟨Nat.zero_le _, Gr.refl _ _, by rw [List.take_zero, List.append_nil]; exact hv⟩) (by repeat (first | exact .nil | refine .cons rfl ?_)) rfl rfl (by repeat (first | exact List.nil_sublist _ | apply List.Sublist.cons_cons | apply List.Sublist.cons)) ?_
    intro s2 hJ2 t2
    obtain ⟨k, v3, H3, A3⟩ := s2
    obtain ⟨hJ2, g3, hv3⟩ := hJ2
    dsimp only at hJ2 g3 hv3 ⊢
    have ib3 := g3.inA ib
    have lb84 : aload H3 ((qb.add (i * 85)).add 84) = some (.slice ab bl.length cb) := (aloads_at ((g3.aloads (InA.add ib) 85).trans lb) (j := 84) (by decide)).trans ((cellsOf_get rfl).trans (congrArg some hb84))
    refine sx_seq ?_
    refine sx_seq ?_
    rcases Nat.lt_or_ge k bl.length with hm | hm
    · skip
      obtain ⟨qe, us, d, rfl, ie, hce, le, ke⟩ := (rb.gr g3).at' k hm
      obtain ⟨u, p, rfl, rfl, hu, hp⟩ := str2 ke
      have le1 : aload H3 ((qe.add (k * 2)).add 1) = some (.string p) := (aloads_at le (j := 1) (by decide)).trans rfl
      have hle := insAll_len (pnames (l.take i) ++ (bl.map strP).take k)
      have hle2 := pnames_in (k := k) hc ebl
      refine sx_region (E := E) ?_
      refine so_move rfl rfl rfl ?_
      refine so_move rfl rfl rfl ?_
      refine so_move rfl rfl rfl ?_
      first | refine so_indexO rfl rfl rfl rfl Try.underlying61 inf51 rfl (by omega) rfl ?_ | refine so_index rfl rfl rfl rfl Try.underlying61 inf51 rfl (by omega) ?_
      first | refine so_fieldO rfl rfl rfl Try.underlying51 rfl inf49 rfl rfl ?_ | refine so_fieldC rfl rfl rfl Try.underlying51 rfl inf49 rfl rfl ?_
      refine so_load rfl rfl rfl (by first | exact ld_own Try.underlying49 rfl (by repeat (first | exact List.Mem.head _ | apply List.Mem.tail)) (by first | exact cellsOf_get rfl | rfl) | exact ld_data Try.underlying49 rfl (by first | assumption | exact InA.add (by assumption) | exact InA.add (InA.add (by assumption))) (by assumption)) ?_
      refine so_lenL rfl rfl rfl rfl rfl rfl Try.underlying49 ?_
      refine so_bin rfl rfl rfl rfl (by first | exact bin_lss_t (by omega) | exact bin_lss_f (by omega)) ?_
      refine so_then ?_
      refine sx_true rfl ?_
      refine sx_skip ?_
      refine sk_then ?_
      refine sx_seq ?_
      refine sx_block ?_
      refine sx_region (E := E) ?_
      refine so_move rfl rfl rfl ?_
      refine so_move rfl rfl rfl ?_
      refine so_move rfl rfl rfl ?_
      first | refine so_indexO rfl rfl rfl rfl Try.underlying61 inf51 rfl (by omega) rfl ?_ | refine so_index rfl rfl rfl rfl Try.underlying61 inf51 rfl (by omega) ?_
      first | refine so_fieldO rfl rfl rfl Try.underlying51 rfl inf49 rfl rfl ?_ | refine so_fieldC rfl rfl rfl Try.underlying51 rfl inf49 rfl rfl ?_
      refine so_load rfl rfl rfl (by first | exact ld_own Try.underlying49 rfl (by repeat (first | exact List.Mem.head _ | apply List.Mem.tail)) (by first | exact cellsOf_get rfl | rfl) | exact ld_data Try.underlying49 rfl (by first | assumption | exact InA.add (by assumption) | exact InA.add (InA.add (by assumption))) (by assumption)) ?_
      refine so_move rfl rfl rfl ?_
      first | refine so_indexO rfl rfl rfl rfl Try.underlying49 inf79 rfl (by omega) rfl ?_ | refine so_index rfl rfl rfl rfl Try.underlying49 inf79 rfl (by omega) ?_
      first | refine so_fieldO rfl rfl rfl Try.underlying79 rfl inf9 rfl rfl ?_ | refine so_fieldC rfl rfl rfl Try.underlying79 rfl inf9 rfl rfl ?_
      refine so_load rfl rfl rfl (by first | exact ld_own Try.underlying9 rfl (by repeat (first | exact List.Mem.head _ | apply List.Mem.tail)) (by first | exact cellsOf_get rfl | rfl) | exact ld_data Try.underlying9 rfl (by first | assumption | exact InA.add (by assumption) | exact InA.add (InA.add (by assumption))) (by assumption)) ?_
      refine so_callF (fun u H' A' => CellA A' H' (.row 16 [.str]) u (.row (strs (insF p.data.toList (insAll (pnames (l.take i) ++ (bl.map strP).take k)))))) rfl rfl (fun h => nomatch h) rfl has33 (by repeat (first | exact Opvs.nil | apply Opvs.cons rfl)) (fun H hH => insert_ok hH.lt hp (CellA.gr hH.gr _ _ _ hv3) (by omega)) ?_
      intro u4 H4 A4 g4 hv4
      refine so_assign rfl rfl rfl ?_
      refine so_nil ?_
      refine sk_block ?_
      refine sk_then ?_
      refine sx_region (E := E) ?_
      refine so_move rfl rfl rfl ?_
      refine so_bin rfl rfl rfl rfl (by first | exact bin_incr (by omega) | exact bin_add (wrap64 (by omega) (by omega)) | exact bin_add rfl) ?_
      refine so_assign rfl rfl rfl ?_
      refine so_nil ?_
      exact sk_round (k + 1, u4, H4, A4) (show bl.length - (k + 1) < bl.length - k by omega) ⟨show k + 1 ≤ bl.length by omega, g3.trans g4, by rw [nm_snoc hce, insAll_snoc]; exact hv4⟩ (by repeat (first | exact .nil | refine .cons rfl ?_)) rfl rfl (by repeat (first | exact List.nil_sublist _ | apply List.Sublist.cons_cons | apply List.Sublist.cons))
    · skip
      obtain rfl : k = bl.length := by omega
      rw [nm_all, ← pnames_next hc ebl] at hv3
      refine sx_region (E := E) ?_
      refine so_move rfl rfl rfl ?_
      refine so_move rfl rfl rfl ?_
      refine so_move rfl rfl rfl ?_
      first | refine so_indexO rfl rfl rfl rfl Try.underlying61 inf51 rfl (by omega) rfl ?_ | refine so_index rfl rfl rfl rfl Try.underlying61 inf51 rfl (by omega) ?_
      first | refine so_fieldO rfl rfl rfl Try.underlying51 rfl inf49 rfl rfl ?_ | refine so_fieldC rfl rfl rfl Try.underlying51 rfl inf49 rfl rfl ?_
      refine so_load rfl rfl rfl (by first | exact ld_own Try.underlying49 rfl (by repeat (first | exact List.Mem.head _ | apply List.Mem.tail)) (by first | exact cellsOf_get rfl | rfl) | exact ld_data Try.underlying49 rfl (by first | assumption | exact InA.add (by assumption) | exact InA.add (InA.add (by assumption))) (by assumption)) ?_
      refine so_lenL rfl rfl rfl rfl rfl rfl Try.underlying49 ?_
      refine so_bin rfl rfl rfl rfl (by first | exact bin_lss_t (by omega) | exact bin_lss_f (by omega)) ?_
      refine so_then ?_
      refine sx_false rfl ?_
      refine sx_exit ?_
      refine sk_then_exit ?_
      refine sk_loop_exit ?_
      refine sk_block_exit ?_
      refine sk_block ?_
      refine sk_then ?_
      refine sx_region (E := E) ?_
      refine so_move rfl rfl rfl ?_
      refine so_bin rfl rfl rfl rfl (by first | exact bin_incr (by omega) | exact bin_add (wrap64 (by omega) (by omega)) | exact bin_add rfl) ?_
      refine so_assign rfl rfl rfl ?_
      refine so_nil ?_
      exact sk_round (i + 1, v3, H3, A3) (show l.length - (i + 1) < l.length - i by omega) ⟨show i + 1 ≤ l.length by omega, g.trans g3, hv3⟩ (by repeat (first | exact .nil | refine .cons rfl ?_)) rfl rfl (by repeat (first | exact List.nil_sublist _ | apply List.Sublist.cons_cons | apply List.Sublist.cons))
  · skip
    refine sx_region (E := E) ?_
    refine so_move rfl rfl rfl ?_
    refine so_move rfl rfl rfl ?_
    refine so_lenL rfl rfl rfl rfl rfl rfl Try.underlying61 ?_
    refine so_bin rfl rfl rfl rfl (by first | exact bin_lss_t (by omega) | exact bin_lss_f (by omega)) ?_
    refine so_then ?_
    refine sx_false rfl ?_
    refine sx_exit ?_
    refine sk_then_exit ?_
    refine sk_loop_exit ?_
    refine sk_block_exit ?_
    refine sk_then ?_
    refine sx_seq ?_
    refine sx_region (E := E) ?_
    refine so_move rfl rfl rfl ?_
    refine so_assign rfl rfl rfl ?_
    refine so_then ?_
    refine sx_ret ?_
    refine sk_return1 (.tmp rfl .nil) ?_
    exact fun H hH => rowR_of hH (by rw [List.take_of_length_le (by omega)] at hv; exact hv)

end Go.Proofs.Ytaedeadgbojmnaa
