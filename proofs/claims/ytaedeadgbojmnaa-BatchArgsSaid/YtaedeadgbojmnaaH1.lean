/-
  Walks, laid by program.
-/
import Derived.Test.YtaedeadgbojmnaaG4
import Derived.Test.YtaedeadgbojmnaaC8
import Derived.Test.YtaedeadgbojmnaaD1
import Derived.Test.YtaedeadgbojmnaaAM27
set_option linter.unusedVariables false
set_option linter.unusedSimpArgs false
set_option maxRecDepth 100000
namespace Go.Proofs.Ytaedeadgbojmnaa
open Go Go.AM

theorem dupA_iff (al : List (List CT)) : dupA al ↔ ¬ (al.map strF).Nodup := by
  constructor
  · rintro ⟨i, k, a, b, hki, ha, hb, hab⟩ hn
    obtain ⟨hi, rfl⟩ := List.getElem?_eq_some_iff.1 ha
    obtain ⟨hk, rfl⟩ := List.getElem?_eq_some_iff.1 hb
    have := (List.pairwise_iff_getElem.1 hn) k i (by simpa using hk) (by simpa using hi) hki
    simp only [List.getElem_map] at this
    exact this hab.symm
  · intro h
    refine Classical.byContradiction fun hd => h (List.pairwise_iff_getElem.2 fun k i hk hi hki e => hd ?_)
    simp only [List.length_map] at hk hi
    simp only [List.getElem_map] at e
    exact ⟨i, k, al[i], al[k], hki, List.getElem?_eq_getElem hi, List.getElem?_eq_getElem hk, e.symm⟩
theorem nodup_rev {α : Type} (l : List α) : l.reverse.Nodup ↔ l.Nodup := by
  unfold List.Nodup
  rw [List.pairwise_reverse]
  exact ⟨fun h => h.imp fun {a b} k e => k e.symm, fun h => h.imp fun {a b} k e => k e.symm⟩
theorem lookA_congr {al al' : List (List CT)} {p : List UInt8} (h : ¬ dupA al) (h' : ¬ dupA al') (hm : ∀ a, strF a = p → (a ∈ al ↔ a ∈ al')) : lookA al p = lookA al' p := by
  by_cases hx : ∃ a, a ∈ al ∧ strF a = p
  · obtain ⟨a, ha, hp⟩ := hx
    obtain ⟨i, hi⟩ := List.getElem?_of_mem ha
    obtain ⟨j, hj⟩ := List.getElem?_of_mem ((hm a hp).1 ha)
    rw [lookA_some h hi hp, lookA_some h' hj hp]
  · rw [lookA_none fun j a hj ha e => hx ⟨a, List.mem_of_getElem? ha, e⟩, lookA_none fun j a hj ha e => hx ⟨a, (hm a e).2 (List.mem_of_getElem? ha), e⟩]
theorem fillB_congr {al al' : List (List CT)} : ∀ (bl : List (List CT)) (c : Nat → CT), (∀ b ∈ bl, lookA al (strP b) = lookA al' (strP b)) → fillB al bl c = fillB al' bl c
  | [], _, _ => rfl
  | b :: bl, c, h => by
    simp only [fillB]
    rw [h b (List.mem_cons_self ..)]
    cases lookA al' (strP b) with
    | none => rfl
    | some v => exact fillB_congr bl _ fun b hb => h b (List.mem_cons_of_mem _ hb)
theorem fillS_congr {c c' : Nat → CT} {al al' : List (List CT)} {e : Int} (hd : dupA al ↔ dupA al') (hl : ¬ dupA al → ∀ b ∈ rowOf (c 84), lookA al (strP b) = lookA al' (strP b)) (h : FillS c al e c') : FillS c al' e c' := by
  cases h with
  | chk h => exact .chk h
  | dup h hd' => exact .dup h (hd.1 hd')
  | none h hd' hf => exact .none h (fun k => hd' (hd.2 k)) (by rw [← fillB_congr _ _ (hl hd')]; exact hf)
  | ok h hd' hf => exact .ok h (fun k => hd' (hd.2 k)) (by rw [← fillB_congr _ _ (hl hd')]; exact hf)
/-- the order of the arguments has no influence -/
theorem fillS_rev {c c' : Nat → CT} {al : List (List CT)} {e : Int} (h : FillS c al.reverse e c') : FillS c al e c' := by
  have hd : dupA al.reverse ↔ dupA al := by rw [dupA_iff, dupA_iff, List.map_reverse, nodup_rev]
  exact fillS_congr hd (fun h1 b _ => lookA_congr h1 (fun h2 => h1 (hd.2 h2)) fun a _ => List.mem_reverse) h
/-- nor has another one -/
theorem fillS_more {c c' : Nat → CT} {al : List (List CT)} {o : List CT} {e : Int} (h1 : ∀ a ∈ al, strF a ≠ strF o) (h2 : ∀ b ∈ rowOf (c 84), strP b ≠ strF o) (h : FillS c (al.reverse ++ [o]) e c') : FillS c al e c' := by
  have hd : dupA (al.reverse ++ [o]) ↔ dupA al := by
    rw [dupA_iff, dupA_iff, List.map_append, List.map_reverse, List.nodup_append, nodup_rev]
    constructor
    · intro k hn
      refine k ⟨hn, by simp, fun x hx y hy => ?_⟩
      simp only [List.map_cons, List.map_nil, List.mem_singleton] at hy
      subst hy
      simp only [List.mem_reverse, List.mem_map] at hx
      obtain ⟨a, ha, rfl⟩ := hx
      exact h1 a ha
    · intro k hn; exact k hn.1
  refine fillS_congr hd (fun k b hb => lookA_congr k (fun k2 => k (hd.2 k2)) fun a ha => ?_) h
  simp only [List.mem_append, List.mem_reverse, List.mem_singleton]
  constructor
  · rintro (h | rfl)
    · exact h
    · exact absurd ha.symm (h2 b hb)
  · exact .inl
theorem fillS_plain {c c' : Nat → CT} {al : List (List CT)} (hb : rowOf (c 84) = []) (h : FillS c al 0 c') : c' = c := by
  generalize he : (0 : Int) = e at h
  cases h with
  | chk h => exact absurd he.symm h
  | dup _ _ => cases he
  | none _ _ _ => cases he
  | ok _ _ hf => rw [hb] at hf; simp only [fillB, Option.some.injEq] at hf; exact hf.symm
theorem pnames_one (c : Nat → CT) {bl : List (List CT)} (hb : c 84 = .row bl) : pnames [ctsOf 85 c] = bl.map strP := by
  have h : bindsOf (ctsOf 85 c) = bl := by
    have h1 : (ctsOf 85 c)[84]? = some (.row bl) := by rw [ctsOf_get (by omega), hb]
    simp only [bindsOf, h1]
  simp only [pnames, List.flatMap_cons, List.flatMap_nil, List.append_nil, nmsOf, h]
theorem args_more {A : Nat → Prop} {H : AH} {M : Nat} {ex : Bool} {cells xs : List Value} {al : List (List CT)} {o : List CT} (hg : H.tr.get M = some (.cells (cells ++ xs) 2 ex)) (hA : A M) (hcl : cells.length = al.length * 2) (hxs : xs.length = 2) (hr : ∀ (j : Nat) c, al.reverse[j]? = some c → CellsA A H k73 ((cells.drop (j * 2)).take 2) c) (ho : CellsA A H k73 xs o) (hb : al.length ≤ 5864062014635) :
    CellA A H (.row 16 k73) (.slice (some ⟨2 * M + 1, 0, none⟩) (al.length + 1) (al.length + 1)) (.row (al.reverse ++ [o])) :=
  row_own hg hA rfl (by simp) (by simp only [List.length_append, List.length_reverse, List.length_singleton, hcl, hxs]; omega) (rows_snoc (by simpa using hcl) hxs hr ho) (by simp) (by simp; omega) (by simp; omega)
set_option maxHeartbeats 4000000 in
theorem batchArgs_ok {S : AH} {A : Nat → Prop} (hA : ∀ j, A j → j < S.nx) {x : Nat → Value} {c : Nat → CT} (px : Pts A S k51 x c) {z : Value} {al : List (List CT)} (hz : CellA A S (.row 24 k73) z (.row al)) {uo : ByteArray} {no : Int} (huo : uo.size ≤ maxLen) (hno : (Lit.int .i64 no).wf = true) : XCall Try.prog 6 [.agg ⟨cellsOf 85 x⟩, z, .agg ⟨[.string uo, .int .i64 no]⟩] S fun v H' => v = .bool true ∧ Kept S.nx S H' := by
  obtain ⟨al2, aa, ca, e2, rfl, ra⟩ := hz.rowD
  cases e2
  obtain ⟨bl, ab, cb, eb, hb84, rb⟩ := (px 84 _ rfl).rowD
  have haa := ra.len
  have hab := ra.bytes
  have hbb := rb.bytes
  have hrb : rowOf (c 84) = bl := by rw [eb]; rfl
  refine x_enter (E := E) (n := 121) (rs := [.tmp 6]) (l := [(2, _), (1, _), (0, _)]) (fn_own Try.func6 rfl rfl rfl) hA rfl ?_
  refine sx_seq ?_
  refine sx_region (E := E) ?_
  refine so_boxA rfl rfl (fun h => nomatch h) rfl ?_
  intro N3
  refine so_boxA rfl rfl (fun h => nomatch h) rfl ?_
  intro N5
  refine so_assign rfl rfl rfl ?_
  refine so_then ?_
  refine sx_seq ?_
  refine sx_region (E := E) ?_
  refine so_load rfl rfl rfl (by first | exact ld_ownA Try.underlying51 rfl inf51 rfl (by repeat (first | exact List.Mem.head _ | apply List.Mem.tail)) (by first | exact cellsOf_le rfl | decide | omega) (by first | exact cellsOf_all | exact take_all rfl | exact cellsOf_part rfl | rfl) | exact ld_dataA Try.underlying51 rfl inf51 rfl (by first | assumption | exact InA.add (by assumption) | exact InA.add (InA.add (by assumption))) (by assumption)) ?_
  refine so_move rfl rfl rfl ?_
  refine so_callF (FillT c al) rfl rfl (fun h => nomatch h) rfl has7 (by repeat (first | exact Opvs.nil | apply Opvs.cons rfl)) (fun H hH => fill_ok hH.lt (px.gr hH.gr) (CellA.gr hH.gr _ _ _ hz)) ?_
  intro u1 H1 A1 g1 hT
  obtain ⟨ys, e1, c1, rfl, hs1, hy1⟩ := hT
  obtain ⟨y1, rfl⟩ := edit_fn hy1
  have px1 := px.gr g1
  have ra1 := ra.gr g1
  refine so_move rfl rfl rfl ?_
  refine so_extract rfl rfl rfl rfl ?_
  refine so_extract rfl rfl rfl rfl ?_
  refine so_alloc (cs := (.int .i64 0 :: .int .i64 0 :: .int .i64 0 :: .int .i64 0 :: .int .i64 0 :: .int .i64 0 :: .string ⟨#[]⟩ :: .string ⟨#[]⟩ :: .int .i64 0 :: .int .i64 0 :: .int .i64 0 :: .string ⟨#[]⟩ :: .bool false :: .bool false :: .bool false :: .int .i64 0 :: .int .i64 0 :: .int .i64 0 :: .int .i64 0 :: .slice none 0 0 :: .int .i64 0 :: .int .i64 0 :: .int .i64 0 :: .int .i64 0 :: .int .i64 0 :: .int .i64 0 :: .int .i64 0 :: .int .i64 0 :: .int .i64 0 :: .slice none 0 0 :: .int .i64 0 :: .int .i64 0 :: .int .i64 0 :: .int .i64 0 :: .int .i64 0 :: .slice none 0 0 :: .int .i64 0 :: .slice none 0 0 :: .slice none 0 0 :: .int .i64 0 :: .int .i64 0 :: .int .i64 0 :: .int .i64 0 :: .string ⟨#[]⟩ :: .int .i64 0 :: .int .i64 0 :: .int .i64 0 :: .int .i64 0 :: .int .i64 0 :: .int .i64 0 :: .slice none 0 0 :: .int .i64 0 :: .int .i64 0 :: .slice none 0 0 :: .int .i64 0 :: .int .i64 0 :: .slice none 0 0 :: .int .i64 0 :: .int .i64 0 :: .int .i64 0 :: .int .i64 0 :: .int .i64 0 :: .int .i64 0 :: .int .i64 0 :: .int .i64 0 :: .int .i64 0 :: .int .i64 0 :: .int .i64 0 :: .int .i64 0 :: .int .i64 0 :: .int .i64 0 :: .slice none 0 0 :: .bool false :: .slice none 0 0 :: .int .i64 0 :: .int .i64 0 :: .int .i64 0 :: .int .i64 0 :: .int .i64 0 :: .int .i64 0 :: .int .i64 0 :: .int .i64 0 :: .int .i64 0 :: .int .i64 0 :: [])) rfl rfl (fun h => nomatch h) inf48 rfl rfl ?_
  intro N7
  refine so_storeA rfl (fun h => nomatch h) rfl rfl inf48 (by first | exact cellsOf_length _ _ | rfl) (CellsA.one hy1) (by repeat (first | exact .zero | apply Upd.succ)) (by first | exact cellsOf_set rfl | exact cellsOf_setr rfl | exact cellsOf_store rfl | exact store_all rfl | rfl) (by first | exact cellsOf_in rfl rfl | exact cellsOf_in rfl (cellsOf_length _ _) | exact cellsOf_le rfl | exact Nat.le_of_ble_eq_true rfl | omega) (fun h => nomatch h) ?_
  refine so_assign rfl rfl rfl ?_
  refine so_then ?_
  refine sx_seq ?_
  refine sx_region (E := E) ?_
  refine so_buildSlice (out := []) (s := 2) rfl rfl (fun h => nomatch h) (by repeat (first | exact Opps.nil | apply Opps.cons rfl)) Try.underlying52 inf73 rfl rfl (by kernel_rfl) rfl rfl ?_
  intro N24
  refine so_assign rfl rfl rfl ?_
  refine so_then ?_
  refine sx_seq ?_
  refine sx_seq ?_
  refine sx_region (E := E) ?_
  refine so_move rfl rfl rfl ?_
  refine so_lenL rfl rfl rfl rfl rfl rfl Try.underlying52 ?_
  refine so_bin rfl rfl rfl rfl (by first | exact bin_sub (c := prevI al.length) (by rw [prevI_eq]; exact wrap64 (by omega) (by omega)) | exact bin_decr (by omega) | exact bin_sub (wrap64 (by omega) (by omega)) | exact bin_sub rfl) ?_
  refine so_assign rfl rfl rfl ?_
  refine so_then ?_
  refine sx_block ?_
  refine sx_loop (σ := Nat × Nat × Nat × Bool × List Value) (fun q => q.1) (fun q => [(1, .slice aa al.length ca), (3, .pointer (some ⟨2 * N3 + 1, 0, none⟩)), (5, .pointer (some ⟨2 * N5 + 1, 0, none⟩)), (7, .pointer (some ⟨2 * N7 + 1, 0, none⟩)), (8, .int .i64 e1), (9, .slice (some ⟨2 * q.2.2.1 + 1, 0, none⟩) q.2.1 q.2.1), (10, .int .i64 (prevI q.1))]) (fun _ => H1) (fun _ => A1) (fun q => [(q.2.2.1, .cells q.2.2.2.2 2 q.2.2.2.1), (N7, .cells (cellsOf 84 y1) (boxsz E 48) true), (N5, .cells [.string uo, .int .i64 no] (boxsz E 73) true), (N3, .cells (cellsOf 85 x) (boxsz E 51) true)]) (fun q => q.1 + q.2.1 = al.length ∧ q.2.2.2.2.length = q.2.1 * 2 ∧ (∀ (j : Nat) c, (al.drop q.1).reverse[j]? = some c → CellsA A1 H1 k73 ((q.2.2.2.2.drop (j * 2)).take 2) c)) ((al.length, 0, N24, true, [])) (⟨Nat.add_zero _, rfl, fun j c h => by rw [List.drop_length] at h; simp at h⟩) (by repeat (first | exact .nil | refine .cons rfl ?_)) rfl rfl (by repeat (first | exact List.nil_sublist _ | apply List.Sublist.cons_cons | apply List.Sublist.cons)) ?_
  intro s hJ t1
  obtain ⟨m, k, M, ex, cells⟩ := s
  obtain ⟨hJ, hcl, hgM⟩ := hJ
  dsimp only at hJ hcl hgM ⊢
  refine sx_seq ?_
  refine sx_seq ?_
  rcases m with _ | j
  · skip
    refine sx_region (E := E) ?_
    refine so_move rfl rfl rfl ?_
    refine so_bin rfl rfl rfl rfl (by first | exact bin_geq_t (a := ((j : Nat) : Int)) (by omega) | exact bin_geq_f (a := -1) (by omega) | exact bin_geq_t (by omega) | exact bin_geq_f (by omega)) ?_
    refine so_then ?_
    refine sx_false rfl ?_
    refine sx_exit ?_
    refine sk_then_exit ?_
    refine sk_loop_exit ?_
    refine sk_block_exit ?_
    refine sk_then ?_
    refine sx_seq ?_
    obtain rfl : k = al.length := by omega
    rw [List.drop_zero] at hgM
    refine sx_freezeN .zero ?_
    intro Hf Af gf hAf hgf hnM hSM
    have hback : CellA Af Hf (.row 24 k73) (.slice (some ⟨2 * M + 1, 0, none⟩) al.length al.length) (.row al.reverse) := row_own hgf hAf rfl (by simp) (by rw [List.length_reverse, hcl]; exact Nat.le_refl _) (fun j c h => CellsA.gr gf _ _ _ (hgM j c h)) (by simp) (by rw [List.length_reverse]; exact haa) (by rw [List.length_reverse]; exact hab)
    refine sx_region (E := E) ?_
    refine so_load rfl rfl rfl (by first | exact ld_ownA Try.underlying51 rfl inf51 rfl (by repeat (first | exact List.Mem.head _ | apply List.Mem.tail)) (by first | exact cellsOf_le rfl | decide | omega) (by first | exact cellsOf_all | exact take_all rfl | exact cellsOf_part rfl | rfl) | exact ld_dataA Try.underlying51 rfl inf51 rfl (by first | assumption | exact InA.add (by assumption) | exact InA.add (InA.add (by assumption))) (by assumption)) ?_
    refine so_move rfl rfl rfl ?_
    refine so_callF (FillT c al.reverse) rfl rfl (fun h => nomatch h) rfl has7 (by repeat (first | exact Opvs.nil | apply Opvs.cons rfl)) (fun H hH => fill_ok hH.lt ((px1.gr gf).gr hH.gr) (CellA.gr hH.gr _ _ _ hback)) ?_
    intro u2 H2 A2 g2 hT
    obtain ⟨zs, e2, c2, rfl, hs2, hy2⟩ := hT
    obtain ⟨y2, rfl⟩ := edit_fn hy2
    obtain ⟨rfl, rfl⟩ := hs1.same (fillS_rev hs2)
    refine so_move rfl rfl rfl ?_
    refine so_extract rfl rfl rfl rfl ?_
    refine so_extract rfl rfl rfl rfl ?_
    refine so_alloc (cs := (.int .i64 0 :: .int .i64 0 :: .int .i64 0 :: .int .i64 0 :: .int .i64 0 :: .int .i64 0 :: .string ⟨#[]⟩ :: .string ⟨#[]⟩ :: .int .i64 0 :: .int .i64 0 :: .int .i64 0 :: .string ⟨#[]⟩ :: .bool false :: .bool false :: .bool false :: .int .i64 0 :: .int .i64 0 :: .int .i64 0 :: .int .i64 0 :: .slice none 0 0 :: .int .i64 0 :: .int .i64 0 :: .int .i64 0 :: .int .i64 0 :: .int .i64 0 :: .int .i64 0 :: .int .i64 0 :: .int .i64 0 :: .int .i64 0 :: .slice none 0 0 :: .int .i64 0 :: .int .i64 0 :: .int .i64 0 :: .int .i64 0 :: .int .i64 0 :: .slice none 0 0 :: .int .i64 0 :: .slice none 0 0 :: .slice none 0 0 :: .int .i64 0 :: .int .i64 0 :: .int .i64 0 :: .int .i64 0 :: .string ⟨#[]⟩ :: .int .i64 0 :: .int .i64 0 :: .int .i64 0 :: .int .i64 0 :: .int .i64 0 :: .int .i64 0 :: .slice none 0 0 :: .int .i64 0 :: .int .i64 0 :: .slice none 0 0 :: .int .i64 0 :: .int .i64 0 :: .slice none 0 0 :: .int .i64 0 :: .int .i64 0 :: .int .i64 0 :: .int .i64 0 :: .int .i64 0 :: .int .i64 0 :: .int .i64 0 :: .int .i64 0 :: .int .i64 0 :: .int .i64 0 :: .int .i64 0 :: .int .i64 0 :: .int .i64 0 :: .int .i64 0 :: .slice none 0 0 :: .bool false :: .slice none 0 0 :: .int .i64 0 :: .int .i64 0 :: .int .i64 0 :: .int .i64 0 :: .int .i64 0 :: .int .i64 0 :: .int .i64 0 :: .int .i64 0 :: .int .i64 0 :: .int .i64 0 :: [])) rfl rfl (fun h => nomatch h) inf48 rfl rfl ?_
    intro N11
    refine so_storeA rfl (fun h => nomatch h) rfl rfl inf48 (by first | exact cellsOf_length _ _ | rfl) (CellsA.one hy2) (by repeat (first | exact .zero | apply Upd.succ)) (by first | exact cellsOf_set rfl | exact cellsOf_setr rfl | exact cellsOf_store rfl | exact store_all rfl | rfl) (by first | exact cellsOf_in rfl rfl | exact cellsOf_in rfl (cellsOf_length _ _) | exact cellsOf_le rfl | exact Nat.le_of_ble_eq_true rfl | omega) (fun h => nomatch h) ?_
    refine so_assign rfl rfl rfl ?_
    refine so_then ?_
    refine sx_seq ?_
    refine sx_seq ?_
    refine sx_region (E := E) ?_
    refine so_move rfl rfl rfl ?_
    refine so_move rfl rfl rfl ?_
    refine so_bin rfl rfl rfl rfl (by first | exact bin_neq_f (by first | rfl | assumption | omega) | exact bin_neq_t (by first | rfl | assumption | omega)) ?_
    refine so_move rfl rfl rfl ?_
    first | refine so_load rfl rfl rfl (by first | exact ld_ownA Try.underlying48 rfl inf48 rfl (by repeat (first | exact List.Mem.head _ | apply List.Mem.tail)) (by first | exact cellsOf_le rfl | decide | omega) (by first | exact cellsOf_all | exact take_all rfl | exact cellsOf_part rfl | rfl) | exact ld_dataA Try.underlying48 rfl inf48 rfl (by first | assumption | exact InA.add (by assumption) | exact InA.add (InA.add (by assumption))) (by assumption)) ?_ | refine so_skip rfl rfl rfl ?_
    first | refine so_load rfl rfl rfl (by first | exact ld_ownA Try.underlying48 rfl inf48 rfl (by repeat (first | exact List.Mem.head _ | apply List.Mem.tail)) (by first | exact cellsOf_le rfl | decide | omega) (by first | exact cellsOf_all | exact take_all rfl | exact cellsOf_part rfl | rfl) | exact ld_dataA Try.underlying48 rfl inf48 rfl (by first | assumption | exact InA.add (by assumption) | exact InA.add (InA.add (by assumption))) (by assumption)) ?_ | refine so_skip rfl rfl rfl ?_
    first | refine so_call rfl rfl (fun h => nomatch h) rfl has9 (by repeat (first | exact Opvs.nil | apply Opvs.cons rfl)) (fun H hH => sameEdit_ok hH.lt (CellsA.gr hH.gr _ _ _ (CellsA.gr (gf.trans g2) _ _ _ hy1)) (CellsA.gr hH.gr _ _ _ hy2)) ?_ | refine so_skip rfl rfl rfl ?_
    first | refine so_not rfl rfl rfl rfl ?_ | refine so_skip rfl rfl rfl ?_
    first | refine so_pick_t rfl rfl rfl rfl ?_ | refine so_pick_f rfl rfl rfl rfl ?_
    refine so_then ?_
    refine sx_false rfl ?_
    refine sx_skip ?_
    refine sk_then ?_
    refine sx_seq ?_
    refine sx_seq ?_
    refine sx_thaw (A1 := A1) (H1 := H1) (gf.trans g2) (g2.sub _ hAf) ((g2.get _ hAf).trans hgf) hnM hSM ?_
    refine sx_region (E := E) ?_
    refine so_assign rfl rfl rfl ?_
    refine so_then ?_
    refine sx_block ?_
    refine sx_loop (σ := Nat) (fun k => al.length - k) (fun k => [(1, .slice aa al.length ca), (3, .pointer (some ⟨2 * N3 + 1, 0, none⟩)), (5, .pointer (some ⟨2 * N5 + 1, 0, none⟩)), (7, .pointer (some ⟨2 * N7 + 1, 0, none⟩)), (8, .int .i64 e1), (9, .slice (some ⟨2 * M + 1, 0, none⟩) al.length al.length), (13, .int .i64 ((k : Nat) : Int))]) (fun _ => H1) (fun _ => A1) (fun _ => [(M, .cells cells 2 ex), (N7, .cells (cellsOf 84 y1) (boxsz E 48) true), (N5, .cells [.string uo, .int .i64 no] (boxsz E 73) true), (N3, .cells (cellsOf 85 x) (boxsz E 51) true)]) (fun k => k ≤ al.length ∧ (∀ j a, j < k → al[j]? = some a → strF a ≠ uo.data.toList)) (0) (⟨Nat.zero_le _, fun j a h => absurd h (Nat.not_lt_zero _)⟩) (by repeat (first | exact .nil | refine .cons rfl ?_)) rfl rfl (by repeat (first | exact List.nil_sublist _ | apply List.Sublist.cons_cons | apply List.Sublist.cons)) ?_
    intro s hJ t2
    obtain ⟨hJ, hg⟩ := hJ
    refine sx_seq ?_
    refine sx_seq ?_
    rcases Nat.lt_or_ge s al.length with hk | hk
    · skip
      obtain ⟨qa, us, d, rfl, ia, hca, la, ka⟩ := ra1.at' s hk
      obtain ⟨u, n, rfl, rfl, hu, hn⟩ := arg2 ka
      have la0 : aload H1 ((qa.add (s * 2)).add 0) = some (.string u) := aloads_at la (j := 0) (by decide)
      refine sx_region (E := E) ?_
      refine so_move rfl rfl rfl ?_
      refine so_move rfl rfl rfl ?_
      refine so_lenL rfl rfl rfl rfl rfl rfl Try.underlying52 ?_
      refine so_bin rfl rfl rfl rfl (by first | exact bin_lss_t (by omega) | exact bin_lss_f (by omega)) ?_
      refine so_then ?_
      refine sx_true rfl ?_
      refine sx_skip ?_
      refine sk_then ?_
      refine sx_seq ?_
      refine sx_block ?_
      refine sx_seq ?_
      by_cases heq : u.data.toList = uo.data.toList
      · skip
        refine sx_draw (E := E) mixed [] _ (List.Sublist.refl _) (by kernel_rfl) (by kernel_rfl) (by decide) ?_
        refine so_move rfl rfl rfl ?_
        refine so_move rfl rfl rfl ?_
        first | refine so_indexO rfl rfl rfl rfl Try.underlying52 inf73 rfl (by omega) rfl ?_ | refine so_index rfl rfl rfl rfl Try.underlying52 inf73 rfl (by omega) ?_
        first | refine so_fieldO rfl rfl rfl Try.underlying73 rfl inf9 rfl rfl ?_ | refine so_fieldC rfl rfl rfl Try.underlying73 rfl inf9 rfl rfl ?_
        refine so_load rfl rfl rfl (by first | exact ld_own Try.underlying9 rfl (by repeat (first | exact List.Mem.head _ | apply List.Mem.tail)) (by first | exact (cellsOf_get rfl).trans (congrArg some hb84) | exact cellsOf_get rfl | rfl) | exact ld_data Try.underlying9 rfl (by first | assumption | exact InA.add (by assumption) | exact InA.add (InA.add (by assumption))) (by assumption)) ?_
        refine so_fieldO (o' := 0) rfl rfl rfl Try.underlying73 rfl inf9 rfl rfl ?_
        refine so_load rfl rfl rfl (by first | exact ld_own Try.underlying9 rfl (by repeat (first | exact List.Mem.head _ | apply List.Mem.tail)) (by first | exact (cellsOf_get rfl).trans (congrArg some hb84) | exact cellsOf_get rfl | rfl) | exact ld_data Try.underlying9 rfl (by first | assumption | exact InA.add (by assumption) | exact InA.add (InA.add (by assumption))) (by assumption)) ?_
        refine so_bin rfl rfl rfl rfl (by first | exact bin_seql_t (by first | rfl | assumption | decide) | exact bin_seql_f (by first | rfl | assumption | decide)) ?_
        refine so_then ?_
        refine sx_true rfl ?_
        refine sx_seq ?_
        refine sx_region (E := E) ?_
        refine so_call rfl rfl (fun h => nomatch h) rfl has10 (by repeat (first | exact Opvs.nil | apply Opvs.cons rfl)) (fun H hH => example_ok H) ?_
        refine so_assign rfl rfl rfl ?_
        refine so_then ?_
        refine sx_ret ?_
        refine sk_block_ret ?_
        refine sk_then_ret ?_
        refine sk_loop_ret ?_
        refine sk_block_ret ?_
        refine sk_then_ret ?_
        refine sk_return1 (.tmp rfl .nil) ?_
        exact fun H hH => ⟨rfl, hH.kept⟩
      · skip
        refine sx_draw (E := E) mixed [] _ (List.Sublist.refl _) (by kernel_rfl) (by kernel_rfl) (by decide) ?_
        refine so_move rfl rfl rfl ?_
        refine so_move rfl rfl rfl ?_
        first | refine so_indexO rfl rfl rfl rfl Try.underlying52 inf73 rfl (by omega) rfl ?_ | refine so_index rfl rfl rfl rfl Try.underlying52 inf73 rfl (by omega) ?_
        first | refine so_fieldO rfl rfl rfl Try.underlying73 rfl inf9 rfl rfl ?_ | refine so_fieldC rfl rfl rfl Try.underlying73 rfl inf9 rfl rfl ?_
        refine so_load rfl rfl rfl (by first | exact ld_own Try.underlying9 rfl (by repeat (first | exact List.Mem.head _ | apply List.Mem.tail)) (by first | exact (cellsOf_get rfl).trans (congrArg some hb84) | exact cellsOf_get rfl | rfl) | exact ld_data Try.underlying9 rfl (by first | assumption | exact InA.add (by assumption) | exact InA.add (InA.add (by assumption))) (by assumption)) ?_
        refine so_fieldO (o' := 0) rfl rfl rfl Try.underlying73 rfl inf9 rfl rfl ?_
        refine so_load rfl rfl rfl (by first | exact ld_own Try.underlying9 rfl (by repeat (first | exact List.Mem.head _ | apply List.Mem.tail)) (by first | exact (cellsOf_get rfl).trans (congrArg some hb84) | exact cellsOf_get rfl | rfl) | exact ld_data Try.underlying9 rfl (by first | assumption | exact InA.add (by assumption) | exact InA.add (InA.add (by assumption))) (by assumption)) ?_
        refine so_bin rfl rfl rfl rfl (by first | exact bin_seql_t (by first | rfl | assumption | decide) | exact bin_seql_f (by first | rfl | assumption | decide)) ?_
        refine so_then ?_
        refine sx_false rfl ?_
        refine sx_skip ?_
        refine sk_block ?_
        refine sk_then ?_
        refine sx_region (E := E) ?_
        refine so_move rfl rfl rfl ?_
        refine so_bin rfl rfl rfl rfl (by first | exact bin_incr (by omega) | exact bin_add (wrap64 (by omega) (by omega)) | exact bin_add rfl) ?_
        refine so_assign rfl rfl rfl ?_
        refine so_nil ?_
        refine sk_round (s + 1) (show al.length - (s + 1) < al.length - s by omega) ⟨by omega, fun j a hj ha => ?_⟩ (by repeat (first | exact .nil | refine .cons rfl ?_)) rfl rfl (by repeat (first | exact List.nil_sublist _ | apply List.Sublist.cons_cons | apply List.Sublist.cons))
        by_cases e : j = s
        · subst e; rw [hca] at ha; cases ha; exact heq
        · exact hg j a (by omega) ha
    · skip
      have hna : ∀ a ∈ al, strF a ≠ uo.data.toList := fun a ha => by
        obtain ⟨j, hj⟩ := List.getElem?_of_mem ha
        exact hg j a (by have := lt_of_getElem? hj; omega) hj
      refine sx_region (E := E) ?_
      refine so_move rfl rfl rfl ?_
      refine so_move rfl rfl rfl ?_
      refine so_lenL rfl rfl rfl rfl rfl rfl Try.underlying52 ?_
      refine so_bin rfl rfl rfl rfl (by first | exact bin_lss_t (by omega) | exact bin_lss_f (by omega)) ?_
      refine so_then ?_
      refine sx_false rfl ?_
      refine sx_exit ?_
      refine sk_then_exit ?_
      refine sk_loop_exit ?_
      refine sk_block_exit ?_
      refine sk_then ?_
      refine sx_seq ?_
      refine sx_region (E := E) ?_
      refine so_load rfl rfl rfl (by first | exact ld_ownA Try.underlying51 rfl inf51 rfl (by repeat (first | exact List.Mem.head _ | apply List.Mem.tail)) (by first | exact cellsOf_le rfl | decide | omega) (by first | exact cellsOf_all | exact take_all rfl | exact cellsOf_part rfl | rfl) | exact ld_dataA Try.underlying51 rfl inf51 rfl (by first | assumption | exact InA.add (by assumption) | exact InA.add (InA.add (by assumption))) (by assumption)) ?_
      refine so_buildSlice (out := cellsOf 85 x) (s := 85) rfl rfl (fun h => nomatch h) (by repeat (first | exact Opps.nil | apply Opps.cons rfl)) Try.underlying61 inf51 rfl rfl (by kernel_rfl) rfl rfl ?_
      intro N70
      refine so_freeze .zero ?_
      intro Hb Ab gb hAb hgb
      have hrow := one_row hgb hAb (px1.gr gb)
      refine so_callF (fun u H' A' => CellA A' H' (.row 16 [.str]) u (.row (strs (insAll (pnames [ctsOf 85 c]))))) rfl rfl (fun h => nomatch h) rfl has19 (by repeat (first | exact Opvs.nil | apply Opvs.cons rfl)) (fun H hH => params_ok hH.lt (CellA.gr hH.gr _ _ _ hrow) (by rw [pnames_one c eb, List.length_map]; omega)) ?_
      intro u4 H4 A4 g4 hT
      obtain ⟨ns, ens⟩ : ∃ ns, ns = insAll (pnames [ctsOf 85 c]) := ⟨_, rfl⟩
      rw [← ens] at hT
      obtain ⟨l4, an, cn, e4, rfl, rl⟩ := hT.rowD
      cases e4
      have hnl := rl.len
      have g14 := gb.trans g4
      refine so_assign rfl rfl rfl ?_
      refine so_then ?_
      refine sx_seq ?_
      refine sx_seq ?_
      refine sx_region (E := E) ?_
      refine so_assign rfl rfl rfl ?_
      refine so_then ?_
      refine sx_block ?_
      refine sx_loop (σ := Nat) (fun k => (strs ns).length - k) (fun k => [(1, .slice aa al.length ca), (3, .pointer (some ⟨2 * N3 + 1, 0, none⟩)), (5, .pointer (some ⟨2 * N5 + 1, 0, none⟩)), (7, .pointer (some ⟨2 * N7 + 1, 0, none⟩)), (8, .int .i64 e1), (9, .slice (some ⟨2 * M + 1, 0, none⟩) al.length al.length), (14, .slice an (strs ns).length cn), (15, .int .i64 ((k : Nat) : Int))]) (fun _ => H4) (fun _ => A4) (fun _ => [(M, .cells cells 2 ex), (N7, .cells (cellsOf 84 y1) (boxsz E 48) true), (N5, .cells [.string uo, .int .i64 no] (boxsz E 73) true), (N3, .cells (cellsOf 85 x) (boxsz E 51) true)]) (fun k => k ≤ (strs ns).length ∧ (∀ j, j < k → ns[j]? ≠ some uo.data.toList)) (0) (⟨Nat.zero_le _, fun j h => absurd h (Nat.not_lt_zero _)⟩) (by repeat (first | exact .nil | refine .cons rfl ?_)) rfl rfl (by repeat (first | exact List.nil_sublist _ | apply List.Sublist.cons_cons | apply List.Sublist.cons)) ?_
      intro s hJ t3
      obtain ⟨hJ3, hg2⟩ := hJ
      refine sx_seq ?_
      refine sx_seq ?_
      rcases Nat.lt_or_ge s (strs ns).length with hk | hk
      · skip
        obtain ⟨ql, us, d, rfl, il, hcl2, ll, kl⟩ := rl.at' s hk
        obtain ⟨u, rfl, rfl, hu⟩ := str1 kl
        obtain ⟨x0, e0, ll1⟩ := aloads_one ll
        cases e0
        have hli := strs_get hcl2
        refine sx_region (E := E) ?_
        refine so_move rfl rfl rfl ?_
        refine so_move rfl rfl rfl ?_
        refine so_lenL rfl rfl rfl rfl rfl rfl Try.underlying67 ?_
        refine so_bin rfl rfl rfl rfl (by first | exact bin_lss_t (by omega) | exact bin_lss_f (by omega)) ?_
        refine so_then ?_
        refine sx_true rfl ?_
        refine sx_skip ?_
        refine sk_then ?_
        refine sx_seq ?_
        refine sx_block ?_
        refine sx_seq ?_
        by_cases heq : u.data.toList = uo.data.toList
        · skip
          refine sx_draw (E := E) mixed [] _ (List.Sublist.refl _) (by kernel_rfl) (by kernel_rfl) (by decide) ?_
          refine so_move rfl rfl rfl ?_
          refine so_move rfl rfl rfl ?_
          first | refine so_indexO rfl rfl rfl rfl Try.underlying67 inf9 rfl (by omega) rfl ?_ | refine so_index rfl rfl rfl rfl Try.underlying67 inf9 rfl (by omega) ?_
          refine so_load rfl rfl rfl (by first | exact ld_own Try.underlying9 rfl (by repeat (first | exact List.Mem.head _ | apply List.Mem.tail)) (by first | exact (cellsOf_get rfl).trans (congrArg some hb84) | exact cellsOf_get rfl | rfl) | exact ld_data Try.underlying9 rfl (by first | assumption | exact InA.add (by assumption) | exact InA.add (InA.add (by assumption))) (by assumption)) ?_
          refine so_fieldO (o' := 0) rfl rfl rfl Try.underlying73 rfl inf9 rfl rfl ?_
          refine so_load rfl rfl rfl (by first | exact ld_own Try.underlying9 rfl (by repeat (first | exact List.Mem.head _ | apply List.Mem.tail)) (by first | exact (cellsOf_get rfl).trans (congrArg some hb84) | exact cellsOf_get rfl | rfl) | exact ld_data Try.underlying9 rfl (by first | assumption | exact InA.add (by assumption) | exact InA.add (InA.add (by assumption))) (by assumption)) ?_
          refine so_bin rfl rfl rfl rfl (by first | exact bin_seql_t (by first | rfl | assumption | decide) | exact bin_seql_f (by first | rfl | assumption | decide)) ?_
          refine so_then ?_
          refine sx_true rfl ?_
          refine sx_seq ?_
          refine sx_region (E := E) ?_
          refine so_call rfl rfl (fun h => nomatch h) rfl has10 (by repeat (first | exact Opvs.nil | apply Opvs.cons rfl)) (fun H hH => example_ok H) ?_
          refine so_assign rfl rfl rfl ?_
          refine so_then ?_
          refine sx_ret ?_
          refine sk_block_ret ?_
          refine sk_then_ret ?_
          refine sk_loop_ret ?_
          refine sk_block_ret ?_
          refine sk_then_ret ?_
          refine sk_return1 (.tmp rfl .nil) ?_
          exact fun H hH => ⟨rfl, hH.kept⟩
        · skip
          refine sx_draw (E := E) mixed [] _ (List.Sublist.refl _) (by kernel_rfl) (by kernel_rfl) (by decide) ?_
          refine so_move rfl rfl rfl ?_
          refine so_move rfl rfl rfl ?_
          first | refine so_indexO rfl rfl rfl rfl Try.underlying67 inf9 rfl (by omega) rfl ?_ | refine so_index rfl rfl rfl rfl Try.underlying67 inf9 rfl (by omega) ?_
          refine so_load rfl rfl rfl (by first | exact ld_own Try.underlying9 rfl (by repeat (first | exact List.Mem.head _ | apply List.Mem.tail)) (by first | exact (cellsOf_get rfl).trans (congrArg some hb84) | exact cellsOf_get rfl | rfl) | exact ld_data Try.underlying9 rfl (by first | assumption | exact InA.add (by assumption) | exact InA.add (InA.add (by assumption))) (by assumption)) ?_
          refine so_fieldO (o' := 0) rfl rfl rfl Try.underlying73 rfl inf9 rfl rfl ?_
          refine so_load rfl rfl rfl (by first | exact ld_own Try.underlying9 rfl (by repeat (first | exact List.Mem.head _ | apply List.Mem.tail)) (by first | exact (cellsOf_get rfl).trans (congrArg some hb84) | exact cellsOf_get rfl | rfl) | exact ld_data Try.underlying9 rfl (by first | assumption | exact InA.add (by assumption) | exact InA.add (InA.add (by assumption))) (by assumption)) ?_
          refine so_bin rfl rfl rfl rfl (by first | exact bin_seql_t (by first | rfl | assumption | decide) | exact bin_seql_f (by first | rfl | assumption | decide)) ?_
          refine so_then ?_
          refine sx_false rfl ?_
          refine sx_skip ?_
          refine sk_block ?_
          refine sk_then ?_
          refine sx_region (E := E) ?_
          refine so_move rfl rfl rfl ?_
          refine so_bin rfl rfl rfl rfl (by first | exact bin_incr (by omega) | exact bin_add (wrap64 (by omega) (by omega)) | exact bin_add rfl) ?_
          refine so_assign rfl rfl rfl ?_
          refine so_nil ?_
          refine sk_round (s + 1) (show (strs ns).length - (s + 1) < (strs ns).length - s by omega) ⟨by omega, fun j hj => ?_⟩ (by repeat (first | exact .nil | refine .cons rfl ?_)) rfl rfl (by repeat (first | exact List.nil_sublist _ | apply List.Sublist.cons_cons | apply List.Sublist.cons))
          by_cases e : j = s
          · subst e; rw [hli]; exact fun h => heq (Option.some.inj h)
          · exact hg2 j (by omega)
      · skip
        have hnm : uo.data.toList ∉ ns := not_mem_of fun j hj => hg2 j (by have := strs_len ns; omega)
        have hnb : ∀ b ∈ rowOf (c 84), strP b ≠ uo.data.toList := fun b hb e => hnm (by
          rw [ens, (insAll_spec _).2, pnames_one c eb, ← e]
          exact List.mem_map_of_mem (by rw [← hrb]; exact hb))
        refine sx_region (E := E) ?_
        refine so_move rfl rfl rfl ?_
        refine so_move rfl rfl rfl ?_
        refine so_lenL rfl rfl rfl rfl rfl rfl Try.underlying67 ?_
        refine so_bin rfl rfl rfl rfl (by first | exact bin_lss_t (by omega) | exact bin_lss_f (by omega)) ?_
        refine so_then ?_
        refine sx_false rfl ?_
        refine sx_exit ?_
        refine sk_then_exit ?_
        refine sk_loop_exit ?_
        refine sk_block_exit ?_
        refine sk_then ?_
        refine sx_seq ?_
        refine sx_drawF (E := E) mixed [3, 4, 5, 9, 10] [9] _ (List.sublist_cons_self _ _) (by kernel_rfl) (by kernel_rfl) (by kernel_rfl) (by decide) ?_
        refine so_load rfl rfl rfl (by first | exact ld_ownA Try.underlying51 rfl inf51 rfl (by repeat (first | exact List.Mem.head _ | apply List.Mem.tail)) (by first | exact cellsOf_le rfl | decide | omega) (by first | exact cellsOf_all | exact take_all rfl | exact cellsOf_part rfl | rfl) | exact ld_dataA Try.underlying51 rfl inf51 rfl (by first | assumption | exact InA.add (by assumption) | exact InA.add (InA.add (by assumption))) (by assumption)) ?_
        refine so_move rfl rfl rfl ?_
        refine so_load rfl rfl rfl (by first | exact ld_ownA Try.underlying73 rfl inf73 rfl (by repeat (first | exact List.Mem.head _ | apply List.Mem.tail)) (Nat.le_of_ble_eq_true rfl) rfl | exact ld_ownA Try.underlying73 rfl inf73 rfl (by repeat (first | exact List.Mem.head _ | apply List.Mem.tail)) (by first | exact cellsOf_le rfl | decide | omega) (by first | exact cellsOf_all | exact take_all rfl | exact cellsOf_part rfl | rfl) | exact ld_dataA Try.underlying73 rfl inf73 rfl (by first | assumption | exact InA.add (by assumption) | exact InA.add (InA.add (by assumption))) (by assumption)) ?_
        refine so_buildSlice (out := [.string uo, .int .i64 no]) (s := 2) rfl rfl (fun _ => (by repeat (first | exact List.Mem.head _ | apply List.Mem.tail))) (by repeat (first | exact Opps.nil | apply Opps.cons rfl)) Try.underlying52 inf73 rfl rfl (by kernel_rfl) rfl rfl ?_
        intro N90
        refine so_appAny (m := 1) (bt := 24) (sz := 2) (cs' := cells ++ [.string uo, .int .i64 no]) (k := al.length + 1) rfl rfl (fun _ => (by repeat (first | exact List.Mem.head _ | apply List.Mem.tail))) rfl rfl rfl rfl rfl Try.underlying52 Try.underlying52 rfl inf73 rfl rfl (by decide) rfl (by decide) (first_own (List.Mem.head _) rfl) (.succ .zero) hcl rfl (roomB_of (by omega)) (by omega) rfl (fun _ => List.sublist_cons_self _ _) rfl ?_
        intro M2
        refine so_freezeG .zero (fun _ => List.sublist_cons_self _ _) ?_
        intro Hc Ac gc hAc hgc
        have hmore := args_more (o := [.v (.string uo), .v (.int .i64 no)]) hgc hAc hcl rfl (fun j c h => CellsA.gr (g14.trans gc) _ _ _ (hgM j c h)) (by simp only [k73, CellsA, CellA]; exact ⟨⟨trivial, uo, rfl, huo⟩, ⟨trivial, no, rfl, hno⟩, trivial⟩) (by omega)
        refine so_callF (FillT c (al.reverse ++ [[.v (.string uo), .v (.int .i64 no)]])) rfl rfl (fun _ => (by repeat (first | exact List.Mem.head _ | apply List.Mem.tail))) rfl has7 (by repeat (first | exact Opvs.nil | apply Opvs.cons rfl)) (fun H hH => fill_ok hH.lt (((px1.gr g14).gr gc).gr hH.gr) (CellA.gr hH.gr _ _ _ hmore)) ?_
        intro u5 H5 A5 g5 hT
        obtain ⟨ws, e3, c3, rfl, hs3, hy3⟩ := hT
        obtain ⟨y3, rfl⟩ := edit_fn hy3
        obtain ⟨rfl, rfl⟩ := hs1.same (fillS_more (o := [.v (.string uo), .v (.int .i64 no)]) hna hnb hs3)
        have g15 := (g14.trans gc).trans g5
        refine so_move rfl rfl rfl ?_
        refine so_extract rfl rfl rfl rfl ?_
        refine so_extract rfl rfl rfl rfl ?_
        refine so_alloc (cs := (.int .i64 0 :: .int .i64 0 :: .int .i64 0 :: .int .i64 0 :: .int .i64 0 :: .int .i64 0 :: .string ⟨#[]⟩ :: .string ⟨#[]⟩ :: .int .i64 0 :: .int .i64 0 :: .int .i64 0 :: .string ⟨#[]⟩ :: .bool false :: .bool false :: .bool false :: .int .i64 0 :: .int .i64 0 :: .int .i64 0 :: .int .i64 0 :: .slice none 0 0 :: .int .i64 0 :: .int .i64 0 :: .int .i64 0 :: .int .i64 0 :: .int .i64 0 :: .int .i64 0 :: .int .i64 0 :: .int .i64 0 :: .int .i64 0 :: .slice none 0 0 :: .int .i64 0 :: .int .i64 0 :: .int .i64 0 :: .int .i64 0 :: .int .i64 0 :: .slice none 0 0 :: .int .i64 0 :: .slice none 0 0 :: .slice none 0 0 :: .int .i64 0 :: .int .i64 0 :: .int .i64 0 :: .int .i64 0 :: .string ⟨#[]⟩ :: .int .i64 0 :: .int .i64 0 :: .int .i64 0 :: .int .i64 0 :: .int .i64 0 :: .int .i64 0 :: .slice none 0 0 :: .int .i64 0 :: .int .i64 0 :: .slice none 0 0 :: .int .i64 0 :: .int .i64 0 :: .slice none 0 0 :: .int .i64 0 :: .int .i64 0 :: .int .i64 0 :: .int .i64 0 :: .int .i64 0 :: .int .i64 0 :: .int .i64 0 :: .int .i64 0 :: .int .i64 0 :: .int .i64 0 :: .int .i64 0 :: .int .i64 0 :: .int .i64 0 :: .int .i64 0 :: .slice none 0 0 :: .bool false :: .slice none 0 0 :: .int .i64 0 :: .int .i64 0 :: .int .i64 0 :: .int .i64 0 :: .int .i64 0 :: .int .i64 0 :: .int .i64 0 :: .int .i64 0 :: .int .i64 0 :: .int .i64 0 :: [])) rfl rfl (fun _ => (by repeat (first | exact List.Mem.head _ | apply List.Mem.tail))) inf48 rfl rfl ?_
        intro N16
        refine so_storeA rfl (fun _ => (by repeat (first | exact List.Mem.head _ | apply List.Mem.tail))) rfl rfl inf48 (by first | exact cellsOf_length _ _ | rfl) (CellsA.one hy3) (by repeat (first | exact .zero | apply Upd.succ)) (by first | exact cellsOf_set rfl | exact cellsOf_setr rfl | exact cellsOf_store rfl | exact store_all rfl | rfl) (by first | exact cellsOf_in rfl rfl | exact cellsOf_in rfl (cellsOf_length _ _) | exact cellsOf_le rfl | exact Nat.le_of_ble_eq_true rfl | omega) (fun _ => (by repeat (first | exact List.nil_sublist _ | apply List.Sublist.cons_cons | apply List.Sublist.cons))) ?_
        refine so_assign rfl rfl rfl ?_
        refine so_then ?_
        refine sx_seq ?_
        refine sx_seq ?_
        refine sx_region (E := E) ?_
        refine so_move rfl rfl rfl ?_
        refine so_move rfl rfl rfl ?_
        refine so_bin rfl rfl rfl rfl (by first | exact bin_neq_f (by first | rfl | assumption | omega) | exact bin_neq_t (by first | rfl | assumption | omega)) ?_
        refine so_move rfl rfl rfl ?_
        first | refine so_load rfl rfl rfl (by first | exact ld_ownA Try.underlying48 rfl inf48 rfl (by repeat (first | exact List.Mem.head _ | apply List.Mem.tail)) (by first | exact cellsOf_le rfl | decide | omega) (by first | exact cellsOf_all | exact take_all rfl | exact cellsOf_part rfl | rfl) | exact ld_dataA Try.underlying48 rfl inf48 rfl (by first | assumption | exact InA.add (by assumption) | exact InA.add (InA.add (by assumption))) (by assumption)) ?_ | refine so_skip rfl rfl rfl ?_
        first | refine so_load rfl rfl rfl (by first | exact ld_ownA Try.underlying48 rfl inf48 rfl (by repeat (first | exact List.Mem.head _ | apply List.Mem.tail)) (by first | exact cellsOf_le rfl | decide | omega) (by first | exact cellsOf_all | exact take_all rfl | exact cellsOf_part rfl | rfl) | exact ld_dataA Try.underlying48 rfl inf48 rfl (by first | assumption | exact InA.add (by assumption) | exact InA.add (InA.add (by assumption))) (by assumption)) ?_ | refine so_skip rfl rfl rfl ?_
        first | refine so_call rfl rfl (fun h => nomatch h) rfl has9 (by repeat (first | exact Opvs.nil | apply Opvs.cons rfl)) (fun H hH => sameEdit_ok hH.lt (CellsA.gr hH.gr _ _ _ (CellsA.gr g15 _ _ _ hy1)) (CellsA.gr hH.gr _ _ _ hy3)) ?_ | refine so_skip rfl rfl rfl ?_
        first | refine so_not rfl rfl rfl rfl ?_ | refine so_skip rfl rfl rfl ?_
        first | refine so_pick_t rfl rfl rfl rfl ?_ | refine so_pick_f rfl rfl rfl rfl ?_
        refine so_then ?_
        refine sx_false rfl ?_
        refine sx_skip ?_
        refine sk_then ?_
        refine sx_seq ?_
        rcases Nat.eq_zero_or_pos bl.length with hb0 | hb0
        · skip
          refine sx_region (E := E) ?_
          refine so_fieldO (o' := 84) rfl rfl rfl Try.underlying51 rfl inf49 rfl rfl ?_
          refine so_load rfl rfl rfl (by first | exact ld_own Try.underlying49 rfl (by repeat (first | exact List.Mem.head _ | apply List.Mem.tail)) (by first | exact (cellsOf_get rfl).trans (congrArg some hb84) | exact cellsOf_get rfl | rfl) | exact ld_data Try.underlying49 rfl (by first | assumption | exact InA.add (by assumption) | exact InA.add (InA.add (by assumption))) (by assumption)) ?_
          refine so_lenL rfl rfl rfl rfl rfl rfl Try.underlying49 ?_
          refine so_bin rfl rfl rfl rfl (by first | exact bin_gtr_t (by omega) | exact bin_gtr_f (by omega)) ?_
          refine so_move rfl rfl rfl ?_
          by_cases he1 : e1 = 0
          · skip
            try subst he1
            try have hpl := fillS_plain (by rw [hrb]; exact List.eq_nil_of_length_eq_zero hb0) hs1
            first | refine so_move rfl rfl rfl ?_ | refine so_skip rfl rfl rfl ?_
            first | refine so_bin rfl rfl rfl rfl (by first | exact bin_neq_f (by first | rfl | assumption | omega) | exact bin_neq_t (by first | rfl | assumption | omega)) ?_ | refine so_skip rfl rfl rfl ?_
            first | refine so_pick_t rfl rfl rfl rfl ?_ | refine so_pick_f rfl rfl rfl rfl ?_
            refine so_move rfl rfl rfl ?_
            first | refine so_load rfl rfl rfl (by first | exact ld_ownA Try.underlying48 rfl inf48 rfl (by repeat (first | exact List.Mem.head _ | apply List.Mem.tail)) (by first | exact cellsOf_le rfl | decide | omega) (by first | exact cellsOf_all | exact take_all rfl | exact cellsOf_part rfl | rfl) | exact ld_dataA Try.underlying48 rfl inf48 rfl (by first | assumption | exact InA.add (by assumption) | exact InA.add (InA.add (by assumption))) (by assumption)) ?_ | refine so_skip rfl rfl rfl ?_
            first | refine so_fieldO (o' := 0) rfl rfl rfl Try.underlying51 rfl inf48 rfl rfl ?_ | refine so_skip rfl rfl rfl ?_
            first | refine so_load rfl rfl rfl (by first | exact ld_ownA Try.underlying48 rfl inf48 rfl (by repeat (first | exact List.Mem.head _ | apply List.Mem.tail)) (by first | exact cellsOf_le rfl | decide | omega) (by first | exact cellsOf_all | exact take_all rfl | exact cellsOf_part rfl | rfl) | exact ld_dataA Try.underlying48 rfl inf48 rfl (by first | assumption | exact InA.add (by assumption) | exact InA.add (InA.add (by assumption))) (by assumption)) ?_ | refine so_skip rfl rfl rfl ?_
            first | refine so_call rfl rfl (fun h => nomatch h) rfl has9 (by repeat (first | exact Opvs.nil | apply Opvs.cons rfl)) (fun H hH => sameEdit_ok hH.lt (CellsA.gr hH.gr _ _ _ (CellsA.gr g15 _ _ _ (hpl ▸ hy1))) (CellsA.gr hH.gr _ _ _ (CellsA.gr g15 _ _ _ ((pts_edit px1).cells (n := 84) rfl)))) ?_ | refine so_skip rfl rfl rfl ?_
            first | refine so_pick_t rfl rfl rfl rfl ?_ | refine so_pick_f rfl rfl rfl rfl ?_
            refine so_move rfl rfl rfl ?_
            first | refine so_call rfl rfl (fun h => nomatch h) rfl has10 (by repeat (first | exact Opvs.nil | apply Opvs.cons rfl)) (fun H hH => example_ok H) ?_ | refine so_skip rfl rfl rfl ?_
            first | refine so_pick_t rfl rfl rfl rfl ?_ | refine so_pick_f rfl rfl rfl rfl ?_
            refine so_assign rfl rfl rfl ?_
            refine so_then ?_
            refine sx_ret ?_
            refine sk_return1 (.tmp rfl .nil) ?_
            exact fun H hH => ⟨rfl, hH.kept⟩
          · skip
            first | refine so_move rfl rfl rfl ?_ | refine so_skip rfl rfl rfl ?_
            first | refine so_bin rfl rfl rfl rfl (by first | exact bin_neq_f (by first | rfl | assumption | omega) | exact bin_neq_t (by first | rfl | assumption | omega)) ?_ | refine so_skip rfl rfl rfl ?_
            first | refine so_pick_t rfl rfl rfl rfl ?_ | refine so_pick_f rfl rfl rfl rfl ?_
            refine so_move rfl rfl rfl ?_
            first | refine so_load rfl rfl rfl (by first | exact ld_ownA Try.underlying48 rfl inf48 rfl (by repeat (first | exact List.Mem.head _ | apply List.Mem.tail)) (by first | exact cellsOf_le rfl | decide | omega) (by first | exact cellsOf_all | exact take_all rfl | exact cellsOf_part rfl | rfl) | exact ld_dataA Try.underlying48 rfl inf48 rfl (by first | assumption | exact InA.add (by assumption) | exact InA.add (InA.add (by assumption))) (by assumption)) ?_ | refine so_skip rfl rfl rfl ?_
            first | refine so_fieldO (o' := 0) rfl rfl rfl Try.underlying51 rfl inf48 rfl rfl ?_ | refine so_skip rfl rfl rfl ?_
            first | refine so_load rfl rfl rfl (by first | exact ld_ownA Try.underlying48 rfl inf48 rfl (by repeat (first | exact List.Mem.head _ | apply List.Mem.tail)) (by first | exact cellsOf_le rfl | decide | omega) (by first | exact cellsOf_all | exact take_all rfl | exact cellsOf_part rfl | rfl) | exact ld_dataA Try.underlying48 rfl inf48 rfl (by first | assumption | exact InA.add (by assumption) | exact InA.add (InA.add (by assumption))) (by assumption)) ?_ | refine so_skip rfl rfl rfl ?_
            first | refine so_call rfl rfl (fun h => nomatch h) rfl has9 (by repeat (first | exact Opvs.nil | apply Opvs.cons rfl)) (fun H hH => sameEdit_ok hH.lt (CellsA.gr hH.gr _ _ _ (CellsA.gr g15 _ _ _ (hpl ▸ hy1))) (CellsA.gr hH.gr _ _ _ (CellsA.gr g15 _ _ _ ((pts_edit px1).cells (n := 84) rfl)))) ?_ | refine so_skip rfl rfl rfl ?_
            first | refine so_pick_t rfl rfl rfl rfl ?_ | refine so_pick_f rfl rfl rfl rfl ?_
            refine so_move rfl rfl rfl ?_
            first | refine so_call rfl rfl (fun h => nomatch h) rfl has10 (by repeat (first | exact Opvs.nil | apply Opvs.cons rfl)) (fun H hH => example_ok H) ?_ | refine so_skip rfl rfl rfl ?_
            first | refine so_pick_t rfl rfl rfl rfl ?_ | refine so_pick_f rfl rfl rfl rfl ?_
            refine so_assign rfl rfl rfl ?_
            refine so_then ?_
            refine sx_ret ?_
            refine sk_return1 (.tmp rfl .nil) ?_
            exact fun H hH => ⟨rfl, hH.kept⟩
        · skip
          refine sx_region (E := E) ?_
          refine so_fieldO (o' := 84) rfl rfl rfl Try.underlying51 rfl inf49 rfl rfl ?_
          refine so_load rfl rfl rfl (by first | exact ld_own Try.underlying49 rfl (by repeat (first | exact List.Mem.head _ | apply List.Mem.tail)) (by first | exact (cellsOf_get rfl).trans (congrArg some hb84) | exact cellsOf_get rfl | rfl) | exact ld_data Try.underlying49 rfl (by first | assumption | exact InA.add (by assumption) | exact InA.add (InA.add (by assumption))) (by assumption)) ?_
          refine so_lenL rfl rfl rfl rfl rfl rfl Try.underlying49 ?_
          refine so_bin rfl rfl rfl rfl (by first | exact bin_gtr_t (by omega) | exact bin_gtr_f (by omega)) ?_
          refine so_move rfl rfl rfl ?_
          by_cases he1 : e1 = 0
          · skip
            try subst he1
            try have hpl := fillS_plain (by rw [hrb]; exact List.eq_nil_of_length_eq_zero hb0) hs1
            first | refine so_move rfl rfl rfl ?_ | refine so_skip rfl rfl rfl ?_
            first | refine so_bin rfl rfl rfl rfl (by first | exact bin_neq_f (by first | rfl | assumption | omega) | exact bin_neq_t (by first | rfl | assumption | omega)) ?_ | refine so_skip rfl rfl rfl ?_
            first | refine so_pick_t rfl rfl rfl rfl ?_ | refine so_pick_f rfl rfl rfl rfl ?_
            refine so_move rfl rfl rfl ?_
            first | refine so_load rfl rfl rfl (by first | exact ld_ownA Try.underlying48 rfl inf48 rfl (by repeat (first | exact List.Mem.head _ | apply List.Mem.tail)) (by first | exact cellsOf_le rfl | decide | omega) (by first | exact cellsOf_all | exact take_all rfl | exact cellsOf_part rfl | rfl) | exact ld_dataA Try.underlying48 rfl inf48 rfl (by first | assumption | exact InA.add (by assumption) | exact InA.add (InA.add (by assumption))) (by assumption)) ?_ | refine so_skip rfl rfl rfl ?_
            first | refine so_fieldO (o' := 0) rfl rfl rfl Try.underlying51 rfl inf48 rfl rfl ?_ | refine so_skip rfl rfl rfl ?_
            first | refine so_load rfl rfl rfl (by first | exact ld_ownA Try.underlying48 rfl inf48 rfl (by repeat (first | exact List.Mem.head _ | apply List.Mem.tail)) (by first | exact cellsOf_le rfl | decide | omega) (by first | exact cellsOf_all | exact take_all rfl | exact cellsOf_part rfl | rfl) | exact ld_dataA Try.underlying48 rfl inf48 rfl (by first | assumption | exact InA.add (by assumption) | exact InA.add (InA.add (by assumption))) (by assumption)) ?_ | refine so_skip rfl rfl rfl ?_
            first | refine so_call rfl rfl (fun h => nomatch h) rfl has9 (by repeat (first | exact Opvs.nil | apply Opvs.cons rfl)) (fun H hH => sameEdit_ok hH.lt (CellsA.gr hH.gr _ _ _ (CellsA.gr g15 _ _ _ (hpl ▸ hy1))) (CellsA.gr hH.gr _ _ _ (CellsA.gr g15 _ _ _ ((pts_edit px1).cells (n := 84) rfl)))) ?_ | refine so_skip rfl rfl rfl ?_
            first | refine so_pick_t rfl rfl rfl rfl ?_ | refine so_pick_f rfl rfl rfl rfl ?_
            refine so_move rfl rfl rfl ?_
            first | refine so_call rfl rfl (fun h => nomatch h) rfl has10 (by repeat (first | exact Opvs.nil | apply Opvs.cons rfl)) (fun H hH => example_ok H) ?_ | refine so_skip rfl rfl rfl ?_
            first | refine so_pick_t rfl rfl rfl rfl ?_ | refine so_pick_f rfl rfl rfl rfl ?_
            refine so_assign rfl rfl rfl ?_
            refine so_then ?_
            refine sx_ret ?_
            refine sk_return1 (.tmp rfl .nil) ?_
            exact fun H hH => ⟨rfl, hH.kept⟩
          · skip
            first | refine so_move rfl rfl rfl ?_ | refine so_skip rfl rfl rfl ?_
            first | refine so_bin rfl rfl rfl rfl (by first | exact bin_neq_f (by first | rfl | assumption | omega) | exact bin_neq_t (by first | rfl | assumption | omega)) ?_ | refine so_skip rfl rfl rfl ?_
            first | refine so_pick_t rfl rfl rfl rfl ?_ | refine so_pick_f rfl rfl rfl rfl ?_
            refine so_move rfl rfl rfl ?_
            first | refine so_load rfl rfl rfl (by first | exact ld_ownA Try.underlying48 rfl inf48 rfl (by repeat (first | exact List.Mem.head _ | apply List.Mem.tail)) (by first | exact cellsOf_le rfl | decide | omega) (by first | exact cellsOf_all | exact take_all rfl | exact cellsOf_part rfl | rfl) | exact ld_dataA Try.underlying48 rfl inf48 rfl (by first | assumption | exact InA.add (by assumption) | exact InA.add (InA.add (by assumption))) (by assumption)) ?_ | refine so_skip rfl rfl rfl ?_
            first | refine so_fieldO (o' := 0) rfl rfl rfl Try.underlying51 rfl inf48 rfl rfl ?_ | refine so_skip rfl rfl rfl ?_
            first | refine so_load rfl rfl rfl (by first | exact ld_ownA Try.underlying48 rfl inf48 rfl (by repeat (first | exact List.Mem.head _ | apply List.Mem.tail)) (by first | exact cellsOf_le rfl | decide | omega) (by first | exact cellsOf_all | exact take_all rfl | exact cellsOf_part rfl | rfl) | exact ld_dataA Try.underlying48 rfl inf48 rfl (by first | assumption | exact InA.add (by assumption) | exact InA.add (InA.add (by assumption))) (by assumption)) ?_ | refine so_skip rfl rfl rfl ?_
            first | refine so_call rfl rfl (fun h => nomatch h) rfl has9 (by repeat (first | exact Opvs.nil | apply Opvs.cons rfl)) (fun H hH => sameEdit_ok hH.lt (CellsA.gr hH.gr _ _ _ (CellsA.gr g15 _ _ _ (hpl ▸ hy1))) (CellsA.gr hH.gr _ _ _ (CellsA.gr g15 _ _ _ ((pts_edit px1).cells (n := 84) rfl)))) ?_ | refine so_skip rfl rfl rfl ?_
            first | refine so_pick_t rfl rfl rfl rfl ?_ | refine so_pick_f rfl rfl rfl rfl ?_
            refine so_move rfl rfl rfl ?_
            first | refine so_call rfl rfl (fun h => nomatch h) rfl has10 (by repeat (first | exact Opvs.nil | apply Opvs.cons rfl)) (fun H hH => example_ok H) ?_ | refine so_skip rfl rfl rfl ?_
            first | refine so_pick_t rfl rfl rfl rfl ?_ | refine so_pick_f rfl rfl rfl rfl ?_
            refine so_assign rfl rfl rfl ?_
            refine so_then ?_
            refine sx_ret ?_
            refine sk_return1 (.tmp rfl .nil) ?_
            exact fun H hH => ⟨rfl, hH.kept⟩
  · skip
    obtain ⟨qa, us, d, rfl, ia, hca, la, ka⟩ := ra1.at' j (by omega)
    obtain ⟨u, n, rfl, rfl, hu, hn⟩ := arg2 ka
    refine sx_region (E := E) ?_
    refine so_move rfl rfl rfl ?_
    refine so_bin rfl rfl rfl rfl (by first | exact bin_geq_t (a := ((j : Nat) : Int)) (by omega) | exact bin_geq_f (a := -1) (by omega) | exact bin_geq_t (by omega) | exact bin_geq_f (by omega)) ?_
    refine so_then ?_
    refine sx_true rfl ?_
    refine sx_skip ?_
    refine sk_then ?_
    refine sx_seq ?_
    refine sx_block ?_
    refine sx_region (E := E) ?_
    refine so_move rfl rfl rfl ?_
    refine so_move rfl rfl rfl ?_
    refine so_move rfl rfl rfl ?_
    first | refine so_indexO rfl rfl rfl rfl Try.underlying52 inf73 rfl (by omega) rfl ?_ | refine so_index rfl rfl rfl rfl Try.underlying52 inf73 rfl (by omega) ?_
    refine so_load rfl rfl rfl (by first | exact ld_ownA Try.underlying73 rfl inf73 rfl (by repeat (first | exact List.Mem.head _ | apply List.Mem.tail)) (by first | exact cellsOf_le rfl | decide | omega) (by first | exact cellsOf_all | exact take_all rfl | exact cellsOf_part rfl | rfl) | exact ld_dataA Try.underlying73 rfl inf73 rfl (by first | assumption | exact InA.add (by assumption) | exact InA.add (InA.add (by assumption))) (by assumption)) ?_
    refine so_buildSlice (out := [.string u, .int .i64 n]) (s := 2) rfl rfl (fun h => nomatch h) (by repeat (first | exact Opps.nil | apply Opps.cons rfl)) Try.underlying52 inf73 rfl rfl (by kernel_rfl) rfl rfl ?_
    intro N37
    refine so_appAny (m := 1) (bt := 24) (sz := 2) (cs' := cells ++ [.string u, .int .i64 n]) (k := k + 1) rfl rfl (fun h => nomatch h) rfl rfl rfl rfl rfl Try.underlying52 Try.underlying52 rfl inf73 rfl rfl (by decide) rfl (by decide) (first_own (List.Mem.head _) rfl) (.succ .zero) hcl rfl (roomB_of (by omega)) (by omega) rfl (fun h => nomatch h) rfl ?_
    intro M2
    refine so_assign rfl rfl rfl ?_
    refine so_nil ?_
    refine sk_block ?_
    refine sk_then ?_
    refine sx_region (E := E) ?_
    refine so_move rfl rfl rfl ?_
    refine so_bin rfl rfl rfl rfl (by first | exact bin_sub (c := prevI j) (by simp only [prevI_eq]; rw [wrap64 (by omega) (by omega)]; omega) | exact bin_decr (by omega) | exact bin_sub (wrap64 (by omega) (by omega)) | exact bin_sub rfl) ?_
    refine so_assign rfl rfl rfl ?_
    refine so_nil ?_
    exact sk_round (j, k + 1, M2, false, cells ++ [.string u, .int .i64 n]) (Nat.lt_succ_self _) ⟨show j + (k + 1) = al.length by omega, by rw [List.length_append, hcl]; show k * 2 + 2 = (k + 1) * 2; omega, by rw [back_step hca]; exact rows_snoc (by rw [List.length_reverse, List.length_drop, hcl]; congr 1; omega) rfl hgM ka⟩ (by repeat (first | exact .nil | refine .cons rfl ?_)) rfl rfl (by repeat (first | exact List.nil_sublist _ | apply List.Sublist.cons_cons | apply List.Sublist.cons))

end Go.Proofs.Ytaedeadgbojmnaa
