/-
  Walks, laid by program.
-/
import Derived.Test.YtaedeadgbojmnaaC2
set_option linter.unusedVariables false
set_option linter.unusedSimpArgs false
set_option maxRecDepth 100000
namespace Go.Proofs.Ytaedeadgbojmnaa
open Go Go.AM

/-- an own row, or none -/
def ORow (ks : List Kd) (A : Nat → Prop) (H : AH) (pl : List (List CT)) (v : Value) (L1 : OL) : Prop :=
  (v = .slice none 0 0 ∧ pl = [] ∧ L1 = []) ∨ ∃ M cells ex, v = .slice (some ⟨2 * M + 1, 0, none⟩) pl.length pl.length ∧ L1 = [(M, .cells cells ks.length ex)] ∧ cells.length = pl.length * ks.length ∧ allOne cells = true ∧ ∀ (i : Nat) c, pl[i]? = some c → CellsA A H ks ((cells.drop (i * ks.length)).take ks.length) c
theorem clone_own {ks : List Kd} {A : Nat → Prop} {S H' : AH} {pl : List (List CT)} {u : Value} (hA : ∀ j, A j → j < S.nx) (hw : H'.w0 = S.w0) (h : Kept S.nx S H' ∧ Cloned A S ks pl u H' S.nx) : Kept S.nx S H' ∧ ∃ A1 L1, (∀ j, A1 j → A j ∨ (S.nx ≤ j ∧ j < H'.nx)) ∧ (∀ j, A j → A1 j) ∧ (∀ p ∈ L1, H'.tr.get p.1 = some p.2 ∧ S.nx ≤ p.1 ∧ p.1 < H'.nx ∧ ¬ A1 p.1) ∧ L1.Pairwise (fun p q => p.1 ≠ q.1) ∧ ORow ks A1 H' pl u L1 := by
  have g : Gr A S A H' := ⟨fun _ h => h, fun j hj => h.1.get j (hA j hj), hw⟩
  rcases h.2 with ⟨h1, h2⟩ | ⟨M, cells, ex, h1, h2, h3, h4, h5, h6, h7⟩
  · exact ⟨h.1, A, [], fun j hj => .inl hj, fun j hj => hj, (fun p hp => by cases hp), List.Pairwise.nil, .inl ⟨h1, h2, rfl⟩⟩
  · refine ⟨h.1, A, [(M, .cells cells ks.length ex)], fun j hj => .inl hj, fun j hj => hj, fun p hp => ?_, List.pairwise_singleton .., .inr ⟨M, cells, ex, h1, rfl, h5, h6, fun i c hc => CellsA.gr g _ _ _ (h7 i c hc)⟩⟩
    rw [List.mem_singleton] at hp; subst hp
    exact ⟨h2, h3, h4, fun hA' => by have := hA M hA'; omega⟩
theorem node_only {i : Nat} (hi : only 35 i = false) (hin : 8 ≤ i ∧ i < 8 + 43) : only 27 (i - 8) = false := by
  cases hq : only 27 (i - 8) with
  | false => rfl
  | true =>
    have h9 : i - 8 = 27 := Nat.eq_of_beq_eq_true hq
    have h8 : i = 35 := by omega
    rw [h8] at hi; cases hi
def two (a b : Nat) : Nat → Bool := fun i => Nat.beq i a || Nat.beq i b
/-- an element of a row with another third cell of the same content -/
theorem dyn_set {A A' : Nat → Prop} {H H' : AH} {cells : List Value} {n k : Nat} {dl : List (List CT)} {u : Value} {c : List CT} {cv : CT} (g : Gr A H A' H') (hl : cells.length = n * 3) (hn : n = dl.length) (hk : k < n) (h : ∀ (i : Nat) c, dl[i]? = some c → CellsA A H k102 ((cells.drop (i * 3)).take 3) c) (hc : dl[k]? = some c) (hcv : c[2]? = some cv)
    (hu : CellA A' H' (.row 16 k104) u cv) : ∀ (i : Nat) c, dl[i]? = some c → CellsA A' H' k102 (((cells.take (k * 3 + 2) ++ ([u] ++ cells.drop (k * 3 + 2 + 1))).drop (i * 3)).take 3) c := by
  intro i c' hc'
  have hi : i < n := by rw [hn]; exact lt_of_getElem? hc'
  have h1 := (CellsA.gr g _ _ _ (h i c' hc'))
  obtain ⟨q1, q2⟩ := h1.len
  have hlen : (cells.take (k * 3 + 2) ++ ([u] ++ cells.drop (k * 3 + 2 + 1))).length = n * 3 := by simp; omega
  have hget : ∀ j, (cells.take (k * 3 + 2) ++ ([u] ++ cells.drop (k * 3 + 2 + 1)))[j]? = if j = k * 3 + 2 then some u else cells[j]? := by
    intro j
    by_cases e1 : j < k * 3 + 2
    · rw [List.getElem?_append_left (by simp; omega), List.getElem?_take, if_pos e1, if_neg (by omega)]
    · rw [List.getElem?_append_right (by simp; omega)]
      simp only [List.length_take, Nat.min_eq_left (show k * 3 + 2 ≤ cells.length by omega)]
      by_cases e2 : j = k * 3 + 2
      · subst e2; simp
      · rw [if_neg e2, List.getElem?_append_right (by simp; omega), List.getElem?_drop]
        congr 1; simp; omega
  refine CellsA.mk (by simp only [List.length_take, List.length_drop, hlen]; show min 3 (n * 3 - i * 3) = 3; omega) q2 fun j kd x d e1 e2 e3 => ?_
  have hj : j < 3 := lt_of_getElem? e1
  rw [List.getElem?_take, if_pos hj, List.getElem?_drop, hget] at e2
  by_cases e : i * 3 + j = k * 3 + 2
  · obtain rfl : i = k := by omega
    obtain rfl : j = 2 := by omega
    rw [if_pos rfl] at e2
    rw [hc] at hc'; cases hc'
    rw [hcv] at e3
    cases e2; cases e3; cases e1
    exact hu
  · rw [if_neg e] at e2
    exact h1.at e1 (by rw [List.getElem?_take, if_pos hj, List.getElem?_drop]; exact e2) e3
set_option maxHeartbeats 1000000 in
theorem cloneEdit_ok {S : AH} {A : Nat → Prop} (hA : ∀ j, A j → j < S.nx) {x : Nat → Value} {c : Nat → CT} (px0 : Pts A S k48 x c) {pl : List (List CT)} (epl : c 35 = .row pl) : XCall Try.prog 21 [.agg ⟨cellsOf 84 x⟩] S (CloneR k48 84 35 c pl A S) := by
  obtain ⟨r2, _, _, er2, _, _⟩ := (px0 53 _ rfl).rowD
  obtain ⟨r3, _, _, er3, _, _⟩ := (px0 56 _ rfl).rowD
  obtain ⟨dl, _, _, edl, _, rdl⟩ := (px0 71 _ rfl).rowD
  obtain ⟨r10, _, _, er10, _, _⟩ := (px0 73 _ rfl).rowD
  have hdn := rdl.len
  have hdb := rdl.bytes
  have px := px0.toX (only 35)
  have gA := Gr.refl A S
  refine x_enter (E := E) (n := 53) (rs := [.cell 2 48]) (l := [(0, _)]) (fn_own Try.func21 rfl rfl rfl) hA rfl ?_
  refine sx_seq ?_
  refine sx_region (E := E) ?_
  refine so_boxA rfl rfl (fun h => nomatch h) rfl ?_
  intro N1
  refine so_alloc (cs := (.int .i64 0 :: .int .i64 0 :: .int .i64 0 :: .int .i64 0 :: .int .i64 0 :: .int .i64 0 :: .string ⟨#[]⟩ :: .string ⟨#[]⟩ :: .int .i64 0 :: .int .i64 0 :: .int .i64 0 :: .string ⟨#[]⟩ :: .bool false :: .bool false :: .bool false :: .int .i64 0 :: .int .i64 0 :: .int .i64 0 :: .int .i64 0 :: .slice none 0 0 :: .int .i64 0 :: .int .i64 0 :: .int .i64 0 :: .int .i64 0 :: .int .i64 0 :: .int .i64 0 :: .int .i64 0 :: .int .i64 0 :: .int .i64 0 :: .slice none 0 0 :: .int .i64 0 :: .int .i64 0 :: .int .i64 0 :: .int .i64 0 :: .int .i64 0 :: .slice none 0 0 :: .int .i64 0 :: .slice none 0 0 :: .slice none 0 0 :: .int .i64 0 :: .int .i64 0 :: .int .i64 0 :: .int .i64 0 :: .string ⟨#[]⟩ :: .int .i64 0 :: .int .i64 0 :: .int .i64 0 :: .int .i64 0 :: .int .i64 0 :: .int .i64 0 :: .slice none 0 0 :: .int .i64 0 :: .int .i64 0 :: .slice none 0 0 :: .int .i64 0 :: .int .i64 0 :: .slice none 0 0 :: .int .i64 0 :: .int .i64 0 :: .int .i64 0 :: .int .i64 0 :: .int .i64 0 :: .int .i64 0 :: .int .i64 0 :: .int .i64 0 :: .int .i64 0 :: .int .i64 0 :: .int .i64 0 :: .int .i64 0 :: .int .i64 0 :: .int .i64 0 :: .slice none 0 0 :: .bool false :: .slice none 0 0 :: .int .i64 0 :: .int .i64 0 :: .int .i64 0 :: .int .i64 0 :: .int .i64 0 :: .int .i64 0 :: .int .i64 0 :: .int .i64 0 :: .int .i64 0 :: .int .i64 0 :: [])) rfl rfl (fun h => nomatch h) inf48 rfl rfl ?_
  intro N2
  refine so_then ?_
  refine sx_seq ?_
  refine sx_region (E := E) ?_
  refine so_fieldO (o' := 8) rfl rfl rfl Try.underlying48 rfl inf38 rfl rfl ?_
  refine so_load rfl rfl rfl (by first | exact ld_ownA Try.underlying38 rfl inf38 rfl (by repeat (first | exact List.Mem.head _ | apply List.Mem.tail)) (by first | exact cellsOf_le rfl | decide | omega) (by first | exact cellsOf_all | exact take_all rfl | exact cellsOf_part rfl | rfl) | exact ld_dataA Try.underlying38 rfl inf38 rfl (by first | assumption | exact InA.add (by assumption) | exact InA.add (InA.add (by assumption))) (by assumption)) ?_
  refine so_callL (CloneT k38 43 27 (fun i => c (8 + i)) pl) rfl rfl (fun h => nomatch h) rfl has34 (by repeat (first | exact Opvs.nil | apply Opvs.cons rfl)) (fun H hH => cloneNode_ok hH.lt ((px0.shift 8 43).gr (gA.trans hH.gr)) epl) ?_
  intro u1 H1 A1 L1 g1 hT
  obtain ⟨y, rfl, py, hpk⟩ := hT
  replace px := px.gr g1
  replace gA := gA.trans g1
  have hps := hpk
  rcases hps with ⟨hv3, hpl0, rfl⟩ | ⟨M, cells, ex, hv3, rfl, hcl, hone, hce⟩
  · skip
    refine so_fieldO (o' := 8) rfl rfl rfl Try.underlying48 rfl inf38 rfl rfl ?_
    refine so_storeA rfl (fun h => nomatch h) rfl rfl inf38 (by first | exact cellsOf_length _ _ | rfl) (py.one rfl (fun i hi => by have h9 : i = 27 := Nat.eq_of_beq_eq_true hi; subst h9; rw [hv3]; rfl)) (by repeat (first | exact .zero | apply Upd.succ)) (by first | exact cellsOf_set rfl | exact cellsOf_setr rfl | exact cellsOf_store rfl | exact store_all rfl | rfl) (by first | exact cellsOf_in rfl rfl | exact cellsOf_in rfl (cellsOf_length _ _) | exact cellsOf_le rfl | exact Nat.le_of_ble_eq_true rfl | omega) (fun h => nomatch h) ?_
    replace px := px.setr (m := 43) (ex2 := only 35) py rfl (fun i hi => ⟨fun _ => hi, fun hin => node_only hi hin⟩)
    refine so_then ?_
    refine sx_seq ?_
    refine sx_region (E := E) ?_
    refine so_fieldO (o' := 51) rfl rfl rfl Try.underlying48 rfl inf24 rfl rfl ?_
    refine so_fieldO (o' := 53) rfl rfl rfl Try.underlying24 rfl inf22 rfl rfl ?_
    refine so_load rfl rfl rfl (by first | exact ld_own Try.underlying22 rfl (by repeat (first | exact List.Mem.head _ | apply List.Mem.tail)) (by first | exact (cellsOf_get rfl).trans (congrArg some hv4) | exact cellsOf_get rfl | rfl) | exact ld_data Try.underlying22 rfl (by first | assumption | exact InA.add (by assumption) | exact InA.add (InA.add (by assumption))) (by assumption)) ?_
    refine so_callF (fun u H' A' => CellA A' H' (.row 8 [.int .i64]) u (.row r2)) rfl rfl (fun h => nomatch h) rfl has35 (by repeat (first | exact Opvs.nil | apply Opvs.cons rfl)) (fun H hH => cloneD35_ok hH.lt (by rw [← er2]; exact CellA.gr hH.gr _ _ _ (px 53 _ rfl rfl))) ?_
    intro u2 H2 A2 g2 hu2
    replace px := px.gr g2
    replace gA := gA.trans g2
    try replace hpk := hpk.gr g2
    refine so_fieldO (o' := 51) rfl rfl rfl Try.underlying48 rfl inf24 rfl rfl ?_
    refine so_fieldO (o' := 53) rfl rfl rfl Try.underlying24 rfl inf22 rfl rfl ?_
    refine so_storeS rfl (fun h => nomatch h) rfl rfl inf22 rfl (CellA.one hu2) (by repeat (first | exact .zero | apply Upd.succ)) (by first | exact cellsOf_set rfl | exact cellsOf_setr rfl | exact cellsOf_store rfl | exact store_all rfl | rfl) (by first | exact cellsOf_in rfl rfl | exact cellsOf_in rfl (cellsOf_length _ _) | exact cellsOf_le rfl | exact Nat.le_of_ble_eq_true rfl | omega) (fun h => nomatch h) ?_
    replace px := px.updR (o := 53) (v := u2) rfl (by rw [er2]; exact hu2)
    refine so_then ?_
    refine sx_seq ?_
    refine sx_region (E := E) ?_
    refine so_fieldO (o' := 54) rfl rfl rfl Try.underlying48 rfl inf29 rfl rfl ?_
    refine so_fieldO (o' := 56) rfl rfl rfl Try.underlying29 rfl inf27 rfl rfl ?_
    refine so_load rfl rfl rfl (by first | exact ld_own Try.underlying27 rfl (by repeat (first | exact List.Mem.head _ | apply List.Mem.tail)) (by first | exact (cellsOf_get rfl).trans (congrArg some hv4) | exact cellsOf_get rfl | rfl) | exact ld_data Try.underlying27 rfl (by first | assumption | exact InA.add (by assumption) | exact InA.add (InA.add (by assumption))) (by assumption)) ?_
    refine so_callF (fun u H' A' => CellA A' H' (.row 32 k31) u (.row r3)) rfl rfl (fun h => nomatch h) rfl has36 (by repeat (first | exact Opvs.nil | apply Opvs.cons rfl)) (fun H hH => cloneD36_ok hH.lt (by rw [← er3]; exact CellA.gr hH.gr _ _ _ (px 56 _ rfl rfl))) ?_
    intro u3 H3 A3 g3 hu3
    replace px := px.gr g3
    replace gA := gA.trans g3
    try replace hpk := hpk.gr g3
    refine so_fieldO (o' := 54) rfl rfl rfl Try.underlying48 rfl inf29 rfl rfl ?_
    refine so_fieldO (o' := 56) rfl rfl rfl Try.underlying29 rfl inf27 rfl rfl ?_
    refine so_storeS rfl (fun h => nomatch h) rfl rfl inf27 rfl (CellA.one hu3) (by repeat (first | exact .zero | apply Upd.succ)) (by first | exact cellsOf_set rfl | exact cellsOf_setr rfl | exact cellsOf_store rfl | exact store_all rfl | rfl) (by first | exact cellsOf_in rfl rfl | exact cellsOf_in rfl (cellsOf_length _ _) | exact cellsOf_le rfl | exact Nat.le_of_ble_eq_true rfl | omega) (fun h => nomatch h) ?_
    replace px := px.updR (o := 56) (v := u3) rfl (by rw [er3]; exact hu3)
    refine so_then ?_
    refine sx_seq ?_
    refine sx_region (E := E) ?_
    refine so_fieldO (o' := 57) rfl rfl rfl Try.underlying48 rfl inf41 rfl rfl ?_
    refine so_fieldO (o' := 71) rfl rfl rfl Try.underlying41 rfl inf39 rfl rfl ?_
    refine so_load rfl rfl rfl (by first | exact ld_own Try.underlying39 rfl (by repeat (first | exact List.Mem.head _ | apply List.Mem.tail)) (by first | exact (cellsOf_get rfl).trans (congrArg some hv4) | exact cellsOf_get rfl | rfl) | exact ld_data Try.underlying39 rfl (by first | assumption | exact InA.add (by assumption) | exact InA.add (InA.add (by assumption))) (by assumption)) ?_
    refine so_callL (fun u H' A1 L1 => ORow k102 A1 H' dl u L1) rfl rfl (fun h => nomatch h) rfl has37 (by repeat (first | exact Opvs.nil | apply Opvs.cons rfl)) (fun H hH => (clone37_ok hH.lt (by rw [← edl]; exact CellA.gr hH.gr _ _ _ (px 71 _ rfl rfl))).mono fun u H2 hw h => clone_own hH.lt hw h) ?_
    intro u4 H4 A4 L4 g4 hd4
    replace px := px.gr g4
    replace gA := gA.trans g4
    replace hpk := hpk.gr g4
    rcases hd4 with ⟨hv4, hdl0, rfl⟩ | ⟨Md, dcells, dex, hv4, rfl, hdl, hdo, hdc⟩
    · skip
      refine so_fieldO (o' := 57) rfl rfl rfl Try.underlying48 rfl inf41 rfl rfl ?_
      refine so_fieldO (o' := 71) rfl rfl rfl Try.underlying41 rfl inf39 rfl rfl ?_
      refine so_storeS rfl (fun h => nomatch h) rfl rfl inf39 rfl (by rw [hv4]; rfl) (by repeat (first | exact .zero | apply Upd.succ)) (by first | exact cellsOf_set rfl | exact cellsOf_setr rfl | exact cellsOf_store rfl | exact store_all rfl | rfl) (by first | exact cellsOf_in rfl rfl | exact cellsOf_in rfl (cellsOf_length _ _) | exact cellsOf_le rfl | exact Nat.le_of_ble_eq_true rfl | omega) (fun h => nomatch h) ?_
      first | replace px := px.updR (o := 71) (v := u4) (k := .row 40 k102) rfl (by rw [edl, hdl0, hv4]; simp only [CellA]; exact ⟨by simp, by simp, .inl ⟨trivial, trivial⟩⟩) | replace px := (px.weaken (ex2 := two 35 71) (fun i h => by simp only [two, Bool.or_eq_false_iff] at h; exact h.1)).updE (o := 71) (v := u4) rfl
      refine so_then ?_
      refine sx_seq ?_
      refine sx_seq ?_
      refine sx_region (E := E) ?_
      refine so_fieldO (o' := 57) rfl rfl rfl Try.underlying48 rfl inf41 rfl rfl ?_
      refine so_fieldO (o' := 71) rfl rfl rfl Try.underlying41 rfl inf39 rfl rfl ?_
      refine so_load rfl rfl rfl (by first | exact ld_own Try.underlying39 rfl (by repeat (first | exact List.Mem.head _ | apply List.Mem.tail)) (by first | exact (cellsOf_get rfl).trans (congrArg some hv4) | exact cellsOf_get rfl | rfl) | exact ld_data Try.underlying39 rfl (by first | assumption | exact InA.add (by assumption) | exact InA.add (InA.add (by assumption))) (by assumption)) ?_
      refine so_lenL rfl rfl rfl rfl rfl rfl Try.underlying39 ?_
      refine so_move rfl rfl rfl ?_
      refine so_then ?_
      refine sx_block ?_
      refine sx_loop (σ := Nat) (fun k => k) (fun k => [(1, .pointer (some ⟨2 * N1 + 1, 0, none⟩)), (2, .pointer (some ⟨2 * N2 + 1, 0, none⟩)), (29, .int .i64 ((0 : Nat) : Int)), (30, .int .i64 ((k : Nat) : Int))]) (fun _ => H4) (fun _ => A4) (fun _ => [(N2, .cells (.int .i64 0 :: .int .i64 0 :: .int .i64 0 :: .int .i64 0 :: .int .i64 0 :: .int .i64 0 :: .string ⟨#[]⟩ :: .string ⟨#[]⟩ :: .int .i64 0 :: .int .i64 0 :: .int .i64 0 :: .string ⟨#[]⟩ :: .bool false :: .bool false :: .bool false :: .int .i64 0 :: .int .i64 0 :: .int .i64 0 :: .int .i64 0 :: .slice none 0 0 :: .int .i64 0 :: .int .i64 0 :: .int .i64 0 :: .int .i64 0 :: .int .i64 0 :: .int .i64 0 :: .int .i64 0 :: .int .i64 0 :: .int .i64 0 :: .slice none 0 0 :: .int .i64 0 :: .int .i64 0 :: .int .i64 0 :: .int .i64 0 :: .int .i64 0 :: .slice none 0 0 :: .int .i64 0 :: .slice none 0 0 :: .slice none 0 0 :: .int .i64 0 :: .int .i64 0 :: .int .i64 0 :: .int .i64 0 :: .string ⟨#[]⟩ :: .int .i64 0 :: .int .i64 0 :: .int .i64 0 :: .int .i64 0 :: .int .i64 0 :: .int .i64 0 :: .slice none 0 0 :: .int .i64 0 :: .int .i64 0 :: .slice none 0 0 :: .int .i64 0 :: .int .i64 0 :: .slice none 0 0 :: .int .i64 0 :: .int .i64 0 :: .int .i64 0 :: .int .i64 0 :: .int .i64 0 :: .int .i64 0 :: .int .i64 0 :: .int .i64 0 :: .int .i64 0 :: .int .i64 0 :: .int .i64 0 :: .int .i64 0 :: .int .i64 0 :: .int .i64 0 :: .slice none 0 0 :: .bool false :: .slice none 0 0 :: .int .i64 0 :: .int .i64 0 :: .int .i64 0 :: .int .i64 0 :: .int .i64 0 :: .int .i64 0 :: .int .i64 0 :: .int .i64 0 :: .int .i64 0 :: .int .i64 0 :: []) (boxsz E 48) true), (N1, .cells (cellsOf 84 (upd1 (upd1 (upd1 (updr x 8 43 y) 53 u2) 56 u3) 71 u4)) (boxsz E 48) true)]) (fun k => k = 0) (0) (rfl) (by repeat (first | exact .nil | refine .cons rfl ?_)) rfl rfl (by repeat (first | exact List.nil_sublist _ | apply List.Sublist.cons_cons | apply List.Sublist.cons)) ?_
      intro s hJ t1
      replace hJ : s = 0 := hJ
      subst hJ
      refine sx_seq ?_
      refine sx_region (E := E) ?_
      refine so_bin rfl rfl rfl rfl (by first | exact bin_lss_t (by omega) | exact bin_lss_f (by omega)) ?_
      refine so_then ?_
      refine sx_seq ?_
      refine sx_false rfl ?_
      refine sx_exit ?_
      refine sk_then_exit ?_
      refine sk_loop_exit ?_
      refine sk_block_exit ?_
      refine sk_then ?_
      refine sx_seq ?_
      refine sx_region (E := E) ?_
      refine so_fieldO (o' := 73) rfl rfl rfl Try.underlying48 rfl inf42 rfl rfl ?_
      refine so_load rfl rfl rfl (by first | exact ld_own Try.underlying42 rfl (by repeat (first | exact List.Mem.head _ | apply List.Mem.tail)) (by first | exact (cellsOf_get rfl).trans (congrArg some hv4) | exact cellsOf_get rfl | rfl) | exact ld_data Try.underlying42 rfl (by first | assumption | exact InA.add (by assumption) | exact InA.add (InA.add (by assumption))) (by assumption)) ?_
      refine so_callF (fun u H' A' => CellA A' H' (.row 40 k85) u (.row r10)) rfl rfl (fun h => nomatch h) rfl has39 (by repeat (first | exact Opvs.nil | apply Opvs.cons rfl)) (fun H hH => cloneD39_ok hH.lt (by rw [← er10]; exact CellA.gr hH.gr _ _ _ (px 73 _ rfl rfl))) ?_
      intro u10 H10 A10 g10 hu10
      replace px := px.gr g10
      replace gA := gA.trans g10
      try replace hpk := hpk.gr g10
      refine so_fieldO (o' := 73) rfl rfl rfl Try.underlying48 rfl inf42 rfl rfl ?_
      refine so_storeS rfl (fun h => nomatch h) rfl rfl inf42 rfl (CellA.one hu10) (by repeat (first | exact .zero | apply Upd.succ)) (by first | exact cellsOf_set rfl | exact cellsOf_setr rfl | exact cellsOf_store rfl | exact store_all rfl | rfl) (by first | exact cellsOf_in rfl rfl | exact cellsOf_in rfl (cellsOf_length _ _) | exact cellsOf_le rfl | exact Nat.le_of_ble_eq_true rfl | omega) (fun h => nomatch h) ?_
      replace px := px.updR (o := 73) (v := u10) rfl (by rw [er10]; exact hu10)
      refine so_then ?_
      refine sx_seq ?_
      refine sx_region (E := E) ?_
      refine so_load rfl rfl rfl (by first | exact ld_ownA Try.underlying48 rfl inf48 rfl (by repeat (first | exact List.Mem.head _ | apply List.Mem.tail)) (by first | exact cellsOf_le rfl | decide | omega) (by first | exact cellsOf_all | exact take_all rfl | exact cellsOf_part rfl | rfl) | exact ld_dataA Try.underlying48 rfl inf48 rfl (by first | assumption | exact InA.add (by assumption) | exact InA.add (InA.add (by assumption))) (by assumption)) ?_
      refine so_storeA rfl (fun h => nomatch h) rfl rfl inf48 (by first | exact cellsOf_length _ _ | rfl) (px.one rfl (fun i hi => by have h9 : i = 35 := Nat.eq_of_beq_eq_true hi; subst h9; show (y 27).oneCell' = true; rw [hv3]; rfl)) (by repeat (first | exact .zero | apply Upd.succ)) (by first | exact cellsOf_set rfl | exact cellsOf_setr rfl | exact cellsOf_store rfl | exact store_all rfl | rfl) (by first | exact cellsOf_in rfl rfl | exact cellsOf_in rfl (cellsOf_length _ _) | exact cellsOf_le rfl | exact Nat.le_of_ble_eq_true rfl | omega) (fun h => nomatch h) ?_
      refine so_then ?_
      refine sx_ret ?_
      refine sk_return1 (.cell rfl (by first | exact ld_ownA Try.underlying48 rfl inf48 rfl (by repeat (first | exact List.Mem.head _ | apply List.Mem.tail)) (by first | exact cellsOf_le rfl | decide | omega) (by first | exact cellsOf_all | exact take_all rfl | exact cellsOf_part rfl | rfl) | exact ld_dataA Try.underlying48 rfl inf48 rfl (by first | assumption | exact InA.add (by assumption) | exact InA.add (InA.add (by assumption))) (by assumption)) .nil) ?_
      intro H hH
      refine ⟨hH.kept, _, _, (fun j hj => (hH.sub j hj).imp id fun h => ⟨h, hH.lt j hj⟩), gA.sub, ?_, ?_, _, rfl, (px.gr hH.gr), (hpk.gr hH.gr)⟩
      · intro p hp; cases hp
      · exact List.Pairwise.nil
    · skip
      refine so_fieldO (o' := 57) rfl rfl rfl Try.underlying48 rfl inf41 rfl rfl ?_
      refine so_fieldO (o' := 71) rfl rfl rfl Try.underlying41 rfl inf39 rfl rfl ?_
      refine so_storeS rfl (fun h => nomatch h) rfl rfl inf39 rfl (by rw [hv4]; rfl) (by repeat (first | exact .zero | apply Upd.succ)) (by first | exact cellsOf_set rfl | exact cellsOf_setr rfl | exact cellsOf_store rfl | exact store_all rfl | rfl) (by first | exact cellsOf_in rfl rfl | exact cellsOf_in rfl (cellsOf_length _ _) | exact cellsOf_le rfl | exact Nat.le_of_ble_eq_true rfl | omega) (fun h => nomatch h) ?_
      first | replace px := px.updR (o := 71) (v := u4) (k := .row 40 k102) rfl (by rw [edl, hdl0, hv4]; simp only [CellA]; exact ⟨by simp, by simp, .inl ⟨trivial, trivial⟩⟩) | replace px := (px.weaken (ex2 := two 35 71) (fun i h => by simp only [two, Bool.or_eq_false_iff] at h; exact h.1)).updE (o := 71) (v := u4) rfl
      refine so_then ?_
      refine sx_seq ?_
      refine sx_seq ?_
      refine sx_region (E := E) ?_
      refine so_fieldO (o' := 57) rfl rfl rfl Try.underlying48 rfl inf41 rfl rfl ?_
      refine so_fieldO (o' := 71) rfl rfl rfl Try.underlying41 rfl inf39 rfl rfl ?_
      refine so_load rfl rfl rfl (by first | exact ld_own Try.underlying39 rfl (by repeat (first | exact List.Mem.head _ | apply List.Mem.tail)) (by first | exact (cellsOf_get rfl).trans (congrArg some hv4) | exact cellsOf_get rfl | rfl) | exact ld_data Try.underlying39 rfl (by first | assumption | exact InA.add (by assumption) | exact InA.add (InA.add (by assumption))) (by assumption)) ?_
      refine so_lenL rfl rfl rfl rfl rfl rfl Try.underlying39 ?_
      refine so_move rfl rfl rfl ?_
      refine so_then ?_
      refine sx_block ?_
      refine sx_loop (σ := Nat × List Value × AH × (Nat → Prop)) (fun q => dl.length - q.1) (fun q => [(1, .pointer (some ⟨2 * N1 + 1, 0, none⟩)), (2, .pointer (some ⟨2 * N2 + 1, 0, none⟩)), (29, .int .i64 ((dl.length : Nat) : Int)), (30, .int .i64 ((q.1 : Nat) : Int))]) (fun q => q.2.2.1) (fun q => q.2.2.2) (fun q => (Md, .cells q.2.1 3 dex) :: [(N2, .cells (.int .i64 0 :: .int .i64 0 :: .int .i64 0 :: .int .i64 0 :: .int .i64 0 :: .int .i64 0 :: .string ⟨#[]⟩ :: .string ⟨#[]⟩ :: .int .i64 0 :: .int .i64 0 :: .int .i64 0 :: .string ⟨#[]⟩ :: .bool false :: .bool false :: .bool false :: .int .i64 0 :: .int .i64 0 :: .int .i64 0 :: .int .i64 0 :: .slice none 0 0 :: .int .i64 0 :: .int .i64 0 :: .int .i64 0 :: .int .i64 0 :: .int .i64 0 :: .int .i64 0 :: .int .i64 0 :: .int .i64 0 :: .int .i64 0 :: .slice none 0 0 :: .int .i64 0 :: .int .i64 0 :: .int .i64 0 :: .int .i64 0 :: .int .i64 0 :: .slice none 0 0 :: .int .i64 0 :: .slice none 0 0 :: .slice none 0 0 :: .int .i64 0 :: .int .i64 0 :: .int .i64 0 :: .int .i64 0 :: .string ⟨#[]⟩ :: .int .i64 0 :: .int .i64 0 :: .int .i64 0 :: .int .i64 0 :: .int .i64 0 :: .int .i64 0 :: .slice none 0 0 :: .int .i64 0 :: .int .i64 0 :: .slice none 0 0 :: .int .i64 0 :: .int .i64 0 :: .slice none 0 0 :: .int .i64 0 :: .int .i64 0 :: .int .i64 0 :: .int .i64 0 :: .int .i64 0 :: .int .i64 0 :: .int .i64 0 :: .int .i64 0 :: .int .i64 0 :: .int .i64 0 :: .int .i64 0 :: .int .i64 0 :: .int .i64 0 :: .int .i64 0 :: .slice none 0 0 :: .bool false :: .slice none 0 0 :: .int .i64 0 :: .int .i64 0 :: .int .i64 0 :: .int .i64 0 :: .int .i64 0 :: .int .i64 0 :: .int .i64 0 :: .int .i64 0 :: .int .i64 0 :: .int .i64 0 :: []) (boxsz E 48) true), (N1, .cells (cellsOf 84 (upd1 (upd1 (upd1 (updr x 8 43 y) 53 u2) 56 u3) 71 u4)) (boxsz E 48) true)]) (fun q => q.1 ≤ dl.length ∧ q.2.1.length = dl.length * 3 ∧ (∀ (i : Nat) c, dl[i]? = some c → CellsA q.2.2.2 q.2.2.1 k102 ((q.2.1.drop (i * 3)).take 3) c) ∧ PtsX q.2.2.2 q.2.2.1 k48 (two 35 71) (upd1 (upd1 (upd1 (updr x 8 43 y) 53 u2) 56 u3) 71 u4) c ∧ PRow q.2.2.2 q.2.2.1 pl (y 27) [] ∧ Gr A S q.2.2.2 q.2.2.1) ((0, dcells, H4, A4)) (⟨Nat.zero_le _, hdl, hdc, px, hpk, gA⟩) (by repeat (first | exact .nil | refine .cons rfl ?_)) rfl rfl (by repeat (first | exact List.nil_sublist _ | apply List.Sublist.cons_cons | apply List.Sublist.cons)) ?_
      intro s hJ t1
      obtain ⟨k, dcells, H5, A5⟩ := s
      obtain ⟨hJ, hdl, hdc, px, hpk, gA⟩ := hJ
      dsimp only at hJ hdl hdc px hpk gA ⊢
      refine sx_seq ?_
      rcases Nat.lt_or_ge k dl.length with hk | hk
      · skip
        obtain ⟨ck, hck⟩ : ∃ ck, dl[k]? = some ck := ⟨_, List.getElem?_eq_getElem hk⟩
        have hek := hdc k ck hck
        obtain ⟨z, zc, ez, rfl, pz⟩ := hek.fn (n := 3) rfl
        obtain ⟨kl, _, _, ekl, _, _⟩ := (pz 2 _ rfl).rowD
        have hz2 : dcells[k * 3 + 2]? = some (z 2) := by
          have h9 := congrArg (fun l => l[2]?) ez
          simp only [List.getElem?_take, List.getElem?_drop] at h9
          rw [if_pos (by omega), cellsOf_get rfl] at h9
          exact h9
        refine sx_region (E := E) ?_
        refine so_bin rfl rfl rfl rfl (by first | exact bin_lss_t (by omega) | exact bin_lss_f (by omega)) ?_
        refine so_then ?_
        refine sx_seq ?_
        refine sx_true rfl ?_
        refine sx_skip ?_
        refine sk_then ?_
        refine sx_seq ?_
        refine sx_block ?_
        refine sx_seq ?_
        refine sx_region (E := E) ?_
        refine so_move rfl rfl rfl ?_
        refine so_assign rfl rfl rfl ?_
        refine so_then ?_
        refine sx_draw (E := E) mixed [11, 14] _ (List.sublist_cons_self _ _) (by kernel_rfl) (by kernel_rfl) (by decide) ?_
        refine so_fieldO (o' := 57) rfl rfl rfl Try.underlying48 rfl inf41 rfl rfl ?_
        refine so_fieldO (o' := 71) rfl rfl rfl Try.underlying41 rfl inf39 rfl rfl ?_
        refine so_load rfl rfl rfl (by first | exact ld_own Try.underlying39 rfl (by repeat (first | exact List.Mem.head _ | apply List.Mem.tail)) (by first | exact (cellsOf_get rfl).trans (congrArg some hv4) | exact cellsOf_get rfl | rfl) | exact ld_data Try.underlying39 rfl (by first | assumption | exact InA.add (by assumption) | exact InA.add (InA.add (by assumption))) (by assumption)) ?_
        refine so_move rfl rfl rfl ?_
        refine so_fieldO (o' := 57) rfl rfl rfl Try.underlying48 rfl inf41 rfl rfl ?_
        refine so_fieldO (o' := 71) rfl rfl rfl Try.underlying41 rfl inf39 rfl rfl ?_
        refine so_load rfl rfl rfl (by first | exact ld_own Try.underlying39 rfl (by repeat (first | exact List.Mem.head _ | apply List.Mem.tail)) (by first | exact (cellsOf_get rfl).trans (congrArg some hv4) | exact cellsOf_get rfl | rfl) | exact ld_data Try.underlying39 rfl (by first | assumption | exact InA.add (by assumption) | exact InA.add (InA.add (by assumption))) (by assumption)) ?_
        refine so_move rfl rfl rfl ?_
        refine so_indexO (s := 3) (o' := k * 3) rfl rfl rfl rfl Try.underlying39 inf102 rfl hk (Nat.zero_add _) ?_
        refine so_fieldO (o' := k * 3 + 2) rfl rfl rfl Try.underlying102 rfl inf100 rfl rfl ?_
        refine so_loado rfl rfl rfl (by kernel_rfl) (ld_own Try.underlying100 rfl (List.Mem.head _) hz2) ?_
        refine so_callF (fun u H' A' => CellA A' H' (.row 16 k104) u (.row kl)) rfl rfl (fun _ => (by repeat (first | exact List.Mem.head _ | apply List.Mem.tail))) rfl has38 (by repeat (first | exact Opvs.nil | apply Opvs.cons rfl)) (fun H hH => cloneD38_ok hH.lt (by rw [← ekl]; exact CellA.gr hH.gr _ _ _ (pz 2 _ rfl))) ?_
        intro u8 H8 A8 g8 hu8
        refine so_indexO (s := 3) (o' := k * 3) rfl rfl rfl rfl Try.underlying39 inf102 rfl hk (Nat.zero_add _) ?_
        refine so_fieldO (o' := k * 3 + 2) rfl rfl rfl Try.underlying102 rfl inf100 rfl rfl ?_
        refine so_storeS rfl (fun _ => (by repeat (first | exact List.Mem.head _ | apply List.Mem.tail))) rfl rfl inf100 rfl (CellA.one hu8) (by repeat (first | exact .zero | apply Upd.succ)) rfl (by omega) (fun _ => (by repeat (first | exact List.nil_sublist _ | apply List.Sublist.cons_cons | apply List.Sublist.cons))) ?_
        refine so_nil ?_
        refine sk_block ?_
        refine sk_then ?_
        refine sx_region (E := E) ?_
        refine so_bin rfl rfl rfl rfl (by first | exact bin_incr (by omega) | exact bin_add (wrap64 (by omega) (by omega)) | exact bin_add rfl) ?_
        refine so_move rfl rfl rfl ?_
        refine so_nil ?_
        exact sk_round (k + 1, dcells.take (k * 3 + 2) ++ ([u8] ++ dcells.drop (k * 3 + 2 + 1)), H8, A8) (show dl.length - (k + 1) < dl.length - k by omega) ⟨show k + 1 ≤ dl.length by omega, (by show (dcells.take (k * 3 + 2) ++ ([u8] ++ dcells.drop (k * 3 + 2 + 1))).length = dl.length * 3; simp; omega), dyn_set (u := u8) g8 hdl rfl hk hdc hck (ctsOf_get (by omega)) (by rw [ekl]; exact hu8), px.gr g8, hpk.gr g8, gA.trans g8⟩ (by repeat (first | exact .nil | refine .cons rfl ?_)) rfl rfl (by repeat (first | exact List.nil_sublist _ | apply List.Sublist.cons_cons | apply List.Sublist.cons))
      · skip
        refine sx_region (E := E) ?_
        refine so_bin rfl rfl rfl rfl (by first | exact bin_lss_t (by omega) | exact bin_lss_f (by omega)) ?_
        refine so_then ?_
        refine sx_seq ?_
        refine sx_false rfl ?_
        refine sx_exit ?_
        refine sk_then_exit ?_
        refine sk_loop_exit ?_
        refine sk_block_exit ?_
        refine sk_then ?_
        refine sx_seq ?_
        refine sx_freeze .zero ?_
        intro Hf Af gf hAf hgf
        replace px := (px.gr gf).back (e := 71) (k := .row 40 k102) (ex2 := only 35) rfl (by show CellA _ _ _ u4 _; rw [edl, hv4]; exact row_own hgf hAf rfl rfl (by rw [hdl]; exact Nat.le_refl _) (fun i c h => CellsA.gr gf _ _ _ (hdc i c h)) (Nat.le_refl _) hdn hdb) (fun i h1 h2 => by simp only [two, Bool.or_eq_false_iff]; exact ⟨h1, by cases hq : Nat.beq i 71 with | false => rfl | true => exact absurd (Nat.eq_of_beq_eq_true hq) h2⟩)
        replace hpk := hpk.gr gf
        replace gA := gA.trans gf
        refine sx_region (E := E) ?_
        refine so_fieldO (o' := 73) rfl rfl rfl Try.underlying48 rfl inf42 rfl rfl ?_
        refine so_load rfl rfl rfl (by first | exact ld_own Try.underlying42 rfl (by repeat (first | exact List.Mem.head _ | apply List.Mem.tail)) (by first | exact (cellsOf_get rfl).trans (congrArg some hv4) | exact cellsOf_get rfl | rfl) | exact ld_data Try.underlying42 rfl (by first | assumption | exact InA.add (by assumption) | exact InA.add (InA.add (by assumption))) (by assumption)) ?_
        refine so_callF (fun u H' A' => CellA A' H' (.row 40 k85) u (.row r10)) rfl rfl (fun h => nomatch h) rfl has39 (by repeat (first | exact Opvs.nil | apply Opvs.cons rfl)) (fun H hH => cloneD39_ok hH.lt (by rw [← er10]; exact CellA.gr hH.gr _ _ _ (px 73 _ rfl rfl))) ?_
        intro u10 H10 A10 g10 hu10
        replace px := px.gr g10
        replace gA := gA.trans g10
        try replace hpk := hpk.gr g10
        refine so_fieldO (o' := 73) rfl rfl rfl Try.underlying48 rfl inf42 rfl rfl ?_
        refine so_storeS rfl (fun h => nomatch h) rfl rfl inf42 rfl (CellA.one hu10) (by repeat (first | exact .zero | apply Upd.succ)) (by first | exact cellsOf_set rfl | exact cellsOf_setr rfl | exact cellsOf_store rfl | exact store_all rfl | rfl) (by first | exact cellsOf_in rfl rfl | exact cellsOf_in rfl (cellsOf_length _ _) | exact cellsOf_le rfl | exact Nat.le_of_ble_eq_true rfl | omega) (fun h => nomatch h) ?_
        replace px := px.updR (o := 73) (v := u10) rfl (by rw [er10]; exact hu10)
        refine so_then ?_
        refine sx_seq ?_
        refine sx_region (E := E) ?_
        refine so_load rfl rfl rfl (by first | exact ld_ownA Try.underlying48 rfl inf48 rfl (by repeat (first | exact List.Mem.head _ | apply List.Mem.tail)) (by first | exact cellsOf_le rfl | decide | omega) (by first | exact cellsOf_all | exact take_all rfl | exact cellsOf_part rfl | rfl) | exact ld_dataA Try.underlying48 rfl inf48 rfl (by first | assumption | exact InA.add (by assumption) | exact InA.add (InA.add (by assumption))) (by assumption)) ?_
        refine so_storeA rfl (fun h => nomatch h) rfl rfl inf48 (by first | exact cellsOf_length _ _ | rfl) (px.one rfl (fun i hi => by have h9 : i = 35 := Nat.eq_of_beq_eq_true hi; subst h9; show (y 27).oneCell' = true; rw [hv3]; rfl)) (by repeat (first | exact .zero | apply Upd.succ)) (by first | exact cellsOf_set rfl | exact cellsOf_setr rfl | exact cellsOf_store rfl | exact store_all rfl | rfl) (by first | exact cellsOf_in rfl rfl | exact cellsOf_in rfl (cellsOf_length _ _) | exact cellsOf_le rfl | exact Nat.le_of_ble_eq_true rfl | omega) (fun h => nomatch h) ?_
        refine so_then ?_
        refine sx_ret ?_
        refine sk_return1 (.cell rfl (by first | exact ld_ownA Try.underlying48 rfl inf48 rfl (by repeat (first | exact List.Mem.head _ | apply List.Mem.tail)) (by first | exact cellsOf_le rfl | decide | omega) (by first | exact cellsOf_all | exact take_all rfl | exact cellsOf_part rfl | rfl) | exact ld_dataA Try.underlying48 rfl inf48 rfl (by first | assumption | exact InA.add (by assumption) | exact InA.add (InA.add (by assumption))) (by assumption)) .nil) ?_
        intro H hH
        refine ⟨hH.kept, _, _, (fun j hj => (hH.sub j hj).imp id fun h => ⟨h, hH.lt j hj⟩), gA.sub, ?_, ?_, _, rfl, (px.gr hH.gr), (hpk.gr hH.gr)⟩
        · intro p hp; cases hp
        · exact List.Pairwise.nil
  · skip
    refine so_fieldO (o' := 8) rfl rfl rfl Try.underlying48 rfl inf38 rfl rfl ?_
    refine so_storeA rfl (fun h => nomatch h) rfl rfl inf38 (by first | exact cellsOf_length _ _ | rfl) (py.one rfl (fun i hi => by have h9 : i = 27 := Nat.eq_of_beq_eq_true hi; subst h9; rw [hv3]; rfl)) (by repeat (first | exact .zero | apply Upd.succ)) (by first | exact cellsOf_set rfl | exact cellsOf_setr rfl | exact cellsOf_store rfl | exact store_all rfl | rfl) (by first | exact cellsOf_in rfl rfl | exact cellsOf_in rfl (cellsOf_length _ _) | exact cellsOf_le rfl | exact Nat.le_of_ble_eq_true rfl | omega) (fun h => nomatch h) ?_
    replace px := px.setr (m := 43) (ex2 := only 35) py rfl (fun i hi => ⟨fun _ => hi, fun hin => node_only hi hin⟩)
    refine so_then ?_
    refine sx_seq ?_
    refine sx_region (E := E) ?_
    refine so_fieldO (o' := 51) rfl rfl rfl Try.underlying48 rfl inf24 rfl rfl ?_
    refine so_fieldO (o' := 53) rfl rfl rfl Try.underlying24 rfl inf22 rfl rfl ?_
    refine so_load rfl rfl rfl (by first | exact ld_own Try.underlying22 rfl (by repeat (first | exact List.Mem.head _ | apply List.Mem.tail)) (by first | exact (cellsOf_get rfl).trans (congrArg some hv4) | exact cellsOf_get rfl | rfl) | exact ld_data Try.underlying22 rfl (by first | assumption | exact InA.add (by assumption) | exact InA.add (InA.add (by assumption))) (by assumption)) ?_
    refine so_callF (fun u H' A' => CellA A' H' (.row 8 [.int .i64]) u (.row r2)) rfl rfl (fun h => nomatch h) rfl has35 (by repeat (first | exact Opvs.nil | apply Opvs.cons rfl)) (fun H hH => cloneD35_ok hH.lt (by rw [← er2]; exact CellA.gr hH.gr _ _ _ (px 53 _ rfl rfl))) ?_
    intro u2 H2 A2 g2 hu2
    replace px := px.gr g2
    replace gA := gA.trans g2
    try replace hpk := hpk.gr g2
    refine so_fieldO (o' := 51) rfl rfl rfl Try.underlying48 rfl inf24 rfl rfl ?_
    refine so_fieldO (o' := 53) rfl rfl rfl Try.underlying24 rfl inf22 rfl rfl ?_
    refine so_storeS rfl (fun h => nomatch h) rfl rfl inf22 rfl (CellA.one hu2) (by repeat (first | exact .zero | apply Upd.succ)) (by first | exact cellsOf_set rfl | exact cellsOf_setr rfl | exact cellsOf_store rfl | exact store_all rfl | rfl) (by first | exact cellsOf_in rfl rfl | exact cellsOf_in rfl (cellsOf_length _ _) | exact cellsOf_le rfl | exact Nat.le_of_ble_eq_true rfl | omega) (fun h => nomatch h) ?_
    replace px := px.updR (o := 53) (v := u2) rfl (by rw [er2]; exact hu2)
    refine so_then ?_
    refine sx_seq ?_
    refine sx_region (E := E) ?_
    refine so_fieldO (o' := 54) rfl rfl rfl Try.underlying48 rfl inf29 rfl rfl ?_
    refine so_fieldO (o' := 56) rfl rfl rfl Try.underlying29 rfl inf27 rfl rfl ?_
    refine so_load rfl rfl rfl (by first | exact ld_own Try.underlying27 rfl (by repeat (first | exact List.Mem.head _ | apply List.Mem.tail)) (by first | exact (cellsOf_get rfl).trans (congrArg some hv4) | exact cellsOf_get rfl | rfl) | exact ld_data Try.underlying27 rfl (by first | assumption | exact InA.add (by assumption) | exact InA.add (InA.add (by assumption))) (by assumption)) ?_
    refine so_callF (fun u H' A' => CellA A' H' (.row 32 k31) u (.row r3)) rfl rfl (fun h => nomatch h) rfl has36 (by repeat (first | exact Opvs.nil | apply Opvs.cons rfl)) (fun H hH => cloneD36_ok hH.lt (by rw [← er3]; exact CellA.gr hH.gr _ _ _ (px 56 _ rfl rfl))) ?_
    intro u3 H3 A3 g3 hu3
    replace px := px.gr g3
    replace gA := gA.trans g3
    try replace hpk := hpk.gr g3
    refine so_fieldO (o' := 54) rfl rfl rfl Try.underlying48 rfl inf29 rfl rfl ?_
    refine so_fieldO (o' := 56) rfl rfl rfl Try.underlying29 rfl inf27 rfl rfl ?_
    refine so_storeS rfl (fun h => nomatch h) rfl rfl inf27 rfl (CellA.one hu3) (by repeat (first | exact .zero | apply Upd.succ)) (by first | exact cellsOf_set rfl | exact cellsOf_setr rfl | exact cellsOf_store rfl | exact store_all rfl | rfl) (by first | exact cellsOf_in rfl rfl | exact cellsOf_in rfl (cellsOf_length _ _) | exact cellsOf_le rfl | exact Nat.le_of_ble_eq_true rfl | omega) (fun h => nomatch h) ?_
    replace px := px.updR (o := 56) (v := u3) rfl (by rw [er3]; exact hu3)
    refine so_then ?_
    refine sx_seq ?_
    refine sx_region (E := E) ?_
    refine so_fieldO (o' := 57) rfl rfl rfl Try.underlying48 rfl inf41 rfl rfl ?_
    refine so_fieldO (o' := 71) rfl rfl rfl Try.underlying41 rfl inf39 rfl rfl ?_
    refine so_load rfl rfl rfl (by first | exact ld_own Try.underlying39 rfl (by repeat (first | exact List.Mem.head _ | apply List.Mem.tail)) (by first | exact (cellsOf_get rfl).trans (congrArg some hv4) | exact cellsOf_get rfl | rfl) | exact ld_data Try.underlying39 rfl (by first | assumption | exact InA.add (by assumption) | exact InA.add (InA.add (by assumption))) (by assumption)) ?_
    refine so_callL (fun u H' A1 L1 => ORow k102 A1 H' dl u L1) rfl rfl (fun h => nomatch h) rfl has37 (by repeat (first | exact Opvs.nil | apply Opvs.cons rfl)) (fun H hH => (clone37_ok hH.lt (by rw [← edl]; exact CellA.gr hH.gr _ _ _ (px 71 _ rfl rfl))).mono fun u H2 hw h => clone_own hH.lt hw h) ?_
    intro u4 H4 A4 L4 g4 hd4
    replace px := px.gr g4
    replace gA := gA.trans g4
    replace hpk := hpk.gr g4
    rcases hd4 with ⟨hv4, hdl0, rfl⟩ | ⟨Md, dcells, dex, hv4, rfl, hdl, hdo, hdc⟩
    · skip
      refine so_fieldO (o' := 57) rfl rfl rfl Try.underlying48 rfl inf41 rfl rfl ?_
      refine so_fieldO (o' := 71) rfl rfl rfl Try.underlying41 rfl inf39 rfl rfl ?_
      refine so_storeS rfl (fun h => nomatch h) rfl rfl inf39 rfl (by rw [hv4]; rfl) (by repeat (first | exact .zero | apply Upd.succ)) (by first | exact cellsOf_set rfl | exact cellsOf_setr rfl | exact cellsOf_store rfl | exact store_all rfl | rfl) (by first | exact cellsOf_in rfl rfl | exact cellsOf_in rfl (cellsOf_length _ _) | exact cellsOf_le rfl | exact Nat.le_of_ble_eq_true rfl | omega) (fun h => nomatch h) ?_
      first | replace px := px.updR (o := 71) (v := u4) (k := .row 40 k102) rfl (by rw [edl, hdl0, hv4]; simp only [CellA]; exact ⟨by simp, by simp, .inl ⟨trivial, trivial⟩⟩) | replace px := (px.weaken (ex2 := two 35 71) (fun i h => by simp only [two, Bool.or_eq_false_iff] at h; exact h.1)).updE (o := 71) (v := u4) rfl
      refine so_then ?_
      refine sx_seq ?_
      refine sx_seq ?_
      refine sx_region (E := E) ?_
      refine so_fieldO (o' := 57) rfl rfl rfl Try.underlying48 rfl inf41 rfl rfl ?_
      refine so_fieldO (o' := 71) rfl rfl rfl Try.underlying41 rfl inf39 rfl rfl ?_
      refine so_load rfl rfl rfl (by first | exact ld_own Try.underlying39 rfl (by repeat (first | exact List.Mem.head _ | apply List.Mem.tail)) (by first | exact (cellsOf_get rfl).trans (congrArg some hv4) | exact cellsOf_get rfl | rfl) | exact ld_data Try.underlying39 rfl (by first | assumption | exact InA.add (by assumption) | exact InA.add (InA.add (by assumption))) (by assumption)) ?_
      refine so_lenL rfl rfl rfl rfl rfl rfl Try.underlying39 ?_
      refine so_move rfl rfl rfl ?_
      refine so_then ?_
      refine sx_block ?_
      refine sx_loop (σ := Nat) (fun k => k) (fun k => [(1, .pointer (some ⟨2 * N1 + 1, 0, none⟩)), (2, .pointer (some ⟨2 * N2 + 1, 0, none⟩)), (29, .int .i64 ((0 : Nat) : Int)), (30, .int .i64 ((k : Nat) : Int))]) (fun _ => H4) (fun _ => A4) (fun _ => [(M, .cells cells 1 ex), (N2, .cells (.int .i64 0 :: .int .i64 0 :: .int .i64 0 :: .int .i64 0 :: .int .i64 0 :: .int .i64 0 :: .string ⟨#[]⟩ :: .string ⟨#[]⟩ :: .int .i64 0 :: .int .i64 0 :: .int .i64 0 :: .string ⟨#[]⟩ :: .bool false :: .bool false :: .bool false :: .int .i64 0 :: .int .i64 0 :: .int .i64 0 :: .int .i64 0 :: .slice none 0 0 :: .int .i64 0 :: .int .i64 0 :: .int .i64 0 :: .int .i64 0 :: .int .i64 0 :: .int .i64 0 :: .int .i64 0 :: .int .i64 0 :: .int .i64 0 :: .slice none 0 0 :: .int .i64 0 :: .int .i64 0 :: .int .i64 0 :: .int .i64 0 :: .int .i64 0 :: .slice none 0 0 :: .int .i64 0 :: .slice none 0 0 :: .slice none 0 0 :: .int .i64 0 :: .int .i64 0 :: .int .i64 0 :: .int .i64 0 :: .string ⟨#[]⟩ :: .int .i64 0 :: .int .i64 0 :: .int .i64 0 :: .int .i64 0 :: .int .i64 0 :: .int .i64 0 :: .slice none 0 0 :: .int .i64 0 :: .int .i64 0 :: .slice none 0 0 :: .int .i64 0 :: .int .i64 0 :: .slice none 0 0 :: .int .i64 0 :: .int .i64 0 :: .int .i64 0 :: .int .i64 0 :: .int .i64 0 :: .int .i64 0 :: .int .i64 0 :: .int .i64 0 :: .int .i64 0 :: .int .i64 0 :: .int .i64 0 :: .int .i64 0 :: .int .i64 0 :: .int .i64 0 :: .slice none 0 0 :: .bool false :: .slice none 0 0 :: .int .i64 0 :: .int .i64 0 :: .int .i64 0 :: .int .i64 0 :: .int .i64 0 :: .int .i64 0 :: .int .i64 0 :: .int .i64 0 :: .int .i64 0 :: .int .i64 0 :: []) (boxsz E 48) true), (N1, .cells (cellsOf 84 (upd1 (upd1 (upd1 (updr x 8 43 y) 53 u2) 56 u3) 71 u4)) (boxsz E 48) true)]) (fun k => k = 0) (0) (rfl) (by repeat (first | exact .nil | refine .cons rfl ?_)) rfl rfl (by repeat (first | exact List.nil_sublist _ | apply List.Sublist.cons_cons | apply List.Sublist.cons)) ?_
      intro s hJ t1
      replace hJ : s = 0 := hJ
      subst hJ
      refine sx_seq ?_
      refine sx_region (E := E) ?_
      refine so_bin rfl rfl rfl rfl (by first | exact bin_lss_t (by omega) | exact bin_lss_f (by omega)) ?_
      refine so_then ?_
      refine sx_seq ?_
      refine sx_false rfl ?_
      refine sx_exit ?_
      refine sk_then_exit ?_
      refine sk_loop_exit ?_
      refine sk_block_exit ?_
      refine sk_then ?_
      refine sx_seq ?_
      refine sx_region (E := E) ?_
      refine so_fieldO (o' := 73) rfl rfl rfl Try.underlying48 rfl inf42 rfl rfl ?_
      refine so_load rfl rfl rfl (by first | exact ld_own Try.underlying42 rfl (by repeat (first | exact List.Mem.head _ | apply List.Mem.tail)) (by first | exact (cellsOf_get rfl).trans (congrArg some hv4) | exact cellsOf_get rfl | rfl) | exact ld_data Try.underlying42 rfl (by first | assumption | exact InA.add (by assumption) | exact InA.add (InA.add (by assumption))) (by assumption)) ?_
      refine so_callF (fun u H' A' => CellA A' H' (.row 40 k85) u (.row r10)) rfl rfl (fun h => nomatch h) rfl has39 (by repeat (first | exact Opvs.nil | apply Opvs.cons rfl)) (fun H hH => cloneD39_ok hH.lt (by rw [← er10]; exact CellA.gr hH.gr _ _ _ (px 73 _ rfl rfl))) ?_
      intro u10 H10 A10 g10 hu10
      replace px := px.gr g10
      replace gA := gA.trans g10
      try replace hpk := hpk.gr g10
      refine so_fieldO (o' := 73) rfl rfl rfl Try.underlying48 rfl inf42 rfl rfl ?_
      refine so_storeS rfl (fun h => nomatch h) rfl rfl inf42 rfl (CellA.one hu10) (by repeat (first | exact .zero | apply Upd.succ)) (by first | exact cellsOf_set rfl | exact cellsOf_setr rfl | exact cellsOf_store rfl | exact store_all rfl | rfl) (by first | exact cellsOf_in rfl rfl | exact cellsOf_in rfl (cellsOf_length _ _) | exact cellsOf_le rfl | exact Nat.le_of_ble_eq_true rfl | omega) (fun h => nomatch h) ?_
      replace px := px.updR (o := 73) (v := u10) rfl (by rw [er10]; exact hu10)
      refine so_then ?_
      refine sx_seq ?_
      refine sx_region (E := E) ?_
      refine so_load rfl rfl rfl (by first | exact ld_ownA Try.underlying48 rfl inf48 rfl (by repeat (first | exact List.Mem.head _ | apply List.Mem.tail)) (by first | exact cellsOf_le rfl | decide | omega) (by first | exact cellsOf_all | exact take_all rfl | exact cellsOf_part rfl | rfl) | exact ld_dataA Try.underlying48 rfl inf48 rfl (by first | assumption | exact InA.add (by assumption) | exact InA.add (InA.add (by assumption))) (by assumption)) ?_
      refine so_storeA rfl (fun h => nomatch h) rfl rfl inf48 (by first | exact cellsOf_length _ _ | rfl) (px.one rfl (fun i hi => by have h9 : i = 35 := Nat.eq_of_beq_eq_true hi; subst h9; show (y 27).oneCell' = true; rw [hv3]; rfl)) (by repeat (first | exact .zero | apply Upd.succ)) (by first | exact cellsOf_set rfl | exact cellsOf_setr rfl | exact cellsOf_store rfl | exact store_all rfl | rfl) (by first | exact cellsOf_in rfl rfl | exact cellsOf_in rfl (cellsOf_length _ _) | exact cellsOf_le rfl | exact Nat.le_of_ble_eq_true rfl | omega) (fun h => nomatch h) ?_
      refine so_then ?_
      refine sx_ret ?_
      refine sk_return1 (.cell rfl (by first | exact ld_ownA Try.underlying48 rfl inf48 rfl (by repeat (first | exact List.Mem.head _ | apply List.Mem.tail)) (by first | exact cellsOf_le rfl | decide | omega) (by first | exact cellsOf_all | exact take_all rfl | exact cellsOf_part rfl | rfl) | exact ld_dataA Try.underlying48 rfl inf48 rfl (by first | assumption | exact InA.add (by assumption) | exact InA.add (InA.add (by assumption))) (by assumption)) .nil) ?_
      intro H hH
      refine ⟨hH.kept, _, _, (fun j hj => (hH.sub j hj).imp id fun h => ⟨h, hH.lt j hj⟩), gA.sub, ?_, ?_, _, rfl, (px.gr hH.gr), (hpk.gr hH.gr)⟩
      · intro p hp; rw [List.mem_singleton] at hp; subst hp; exact hH.own _ (by repeat (first | exact List.Mem.head _ | apply List.Mem.tail))
      · exact List.pairwise_singleton ..
    · skip
      refine so_fieldO (o' := 57) rfl rfl rfl Try.underlying48 rfl inf41 rfl rfl ?_
      refine so_fieldO (o' := 71) rfl rfl rfl Try.underlying41 rfl inf39 rfl rfl ?_
      refine so_storeS rfl (fun h => nomatch h) rfl rfl inf39 rfl (by rw [hv4]; rfl) (by repeat (first | exact .zero | apply Upd.succ)) (by first | exact cellsOf_set rfl | exact cellsOf_setr rfl | exact cellsOf_store rfl | exact store_all rfl | rfl) (by first | exact cellsOf_in rfl rfl | exact cellsOf_in rfl (cellsOf_length _ _) | exact cellsOf_le rfl | exact Nat.le_of_ble_eq_true rfl | omega) (fun h => nomatch h) ?_
      first | replace px := px.updR (o := 71) (v := u4) (k := .row 40 k102) rfl (by rw [edl, hdl0, hv4]; simp only [CellA]; exact ⟨by simp, by simp, .inl ⟨trivial, trivial⟩⟩) | replace px := (px.weaken (ex2 := two 35 71) (fun i h => by simp only [two, Bool.or_eq_false_iff] at h; exact h.1)).updE (o := 71) (v := u4) rfl
      refine so_then ?_
      refine sx_seq ?_
      refine sx_seq ?_
      refine sx_region (E := E) ?_
      refine so_fieldO (o' := 57) rfl rfl rfl Try.underlying48 rfl inf41 rfl rfl ?_
      refine so_fieldO (o' := 71) rfl rfl rfl Try.underlying41 rfl inf39 rfl rfl ?_
      refine so_load rfl rfl rfl (by first | exact ld_own Try.underlying39 rfl (by repeat (first | exact List.Mem.head _ | apply List.Mem.tail)) (by first | exact (cellsOf_get rfl).trans (congrArg some hv4) | exact cellsOf_get rfl | rfl) | exact ld_data Try.underlying39 rfl (by first | assumption | exact InA.add (by assumption) | exact InA.add (InA.add (by assumption))) (by assumption)) ?_
      refine so_lenL rfl rfl rfl rfl rfl rfl Try.underlying39 ?_
      refine so_move rfl rfl rfl ?_
      refine so_then ?_
      refine sx_block ?_
      refine sx_loop (σ := Nat × List Value × AH × (Nat → Prop)) (fun q => dl.length - q.1) (fun q => [(1, .pointer (some ⟨2 * N1 + 1, 0, none⟩)), (2, .pointer (some ⟨2 * N2 + 1, 0, none⟩)), (29, .int .i64 ((dl.length : Nat) : Int)), (30, .int .i64 ((q.1 : Nat) : Int))]) (fun q => q.2.2.1) (fun q => q.2.2.2) (fun q => (Md, .cells q.2.1 3 dex) :: [(M, .cells cells 1 ex), (N2, .cells (.int .i64 0 :: .int .i64 0 :: .int .i64 0 :: .int .i64 0 :: .int .i64 0 :: .int .i64 0 :: .string ⟨#[]⟩ :: .string ⟨#[]⟩ :: .int .i64 0 :: .int .i64 0 :: .int .i64 0 :: .string ⟨#[]⟩ :: .bool false :: .bool false :: .bool false :: .int .i64 0 :: .int .i64 0 :: .int .i64 0 :: .int .i64 0 :: .slice none 0 0 :: .int .i64 0 :: .int .i64 0 :: .int .i64 0 :: .int .i64 0 :: .int .i64 0 :: .int .i64 0 :: .int .i64 0 :: .int .i64 0 :: .int .i64 0 :: .slice none 0 0 :: .int .i64 0 :: .int .i64 0 :: .int .i64 0 :: .int .i64 0 :: .int .i64 0 :: .slice none 0 0 :: .int .i64 0 :: .slice none 0 0 :: .slice none 0 0 :: .int .i64 0 :: .int .i64 0 :: .int .i64 0 :: .int .i64 0 :: .string ⟨#[]⟩ :: .int .i64 0 :: .int .i64 0 :: .int .i64 0 :: .int .i64 0 :: .int .i64 0 :: .int .i64 0 :: .slice none 0 0 :: .int .i64 0 :: .int .i64 0 :: .slice none 0 0 :: .int .i64 0 :: .int .i64 0 :: .slice none 0 0 :: .int .i64 0 :: .int .i64 0 :: .int .i64 0 :: .int .i64 0 :: .int .i64 0 :: .int .i64 0 :: .int .i64 0 :: .int .i64 0 :: .int .i64 0 :: .int .i64 0 :: .int .i64 0 :: .int .i64 0 :: .int .i64 0 :: .int .i64 0 :: .slice none 0 0 :: .bool false :: .slice none 0 0 :: .int .i64 0 :: .int .i64 0 :: .int .i64 0 :: .int .i64 0 :: .int .i64 0 :: .int .i64 0 :: .int .i64 0 :: .int .i64 0 :: .int .i64 0 :: .int .i64 0 :: []) (boxsz E 48) true), (N1, .cells (cellsOf 84 (upd1 (upd1 (upd1 (updr x 8 43 y) 53 u2) 56 u3) 71 u4)) (boxsz E 48) true)]) (fun q => q.1 ≤ dl.length ∧ q.2.1.length = dl.length * 3 ∧ (∀ (i : Nat) c, dl[i]? = some c → CellsA q.2.2.2 q.2.2.1 k102 ((q.2.1.drop (i * 3)).take 3) c) ∧ PtsX q.2.2.2 q.2.2.1 k48 (two 35 71) (upd1 (upd1 (upd1 (updr x 8 43 y) 53 u2) 56 u3) 71 u4) c ∧ PRow q.2.2.2 q.2.2.1 pl (y 27) [(M, .cells cells 1 ex)] ∧ Gr A S q.2.2.2 q.2.2.1) ((0, dcells, H4, A4)) (⟨Nat.zero_le _, hdl, hdc, px, hpk, gA⟩) (by repeat (first | exact .nil | refine .cons rfl ?_)) rfl rfl (by repeat (first | exact List.nil_sublist _ | apply List.Sublist.cons_cons | apply List.Sublist.cons)) ?_
      intro s hJ t1
      obtain ⟨k, dcells, H5, A5⟩ := s
      obtain ⟨hJ, hdl, hdc, px, hpk, gA⟩ := hJ
      dsimp only at hJ hdl hdc px hpk gA ⊢
      refine sx_seq ?_
      rcases Nat.lt_or_ge k dl.length with hk | hk
      · skip
        obtain ⟨ck, hck⟩ : ∃ ck, dl[k]? = some ck := ⟨_, List.getElem?_eq_getElem hk⟩
        have hek := hdc k ck hck
        obtain ⟨z, zc, ez, rfl, pz⟩ := hek.fn (n := 3) rfl
        obtain ⟨kl, _, _, ekl, _, _⟩ := (pz 2 _ rfl).rowD
        have hz2 : dcells[k * 3 + 2]? = some (z 2) := by
          have h9 := congrArg (fun l => l[2]?) ez
          simp only [List.getElem?_take, List.getElem?_drop] at h9
          rw [if_pos (by omega), cellsOf_get rfl] at h9
          exact h9
        refine sx_region (E := E) ?_
        refine so_bin rfl rfl rfl rfl (by first | exact bin_lss_t (by omega) | exact bin_lss_f (by omega)) ?_
        refine so_then ?_
        refine sx_seq ?_
        refine sx_true rfl ?_
        refine sx_skip ?_
        refine sk_then ?_
        refine sx_seq ?_
        refine sx_block ?_
        refine sx_seq ?_
        refine sx_region (E := E) ?_
        refine so_move rfl rfl rfl ?_
        refine so_assign rfl rfl rfl ?_
        refine so_then ?_
        refine sx_draw (E := E) mixed [11, 14] _ (List.sublist_cons_self _ _) (by kernel_rfl) (by kernel_rfl) (by decide) ?_
        refine so_fieldO (o' := 57) rfl rfl rfl Try.underlying48 rfl inf41 rfl rfl ?_
        refine so_fieldO (o' := 71) rfl rfl rfl Try.underlying41 rfl inf39 rfl rfl ?_
        refine so_load rfl rfl rfl (by first | exact ld_own Try.underlying39 rfl (by repeat (first | exact List.Mem.head _ | apply List.Mem.tail)) (by first | exact (cellsOf_get rfl).trans (congrArg some hv4) | exact cellsOf_get rfl | rfl) | exact ld_data Try.underlying39 rfl (by first | assumption | exact InA.add (by assumption) | exact InA.add (InA.add (by assumption))) (by assumption)) ?_
        refine so_move rfl rfl rfl ?_
        refine so_fieldO (o' := 57) rfl rfl rfl Try.underlying48 rfl inf41 rfl rfl ?_
        refine so_fieldO (o' := 71) rfl rfl rfl Try.underlying41 rfl inf39 rfl rfl ?_
        refine so_load rfl rfl rfl (by first | exact ld_own Try.underlying39 rfl (by repeat (first | exact List.Mem.head _ | apply List.Mem.tail)) (by first | exact (cellsOf_get rfl).trans (congrArg some hv4) | exact cellsOf_get rfl | rfl) | exact ld_data Try.underlying39 rfl (by first | assumption | exact InA.add (by assumption) | exact InA.add (InA.add (by assumption))) (by assumption)) ?_
        refine so_move rfl rfl rfl ?_
        refine so_indexO (s := 3) (o' := k * 3) rfl rfl rfl rfl Try.underlying39 inf102 rfl hk (Nat.zero_add _) ?_
        refine so_fieldO (o' := k * 3 + 2) rfl rfl rfl Try.underlying102 rfl inf100 rfl rfl ?_
        refine so_loado rfl rfl rfl (by kernel_rfl) (ld_own Try.underlying100 rfl (List.Mem.head _) hz2) ?_
        refine so_callF (fun u H' A' => CellA A' H' (.row 16 k104) u (.row kl)) rfl rfl (fun _ => (by repeat (first | exact List.Mem.head _ | apply List.Mem.tail))) rfl has38 (by repeat (first | exact Opvs.nil | apply Opvs.cons rfl)) (fun H hH => cloneD38_ok hH.lt (by rw [← ekl]; exact CellA.gr hH.gr _ _ _ (pz 2 _ rfl))) ?_
        intro u8 H8 A8 g8 hu8
        refine so_indexO (s := 3) (o' := k * 3) rfl rfl rfl rfl Try.underlying39 inf102 rfl hk (Nat.zero_add _) ?_
        refine so_fieldO (o' := k * 3 + 2) rfl rfl rfl Try.underlying102 rfl inf100 rfl rfl ?_
        refine so_storeS rfl (fun _ => (by repeat (first | exact List.Mem.head _ | apply List.Mem.tail))) rfl rfl inf100 rfl (CellA.one hu8) (by repeat (first | exact .zero | apply Upd.succ)) rfl (by omega) (fun _ => (by repeat (first | exact List.nil_sublist _ | apply List.Sublist.cons_cons | apply List.Sublist.cons))) ?_
        refine so_nil ?_
        refine sk_block ?_
        refine sk_then ?_
        refine sx_region (E := E) ?_
        refine so_bin rfl rfl rfl rfl (by first | exact bin_incr (by omega) | exact bin_add (wrap64 (by omega) (by omega)) | exact bin_add rfl) ?_
        refine so_move rfl rfl rfl ?_
        refine so_nil ?_
        exact sk_round (k + 1, dcells.take (k * 3 + 2) ++ ([u8] ++ dcells.drop (k * 3 + 2 + 1)), H8, A8) (show dl.length - (k + 1) < dl.length - k by omega) ⟨show k + 1 ≤ dl.length by omega, (by show (dcells.take (k * 3 + 2) ++ ([u8] ++ dcells.drop (k * 3 + 2 + 1))).length = dl.length * 3; simp; omega), dyn_set (u := u8) g8 hdl rfl hk hdc hck (ctsOf_get (by omega)) (by rw [ekl]; exact hu8), px.gr g8, hpk.gr g8, gA.trans g8⟩ (by repeat (first | exact .nil | refine .cons rfl ?_)) rfl rfl (by repeat (first | exact List.nil_sublist _ | apply List.Sublist.cons_cons | apply List.Sublist.cons))
      · skip
        refine sx_region (E := E) ?_
        refine so_bin rfl rfl rfl rfl (by first | exact bin_lss_t (by omega) | exact bin_lss_f (by omega)) ?_
        refine so_then ?_
        refine sx_seq ?_
        refine sx_false rfl ?_
        refine sx_exit ?_
        refine sk_then_exit ?_
        refine sk_loop_exit ?_
        refine sk_block_exit ?_
        refine sk_then ?_
        refine sx_seq ?_
        refine sx_freeze .zero ?_
        intro Hf Af gf hAf hgf
        replace px := (px.gr gf).back (e := 71) (k := .row 40 k102) (ex2 := only 35) rfl (by show CellA _ _ _ u4 _; rw [edl, hv4]; exact row_own hgf hAf rfl rfl (by rw [hdl]; exact Nat.le_refl _) (fun i c h => CellsA.gr gf _ _ _ (hdc i c h)) (Nat.le_refl _) hdn hdb) (fun i h1 h2 => by simp only [two, Bool.or_eq_false_iff]; exact ⟨h1, by cases hq : Nat.beq i 71 with | false => rfl | true => exact absurd (Nat.eq_of_beq_eq_true hq) h2⟩)
        replace hpk := hpk.gr gf
        replace gA := gA.trans gf
        refine sx_region (E := E) ?_
        refine so_fieldO (o' := 73) rfl rfl rfl Try.underlying48 rfl inf42 rfl rfl ?_
        refine so_load rfl rfl rfl (by first | exact ld_own Try.underlying42 rfl (by repeat (first | exact List.Mem.head _ | apply List.Mem.tail)) (by first | exact (cellsOf_get rfl).trans (congrArg some hv4) | exact cellsOf_get rfl | rfl) | exact ld_data Try.underlying42 rfl (by first | assumption | exact InA.add (by assumption) | exact InA.add (InA.add (by assumption))) (by assumption)) ?_
        refine so_callF (fun u H' A' => CellA A' H' (.row 40 k85) u (.row r10)) rfl rfl (fun h => nomatch h) rfl has39 (by repeat (first | exact Opvs.nil | apply Opvs.cons rfl)) (fun H hH => cloneD39_ok hH.lt (by rw [← er10]; exact CellA.gr hH.gr _ _ _ (px 73 _ rfl rfl))) ?_
        intro u10 H10 A10 g10 hu10
        replace px := px.gr g10
        replace gA := gA.trans g10
        try replace hpk := hpk.gr g10
        refine so_fieldO (o' := 73) rfl rfl rfl Try.underlying48 rfl inf42 rfl rfl ?_
        refine so_storeS rfl (fun h => nomatch h) rfl rfl inf42 rfl (CellA.one hu10) (by repeat (first | exact .zero | apply Upd.succ)) (by first | exact cellsOf_set rfl | exact cellsOf_setr rfl | exact cellsOf_store rfl | exact store_all rfl | rfl) (by first | exact cellsOf_in rfl rfl | exact cellsOf_in rfl (cellsOf_length _ _) | exact cellsOf_le rfl | exact Nat.le_of_ble_eq_true rfl | omega) (fun h => nomatch h) ?_
        replace px := px.updR (o := 73) (v := u10) rfl (by rw [er10]; exact hu10)
        refine so_then ?_
        refine sx_seq ?_
        refine sx_region (E := E) ?_
        refine so_load rfl rfl rfl (by first | exact ld_ownA Try.underlying48 rfl inf48 rfl (by repeat (first | exact List.Mem.head _ | apply List.Mem.tail)) (by first | exact cellsOf_le rfl | decide | omega) (by first | exact cellsOf_all | exact take_all rfl | exact cellsOf_part rfl | rfl) | exact ld_dataA Try.underlying48 rfl inf48 rfl (by first | assumption | exact InA.add (by assumption) | exact InA.add (InA.add (by assumption))) (by assumption)) ?_
        refine so_storeA rfl (fun h => nomatch h) rfl rfl inf48 (by first | exact cellsOf_length _ _ | rfl) (px.one rfl (fun i hi => by have h9 : i = 35 := Nat.eq_of_beq_eq_true hi; subst h9; show (y 27).oneCell' = true; rw [hv3]; rfl)) (by repeat (first | exact .zero | apply Upd.succ)) (by first | exact cellsOf_set rfl | exact cellsOf_setr rfl | exact cellsOf_store rfl | exact store_all rfl | rfl) (by first | exact cellsOf_in rfl rfl | exact cellsOf_in rfl (cellsOf_length _ _) | exact cellsOf_le rfl | exact Nat.le_of_ble_eq_true rfl | omega) (fun h => nomatch h) ?_
        refine so_then ?_
        refine sx_ret ?_
        refine sk_return1 (.cell rfl (by first | exact ld_ownA Try.underlying48 rfl inf48 rfl (by repeat (first | exact List.Mem.head _ | apply List.Mem.tail)) (by first | exact cellsOf_le rfl | decide | omega) (by first | exact cellsOf_all | exact take_all rfl | exact cellsOf_part rfl | rfl) | exact ld_dataA Try.underlying48 rfl inf48 rfl (by first | assumption | exact InA.add (by assumption) | exact InA.add (InA.add (by assumption))) (by assumption)) .nil) ?_
        intro H hH
        refine ⟨hH.kept, _, _, (fun j hj => (hH.sub j hj).imp id fun h => ⟨h, hH.lt j hj⟩), gA.sub, ?_, ?_, _, rfl, (px.gr hH.gr), (hpk.gr hH.gr)⟩
        · intro p hp; rw [List.mem_singleton] at hp; subst hp; exact hH.own _ (by repeat (first | exact List.Mem.head _ | apply List.Mem.tail))
        · exact List.pairwise_singleton ..

end Go.Proofs.Ytaedeadgbojmnaa
