/-
  Walks, laid by program.
-/
import Derived.Test.YtljakaaebljiiaaGreatDoorB9
set_option linter.unusedVariables false
set_option linter.unusedSimpArgs false
set_option maxRecDepth 100000
namespace Go.Proofs.YtljakaaebljiiaaGreatDoor
open Go Go.AM

/-- the cells of rows of pixels -/
def cellsP (o : List (List CT)) : List Value := o.flatMap fun c => c.map CT.val
theorem cellsP_snoc (o : List (List CT)) (c : List CT) : cellsP (o ++ [c]) = cellsP o ++ c.map CT.val := by simp [cellsP, List.flatMap_append]
theorem cellsP_len : ∀ {o : List (List CT)}, (∀ c ∈ o, PixL c) → (cellsP o).length = o.length * 4
  | [], _ => rfl
  | c :: o, h => by
    obtain ⟨r, g, b, a, rfl, _⟩ := h c (List.mem_cons_self ..)
    have := cellsP_len (o := o) fun d hd => h d (List.mem_cons_of_mem _ hd)
    simp only [cellsP, List.flatMap_cons, List.length_append, List.length_map, List.length_cons, List.length_nil] at this ⊢
    omega
theorem cellsP_at : ∀ {o : List (List CT)}, (∀ c ∈ o, PixL c) → ∀ {i : Nat} {c : List CT}, o[i]? = some c → ((cellsP o).drop (i * 4)).take 4 = c.map CT.val
  | [], _, i, c, h => by simp at h
  | d :: o, hF, i, c, h => by
    obtain ⟨r, g, b, a, rfl, _⟩ := hF d (List.mem_cons_self ..)
    cases i with
    | zero => simp at h; subst h; simp [cellsP]
    | succ i =>
      have := cellsP_at (o := o) (fun d hd => hF d (List.mem_cons_of_mem _ hd)) (i := i) (c := c) (by simpa using h)
      rw [← this]
      simp only [cellsP, List.flatMap_cons, List.map_cons, List.map_nil]
      rw [show (i + 1) * 4 = 4 + i * 4 by omega, ← List.drop_drop]
      rfl
def nvP (M : Nat) : List (List CT) → Value
  | [] => .slice none 0 0
  | c :: o => .slice (some ⟨2 * M + 1, 0, none⟩) (c :: o).length (c :: o).length
def nlP (M : Nat) : List (List CT) → OL
  | [] => []
  | c :: o => [(M, .cells (cellsP (c :: o)) 4 false)]
theorem own_pixs {S H0 H : AH} {A0 A : Nat → Prop} {L : OL} (hH : HS S H0 A0 A L H) {M : Nat} {o : List (List CT)} (hm : (M, AObj.cells (cellsP o) 4 false) ∈ L) (hF : ∀ c ∈ o, PixL c) (hb : o.length ≤ 65536) :
    CellA (fun j => A0 j ∨ (S.nx ≤ j ∧ j < H.nx)) H (.row 32 k35) (.slice (some ⟨2 * M + 1, 0, none⟩) o.length o.length) (.row o) :=
  own_row hH hm rfl (cellsP_len hF) (fun j c hc => by
    rw [cellsP_at hF hc]
    obtain ⟨r, g, b, a, rfl, h1, h2, h3, h4⟩ := hF c (List.mem_of_getElem? hc)
    exact pix_mk h1 h2 h3 h4) hb
theorem take_more {α : Type} {l : List α} {k : Nat} {c : α} (h : l[k]? = some c) : l.take (k + 1) = l.take k ++ [c] := by
  rw [List.take_add_one, h]; rfl
theorem mapD_snoc8 {l : List (List CT)} {k : Nat} {c d : List CT} (h : l[k]? = some c) (e : rpC c = d) : mapD 8 (l.take (k + 1)) = mapD 8 (l.take k) ++ [d] := by
  rw [mapD_8, mapD_8, take_more h, List.map_append, List.map_cons, List.map_nil, e]
theorem mapD_snoc16 {l : List (List CT)} {k : Nat} {c d : List CT} (h : l[k]? = some c) (e : c = d) : mapD 16 (l.take (k + 1)) = mapD 16 (l.take k) ++ [d] := by
  rw [mapD_16, mapD_16, take_more h, e]
theorem mapD_pix {d : Int} {l : List (List CT)} (h : ∀ c ∈ l, PixL c) : ∀ c ∈ mapD d l, PixL c := by
  unfold mapD
  split
  · exact map_pix h
  · exact h
theorem snoc_len (o : List (List CT)) (c : List CT) : o.length + 1 = (o ++ [c]).length := by simp
set_option maxHeartbeats 4000000 in
theorem rround_ok {S : AH} {A : Nat → Prop} (hA : ∀ j, A j → j < S.nx) {w h : Int} {x : Value} {l : List (List CT)} (hx : CellA A S (.row 32 k35) x (.row l)) {d : Int} : XCall Tryz.prog 10 [.agg ⟨[.int .i64 w, .int .i64 h, x]⟩, .int .i64 d] S (RndR w h d l A S) := by
  have hx0 := hx
  obtain ⟨l2, ax, cx, e2, rfl, rx⟩ := hx.rowD
  cases e2
  have hb := rx.len
  have hpl := row_pix rx
  refine x_enter (E := E) (n := 66) (rs := [.cell 4 27, .tmp 5]) (l := [(1, _), (0, _)]) (fn_own Tryz.func10 rfl rfl rfl) hA rfl ?_
  refine sx_seq ?_
  refine sx_region (E := E) ?_
  refine so_boxA rfl rfl (fun h => nomatch h) rfl ?_
  intro N2
  refine so_alloc (cs := (.int .i64 0 :: .int .i64 0 :: .slice none 0 0 :: [])) rfl rfl (fun h => nomatch h) inf27 rfl rfl ?_
  intro N4
  refine so_assign rfl rfl rfl ?_
  refine so_then ?_
  refine sx_seq ?_
  refine sx_seq ?_
  refine sx_region (E := E) ?_
  refine so_load rfl rfl rfl (by first | exact ld_ownA Tryz.underlying27 rfl inf27 rfl (by repeat (first | exact List.Mem.head _ | apply List.Mem.tail)) (by first | exact cellsOf_le rfl | exact Nat.le_of_ble_eq_true rfl | decide | omega) (by first | exact cellsOf_all | exact take_all rfl | exact cellsOf_part rfl | rfl) | exact ld_dataA Tryz.underlying27 rfl inf27 rfl (by first | assumption | exact InA.add (by assumption) | exact InA.add (InA.add (by assumption))) (by assumption)) ?_
  refine so_call rfl rfl (fun h => nomatch h) rfl has25 (by repeat (first | exact Opvs.nil | apply Opvs.cons rfl)) (fun H hH => rcheck_ok hH.lt (CellA.gr hH.gr _ _ _ hx0)) ?_
  refine so_assign rfl rfl rfl ?_
  refine so_then ?_
  refine sx_seq ?_
  by_cases he : imgE w h l = 0
  · skip
    have h64 := (imgE_len he).2.2
    refine sx_region (E := E) ?_
    refine so_move rfl rfl rfl ?_
    refine so_bin rfl rfl rfl rfl (by first | exact bin_neq_f (by first | rfl | assumption | omega) | exact bin_neq_t (by first | rfl | assumption | omega)) ?_
    refine so_then ?_
    refine sx_false rfl ?_
    refine sx_skip ?_
    refine sk_then ?_
    refine sx_seq ?_
    refine sx_seq ?_
    rcases (show d = 8 ∨ d = 16 ∨ (d ≠ 8 ∧ d ≠ 16) by omega) with rfl | rfl | ⟨h8, h16⟩
    · skip
      refine sx_region (E := E) ?_
      refine so_move rfl rfl rfl ?_
      refine so_bin rfl rfl rfl rfl (by first | exact bin_neq_f (by first | rfl | assumption | omega) | exact bin_neq_t (by first | rfl | assumption | omega)) ?_
      refine so_move rfl rfl rfl ?_
      first | refine so_move rfl rfl rfl ?_ | refine so_skip rfl rfl rfl ?_
      first | refine so_bin rfl rfl rfl rfl (by first | exact bin_neq_f (by first | rfl | assumption | omega) | exact bin_neq_t (by first | rfl | assumption | omega)) ?_ | refine so_skip rfl rfl rfl ?_
      first | refine so_pick_t rfl rfl rfl rfl ?_ | refine so_pick_f rfl rfl rfl rfl ?_
      refine so_then ?_
      refine sx_false rfl ?_
      refine sx_skip ?_
      refine sk_then ?_
      refine sx_seq ?_
      refine sx_region (E := E) ?_
      refine so_fieldO (o' := 0) rfl rfl rfl Tryz.underlying27 rfl inf3 rfl rfl ?_
      refine so_load rfl rfl rfl (by first | exact ld_own Tryz.underlying3 rfl (by repeat (first | exact List.Mem.head _ | apply List.Mem.tail)) (by first | exact cellsOf_get rfl | rfl) | exact ld_data Tryz.underlying3 rfl (by first | assumption | exact InA.add (by assumption) | exact InA.add (InA.add (by assumption))) (by assumption)) ?_
      refine so_fieldO (o' := 1) rfl rfl rfl Tryz.underlying27 rfl inf3 rfl rfl ?_
      refine so_load rfl rfl rfl (by first | exact ld_own Tryz.underlying3 rfl (by repeat (first | exact List.Mem.head _ | apply List.Mem.tail)) (by first | exact cellsOf_get rfl | rfl) | exact ld_data Tryz.underlying3 rfl (by first | assumption | exact InA.add (by assumption) | exact InA.add (InA.add (by assumption))) (by assumption)) ?_
      refine so_build rfl rfl (by repeat (first | exact Opps.nil | apply Opps.cons rfl)) (by rfl) ?_
      refine so_alloc (cs := (.int .i64 0 :: .int .i64 0 :: .slice none 0 0 :: [])) rfl rfl (fun h => nomatch h) inf27 rfl rfl ?_
      intro N7
      refine so_storeA rfl (fun h => nomatch h) rfl rfl inf27 (by first | exact cellsOf_length _ _ | rfl) rfl (by repeat (first | exact .zero | apply Upd.succ)) (by first | exact cellsOf_set rfl | exact cellsOf_setr rfl | exact cellsOf_store rfl | exact store_all rfl | rfl) (by first | exact cellsOf_in rfl rfl | exact cellsOf_in rfl (cellsOf_length _ _) | exact cellsOf_le rfl | exact Nat.le_of_ble_eq_true rfl | omega) (fun h => nomatch h) ?_
      refine so_then ?_
      refine sx_seq ?_
      refine sx_seq ?_
      refine sx_region (E := E) ?_
      refine so_assign rfl rfl rfl ?_
      refine so_then ?_
      refine sx_block ?_
      refine sx_loop (σ := Nat × Nat × List (List CT)) (fun z => l.length - z.1) (fun z => [(1, .int .i64 8), (2, .pointer (some ⟨2 * N2 + 1, 0, none⟩)), (4, .pointer (some ⟨2 * N4 + 1, 0, none⟩)), (7, .pointer (some ⟨2 * N7 + 1, 0, none⟩)), (8, .int .i64 ((z.1 : Nat) : Int))]) (fun _ => S) (fun _ => A) (fun z => nlP z.2.1 z.2.2 ++ [(N7, .cells [.int .i64 w, .int .i64 h, nvP z.2.1 z.2.2] (boxsz E 27) true), (N4, .cells [.int .i64 0, .int .i64 0, .slice none 0 0] (boxsz E 27) true), (N2, .cells [.int .i64 w, .int .i64 h, .slice ax l.length cx] (boxsz E 27) true)]) (fun z => z.1 ≤ l.length ∧ z.2.2 = mapD 8 (l.take z.1)) ((0, 0, [])) (⟨Nat.zero_le _, rfl⟩) (by repeat (first | exact .nil | refine .cons rfl ?_)) rfl rfl (by repeat (first | exact List.nil_sublist _ | apply List.Sublist.cons_cons | apply List.Sublist.cons)) ?_
      intro z3 hJ2 t1
      obtain ⟨k, M, o⟩ := z3
      obtain ⟨hJ, ho⟩ := hJ2
      dsimp only at hJ ho ⊢
      have hoP : ∀ c ∈ o, PixL c := by rw [ho]; exact mapD_pix fun c hc => hpl c (List.mem_of_mem_take hc)
      have hol : o.length ≤ l.length := by rw [ho, mapD_len, List.length_take]; omega
      refine sx_seq ?_
      refine sx_seq ?_
      rcases o with _ | ⟨o1, os⟩ <;> rcases Nat.lt_or_ge k l.length with hk | hk
      · skip
        obtain ⟨qx, us, d2, eqx, ix, hc, lx, kx⟩ := rx.at' k hk
        cases eqx
        obtain ⟨r, g, b, a, rfl, rfl, _, _, _, _⟩ := pix4 kx
        dsimp only [nlP, nvP, List.nil_append, List.cons_append]
        refine sx_region (E := E) ?_
        refine so_move rfl rfl rfl ?_
        refine so_fieldO (o' := 2) rfl rfl rfl Tryz.underlying27 rfl inf25 rfl rfl ?_
        refine so_load rfl rfl rfl (by first | exact ld_own Tryz.underlying25 rfl (by repeat (first | exact List.Mem.head _ | apply List.Mem.tail)) (by first | exact cellsOf_get rfl | rfl) | exact ld_data Tryz.underlying25 rfl (by first | assumption | exact InA.add (by assumption) | exact InA.add (InA.add (by assumption))) (by assumption)) ?_
        refine so_lenL rfl rfl rfl rfl rfl rfl Tryz.underlying25 ?_
        refine so_bin rfl rfl rfl rfl (by first | exact bin_lss_t (by omega) | exact bin_lss_f (by omega)) ?_
        refine so_then ?_
        refine sx_true rfl ?_
        refine sx_skip ?_
        refine sk_then ?_
        refine sx_seq ?_
        refine sx_block ?_
        refine sx_seq ?_
        refine sx_region (E := E) ?_
        refine so_fieldO (o' := 2) rfl rfl rfl Tryz.underlying27 rfl inf25 rfl rfl ?_
        refine so_load rfl rfl rfl (by first | exact ld_own Tryz.underlying25 rfl (by repeat (first | exact List.Mem.head _ | apply List.Mem.tail)) (by first | exact cellsOf_get rfl | rfl) | exact ld_data Tryz.underlying25 rfl (by first | assumption | exact InA.add (by assumption) | exact InA.add (InA.add (by assumption))) (by assumption)) ?_
        refine so_move rfl rfl rfl ?_
        first | refine so_indexO rfl rfl rfl rfl Tryz.underlying25 inf35 rfl (by omega) rfl ?_ | refine so_index rfl rfl rfl rfl Tryz.underlying25 inf35 rfl (by omega) ?_
        refine so_load rfl rfl rfl (by first | exact ld_dataA Tryz.underlying35 rfl inf35 rfl (InA.add ix) lx | exact ld_ownA Tryz.underlying35 rfl inf35 rfl (by repeat (first | exact List.Mem.head _ | apply List.Mem.tail)) (by first | exact cellsOf_le rfl | exact Nat.le_of_ble_eq_true rfl | decide | omega) (by first | exact cellsOf_all | exact take_all rfl | exact cellsOf_part rfl | rfl) | exact ld_dataA Tryz.underlying35 rfl inf35 rfl (by first | assumption | exact InA.add (by assumption) | exact InA.add (InA.add (by assumption))) (by assumption)) ?_
        refine so_alloc (cs := (.int .i64 0 :: .int .i64 0 :: .int .i64 0 :: .int .i64 0 :: [])) rfl rfl (fun h => nomatch h) inf35 rfl rfl ?_
        intro N9
        refine so_storeA rfl (fun h => nomatch h) rfl rfl inf35 (by first | exact cellsOf_length _ _ | rfl) rfl (by repeat (first | exact .zero | apply Upd.succ)) (by first | exact cellsOf_set rfl | exact cellsOf_setr rfl | exact cellsOf_store rfl | exact store_all rfl | rfl) (by first | exact cellsOf_in rfl rfl | exact cellsOf_in rfl (cellsOf_length _ _) | exact cellsOf_le rfl | exact Nat.le_of_ble_eq_true rfl | omega) (fun h => nomatch h) ?_
        refine so_then ?_
        refine sx_seq ?_
        refine sx_seq ?_
        refine sx_region (E := E) ?_
        refine so_move rfl rfl rfl ?_
        refine so_bin rfl rfl rfl rfl (by first | exact bin_eql_t (by first | rfl | assumption | omega) | exact bin_eql_f (by first | rfl | assumption | omega)) ?_
        refine so_then ?_
        refine sx_true rfl ?_
        refine sx_seq ?_
        refine sx_drawZ (E := E) mixed [2, 5, 8, 11] _ (List.Sublist.refl _) (by kernel_rfl) (by kernel_rfl) (by decide) 13 _ rfl rfl rfl (by kernel_rfl) ?_
        refine so_fieldO (o' := 0) rfl rfl rfl Tryz.underlying35 rfl inf3 rfl rfl ?_
        refine so_load rfl rfl rfl (by first | exact ld_own Tryz.underlying3 rfl (by repeat (first | exact List.Mem.head _ | apply List.Mem.tail)) (by first | exact cellsOf_get rfl | rfl) | exact ld_data Tryz.underlying3 rfl (by first | assumption | exact InA.add (by assumption) | exact InA.add (InA.add (by assumption))) (by assumption)) ?_
        refine so_call rfl rfl (fun _ => (by repeat (first | exact List.Mem.head _ | apply List.Mem.tail))) rfl has26 (by repeat (first | exact Opvs.nil | apply Opvs.cons rfl)) (fun H hH => eight_ok r) ?_
        refine so_fieldO (o' := 1) rfl rfl rfl Tryz.underlying35 rfl inf3 rfl rfl ?_
        refine so_load rfl rfl rfl (by first | exact ld_own Tryz.underlying3 rfl (by repeat (first | exact List.Mem.head _ | apply List.Mem.tail)) (by first | exact cellsOf_get rfl | rfl) | exact ld_data Tryz.underlying3 rfl (by first | assumption | exact InA.add (by assumption) | exact InA.add (InA.add (by assumption))) (by assumption)) ?_
        refine so_call rfl rfl (fun _ => (by repeat (first | exact List.Mem.head _ | apply List.Mem.tail))) rfl has26 (by repeat (first | exact Opvs.nil | apply Opvs.cons rfl)) (fun H hH => eight_ok g) ?_
        refine so_fieldO (o' := 2) rfl rfl rfl Tryz.underlying35 rfl inf3 rfl rfl ?_
        refine so_load rfl rfl rfl (by first | exact ld_own Tryz.underlying3 rfl (by repeat (first | exact List.Mem.head _ | apply List.Mem.tail)) (by first | exact cellsOf_get rfl | rfl) | exact ld_data Tryz.underlying3 rfl (by first | assumption | exact InA.add (by assumption) | exact InA.add (InA.add (by assumption))) (by assumption)) ?_
        refine so_call rfl rfl (fun _ => (by repeat (first | exact List.Mem.head _ | apply List.Mem.tail))) rfl has26 (by repeat (first | exact Opvs.nil | apply Opvs.cons rfl)) (fun H hH => eight_ok b) ?_
        refine so_fieldO (o' := 3) rfl rfl rfl Tryz.underlying35 rfl inf3 rfl rfl ?_
        refine so_load rfl rfl rfl (by first | exact ld_own Tryz.underlying3 rfl (by repeat (first | exact List.Mem.head _ | apply List.Mem.tail)) (by first | exact cellsOf_get rfl | rfl) | exact ld_data Tryz.underlying3 rfl (by first | assumption | exact InA.add (by assumption) | exact InA.add (InA.add (by assumption))) (by assumption)) ?_
        refine so_call rfl rfl (fun _ => (by repeat (first | exact List.Mem.head _ | apply List.Mem.tail))) rfl has26 (by repeat (first | exact Opvs.nil | apply Opvs.cons rfl)) (fun H hH => eight_ok a) ?_
        refine so_build rfl rfl (by repeat (first | exact Opps.nil | apply Opps.cons rfl)) (by rfl) ?_
        refine so_turn ?_
        refine so_storeA rfl (fun h => nomatch h) rfl rfl inf35 (by first | exact cellsOf_length _ _ | rfl) rfl (by repeat (first | exact .zero | apply Upd.succ)) (by first | exact cellsOf_set rfl | exact cellsOf_setr rfl | exact cellsOf_store rfl | exact store_all rfl | rfl) (by first | exact cellsOf_in rfl rfl | exact cellsOf_in rfl (cellsOf_length _ _) | exact cellsOf_le rfl | exact Nat.le_of_ble_eq_true rfl | omega) (fun h => nomatch h) ?_
        refine so_then ?_
        refine sx_seq ?_
        by_cases h8 : to8 a = 0
        · skip
          have h9 : r8 a = 0 := r8_0 h8
          refine sx_region (E := E) ?_
          refine so_fieldO (o' := 3) rfl rfl rfl Tryz.underlying35 rfl inf3 rfl rfl ?_
          refine so_load rfl rfl rfl (by first | exact ld_own Tryz.underlying3 rfl (by repeat (first | exact List.Mem.head _ | apply List.Mem.tail)) (by first | exact cellsOf_get rfl | rfl) | exact ld_data Tryz.underlying3 rfl (by first | assumption | exact InA.add (by assumption) | exact InA.add (InA.add (by assumption))) (by assumption)) ?_
          refine so_bin rfl rfl rfl rfl (by first | exact bin_eql_t (by first | rfl | assumption | omega) | exact bin_eql_f (by first | rfl | assumption | omega)) ?_
          refine so_then ?_
          refine sx_true rfl ?_
          refine sx_region (E := E) ?_
          refine so_build rfl rfl (by repeat (first | exact Opps.nil | apply Opps.cons rfl)) (by rfl) ?_
          refine so_storeA rfl (fun h => nomatch h) rfl rfl inf35 (by first | exact cellsOf_length _ _ | rfl) rfl (by repeat (first | exact .zero | apply Upd.succ)) (by first | exact cellsOf_set rfl | exact cellsOf_setr rfl | exact cellsOf_store rfl | exact store_all rfl | rfl) (by first | exact cellsOf_in rfl rfl | exact cellsOf_in rfl (cellsOf_length _ _) | exact cellsOf_le rfl | exact Nat.le_of_ble_eq_true rfl | omega) (fun h => nomatch h) ?_
          refine so_then ?_
          refine sx_region (E := E) ?_
          refine so_fieldO (o' := 2) rfl rfl rfl Tryz.underlying27 rfl inf25 rfl rfl ?_
          refine so_load rfl rfl rfl (by first | exact ld_own Tryz.underlying25 rfl (by repeat (first | exact List.Mem.head _ | apply List.Mem.tail)) (by first | exact cellsOf_get rfl | rfl) | exact ld_data Tryz.underlying25 rfl (by first | assumption | exact InA.add (by assumption) | exact InA.add (InA.add (by assumption))) (by assumption)) ?_
          refine so_load rfl rfl rfl (by first | exact ld_ownA Tryz.underlying35 rfl inf35 rfl (by repeat (first | exact List.Mem.head _ | apply List.Mem.tail)) (by first | exact cellsOf_le rfl | exact Nat.le_of_ble_eq_true rfl | decide | omega) (by first | exact cellsOf_all | exact take_all rfl | exact cellsOf_part rfl | rfl) | exact ld_dataA Tryz.underlying35 rfl inf35 rfl (by first | assumption | exact InA.add (by assumption) | exact InA.add (InA.add (by assumption))) (by assumption)) ?_
          refine so_buildSlice (out := [.int .i64 0, .int .i64 0, .int .i64 0, .int .i64 0]) (s := 4) rfl rfl (fun h => nomatch h) (by repeat (first | exact Opps.nil | apply Opps.cons rfl)) Tryz.underlying25 inf35 rfl rfl (by kernel_rfl) rfl rfl ?_
          intro N62
          refine so_appNew (m := 1) (bt := 32) (sz := 4) (old := []) (cs' := cellsP [[.v (.int .i64 0), .v (.int .i64 0), .v (.int .i64 0), .v (.int .i64 0)]]) (k := 1) rfl rfl (fun h => nomatch h) rfl rfl rfl rfl rfl Tryz.underlying25 Tryz.underlying25 rfl inf35 rfl rfl (by decide) rfl (by decide) (first_own (List.Mem.head _) rfl) (.inl ⟨rfl, rfl, rfl⟩) (roomB_of (by decide)) (by decide) rfl rfl ?_
          intro M2
          refine so_fieldO (o' := 2) rfl rfl rfl Tryz.underlying27 rfl inf25 rfl rfl ?_
          refine so_storeS rfl (fun h => nomatch h) rfl rfl inf25 rfl rfl (by repeat (first | exact .zero | apply Upd.succ)) (by first | exact cellsOf_set rfl | exact cellsOf_setr rfl | exact cellsOf_store rfl | exact store_all rfl | rfl) (by first | exact cellsOf_in rfl rfl | exact cellsOf_in rfl (cellsOf_length _ _) | exact cellsOf_le rfl | exact Nat.le_of_ble_eq_true rfl | omega) (fun h => nomatch h) ?_
          refine so_nil ?_
          refine sk_block ?_
          refine sk_then ?_
          refine sx_region (E := E) ?_
          refine so_move rfl rfl rfl ?_
          refine so_bin rfl rfl rfl rfl (by first | exact bin_incr (by omega) | exact bin_add (wrap64 (by omega) (by omega)) | exact bin_add rfl) ?_
          refine so_assign rfl rfl rfl ?_
          refine so_nil ?_
          exact sk_round (k + 1, M2, [[.v (.int .i64 0), .v (.int .i64 0), .v (.int .i64 0), .v (.int .i64 0)]]) (show l.length - (k + 1) < l.length - k by omega) ⟨show k + 1 ≤ l.length by omega, by (rw [mapD_snoc8 hc (rpC_z h8), ← ho]) <;> rfl⟩ (by repeat (first | exact .nil | refine .cons rfl ?_)) rfl rfl (by first | exact List.Sublist.refl _ | exact (by repeat (first | exact List.nil_sublist _ | apply List.Sublist.cons_cons | apply List.Sublist.cons)))
        · skip
          have h9 : r8 a ≠ 0 := r8_n h8
          refine sx_region (E := E) ?_
          refine so_fieldO (o' := 3) rfl rfl rfl Tryz.underlying35 rfl inf3 rfl rfl ?_
          refine so_load rfl rfl rfl (by first | exact ld_own Tryz.underlying3 rfl (by repeat (first | exact List.Mem.head _ | apply List.Mem.tail)) (by first | exact cellsOf_get rfl | rfl) | exact ld_data Tryz.underlying3 rfl (by first | assumption | exact InA.add (by assumption) | exact InA.add (InA.add (by assumption))) (by assumption)) ?_
          refine so_bin rfl rfl rfl rfl (by first | exact bin_eql_t (by first | rfl | assumption | omega) | exact bin_eql_f (by first | rfl | assumption | omega)) ?_
          refine so_then ?_
          refine sx_false rfl ?_
          refine sx_skip ?_
          refine sk_then ?_
          refine sx_region (E := E) ?_
          refine so_fieldO (o' := 2) rfl rfl rfl Tryz.underlying27 rfl inf25 rfl rfl ?_
          refine so_load rfl rfl rfl (by first | exact ld_own Tryz.underlying25 rfl (by repeat (first | exact List.Mem.head _ | apply List.Mem.tail)) (by first | exact cellsOf_get rfl | rfl) | exact ld_data Tryz.underlying25 rfl (by first | assumption | exact InA.add (by assumption) | exact InA.add (InA.add (by assumption))) (by assumption)) ?_
          refine so_load rfl rfl rfl (by first | exact ld_ownA Tryz.underlying35 rfl inf35 rfl (by repeat (first | exact List.Mem.head _ | apply List.Mem.tail)) (by first | exact cellsOf_le rfl | exact Nat.le_of_ble_eq_true rfl | decide | omega) (by first | exact cellsOf_all | exact take_all rfl | exact cellsOf_part rfl | rfl) | exact ld_dataA Tryz.underlying35 rfl inf35 rfl (by first | assumption | exact InA.add (by assumption) | exact InA.add (InA.add (by assumption))) (by assumption)) ?_
          refine so_buildSlice (out := [.int .i64 (r8 r), .int .i64 (r8 g), .int .i64 (r8 b), .int .i64 (r8 a)]) (s := 4) rfl rfl (fun h => nomatch h) (by repeat (first | exact Opps.nil | apply Opps.cons rfl)) Tryz.underlying25 inf35 rfl rfl (by kernel_rfl) rfl rfl ?_
          intro N62
          refine so_appNew (m := 1) (bt := 32) (sz := 4) (old := []) (cs' := cellsP [[.v (.int .i64 (r8 r)), .v (.int .i64 (r8 g)), .v (.int .i64 (r8 b)), .v (.int .i64 (r8 a))]]) (k := 1) rfl rfl (fun h => nomatch h) rfl rfl rfl rfl rfl Tryz.underlying25 Tryz.underlying25 rfl inf35 rfl rfl (by decide) rfl (by decide) (first_own (List.Mem.head _) rfl) (.inl ⟨rfl, rfl, rfl⟩) (roomB_of (by decide)) (by decide) rfl rfl ?_
          intro M2
          refine so_fieldO (o' := 2) rfl rfl rfl Tryz.underlying27 rfl inf25 rfl rfl ?_
          refine so_storeS rfl (fun h => nomatch h) rfl rfl inf25 rfl rfl (by repeat (first | exact .zero | apply Upd.succ)) (by first | exact cellsOf_set rfl | exact cellsOf_setr rfl | exact cellsOf_store rfl | exact store_all rfl | rfl) (by first | exact cellsOf_in rfl rfl | exact cellsOf_in rfl (cellsOf_length _ _) | exact cellsOf_le rfl | exact Nat.le_of_ble_eq_true rfl | omega) (fun h => nomatch h) ?_
          refine so_nil ?_
          refine sk_block ?_
          refine sk_then ?_
          refine sx_region (E := E) ?_
          refine so_move rfl rfl rfl ?_
          refine so_bin rfl rfl rfl rfl (by first | exact bin_incr (by omega) | exact bin_add (wrap64 (by omega) (by omega)) | exact bin_add rfl) ?_
          refine so_assign rfl rfl rfl ?_
          refine so_nil ?_
          exact sk_round (k + 1, M2, [[.v (.int .i64 (r8 r)), .v (.int .i64 (r8 g)), .v (.int .i64 (r8 b)), .v (.int .i64 (r8 a))]]) (show l.length - (k + 1) < l.length - k by omega) ⟨show k + 1 ≤ l.length by omega, by (rw [mapD_snoc8 hc (rpC_r h8), ← ho]) <;> rfl⟩ (by repeat (first | exact .nil | refine .cons rfl ?_)) rfl rfl (by first | exact List.Sublist.refl _ | exact (by repeat (first | exact List.nil_sublist _ | apply List.Sublist.cons_cons | apply List.Sublist.cons)))
      · skip
        rw [List.take_of_length_le (by omega)] at ho
        dsimp only [nlP, nvP, List.nil_append, List.cons_append]
        refine sx_region (E := E) ?_
        refine so_move rfl rfl rfl ?_
        refine so_fieldO (o' := 2) rfl rfl rfl Tryz.underlying27 rfl inf25 rfl rfl ?_
        refine so_load rfl rfl rfl (by first | exact ld_own Tryz.underlying25 rfl (by repeat (first | exact List.Mem.head _ | apply List.Mem.tail)) (by first | exact cellsOf_get rfl | rfl) | exact ld_data Tryz.underlying25 rfl (by first | assumption | exact InA.add (by assumption) | exact InA.add (InA.add (by assumption))) (by assumption)) ?_
        refine so_lenL rfl rfl rfl rfl rfl rfl Tryz.underlying25 ?_
        refine so_bin rfl rfl rfl rfl (by first | exact bin_lss_t (by omega) | exact bin_lss_f (by omega)) ?_
        refine so_then ?_
        refine sx_false rfl ?_
        refine sx_exit ?_
        refine sk_then_exit ?_
        refine sk_loop_exit ?_
        refine sk_block_exit ?_
        refine sk_then ?_
        refine sx_seq ?_
        refine sx_region (E := E) ?_
        refine so_load rfl rfl rfl (by first | exact ld_ownA Tryz.underlying27 rfl inf27 rfl (by repeat (first | exact List.Mem.head _ | apply List.Mem.tail)) (by first | exact cellsOf_le rfl | exact Nat.le_of_ble_eq_true rfl | decide | omega) (by first | exact cellsOf_all | exact take_all rfl | exact cellsOf_part rfl | rfl) | exact ld_dataA Tryz.underlying27 rfl inf27 rfl (by first | assumption | exact InA.add (by assumption) | exact InA.add (InA.add (by assumption))) (by assumption)) ?_
        refine so_storeA rfl (fun h => nomatch h) rfl rfl inf27 (by first | exact cellsOf_length _ _ | rfl) rfl (by repeat (first | exact .zero | apply Upd.succ)) (by first | exact cellsOf_set rfl | exact cellsOf_setr rfl | exact cellsOf_store rfl | exact store_all rfl | rfl) (by first | exact cellsOf_in rfl rfl | exact cellsOf_in rfl (cellsOf_length _ _) | exact cellsOf_le rfl | exact Nat.le_of_ble_eq_true rfl | omega) (fun h => nomatch h) ?_
        refine so_assign rfl rfl rfl ?_
        refine so_then ?_
        refine sx_ret ?_
        refine sk_return2 (.cell rfl (by first | exact ld_ownA Tryz.underlying27 rfl inf27 rfl (by repeat (first | exact List.Mem.head _ | apply List.Mem.tail)) (by first | exact cellsOf_le rfl | exact Nat.le_of_ble_eq_true rfl | decide | omega) (by first | exact cellsOf_all | exact take_all rfl | exact cellsOf_part rfl | rfl) | exact ld_dataA Tryz.underlying27 rfl inf27 rfl (by first | assumption | exact InA.add (by assumption) | exact InA.add (InA.add (by assumption))) (by assumption)) (.tmp rfl .nil)) ?_
        exact fun H hH => ⟨hH.kept, rndT_ok he (by decide) (by rw [← ho]; exact nil_row)⟩
      · skip
        obtain ⟨qx, us, d2, eqx, ix, hc, lx, kx⟩ := rx.at' k hk
        cases eqx
        obtain ⟨r, g, b, a, rfl, rfl, _, _, _, _⟩ := pix4 kx
        dsimp only [nlP, nvP, List.nil_append, List.cons_append]
        refine sx_region (E := E) ?_
        refine so_move rfl rfl rfl ?_
        refine so_fieldO (o' := 2) rfl rfl rfl Tryz.underlying27 rfl inf25 rfl rfl ?_
        refine so_load rfl rfl rfl (by first | exact ld_own Tryz.underlying25 rfl (by repeat (first | exact List.Mem.head _ | apply List.Mem.tail)) (by first | exact cellsOf_get rfl | rfl) | exact ld_data Tryz.underlying25 rfl (by first | assumption | exact InA.add (by assumption) | exact InA.add (InA.add (by assumption))) (by assumption)) ?_
        refine so_lenL rfl rfl rfl rfl rfl rfl Tryz.underlying25 ?_
        refine so_bin rfl rfl rfl rfl (by first | exact bin_lss_t (by omega) | exact bin_lss_f (by omega)) ?_
        refine so_then ?_
        refine sx_true rfl ?_
        refine sx_skip ?_
        refine sk_then ?_
        refine sx_seq ?_
        refine sx_block ?_
        refine sx_seq ?_
        refine sx_region (E := E) ?_
        refine so_fieldO (o' := 2) rfl rfl rfl Tryz.underlying27 rfl inf25 rfl rfl ?_
        refine so_load rfl rfl rfl (by first | exact ld_own Tryz.underlying25 rfl (by repeat (first | exact List.Mem.head _ | apply List.Mem.tail)) (by first | exact cellsOf_get rfl | rfl) | exact ld_data Tryz.underlying25 rfl (by first | assumption | exact InA.add (by assumption) | exact InA.add (InA.add (by assumption))) (by assumption)) ?_
        refine so_move rfl rfl rfl ?_
        first | refine so_indexO rfl rfl rfl rfl Tryz.underlying25 inf35 rfl (by omega) rfl ?_ | refine so_index rfl rfl rfl rfl Tryz.underlying25 inf35 rfl (by omega) ?_
        refine so_load rfl rfl rfl (by first | exact ld_dataA Tryz.underlying35 rfl inf35 rfl (InA.add ix) lx | exact ld_ownA Tryz.underlying35 rfl inf35 rfl (by repeat (first | exact List.Mem.head _ | apply List.Mem.tail)) (by first | exact cellsOf_le rfl | exact Nat.le_of_ble_eq_true rfl | decide | omega) (by first | exact cellsOf_all | exact take_all rfl | exact cellsOf_part rfl | rfl) | exact ld_dataA Tryz.underlying35 rfl inf35 rfl (by first | assumption | exact InA.add (by assumption) | exact InA.add (InA.add (by assumption))) (by assumption)) ?_
        refine so_alloc (cs := (.int .i64 0 :: .int .i64 0 :: .int .i64 0 :: .int .i64 0 :: [])) rfl rfl (fun h => nomatch h) inf35 rfl rfl ?_
        intro N9
        refine so_storeA rfl (fun h => nomatch h) rfl rfl inf35 (by first | exact cellsOf_length _ _ | rfl) rfl (by repeat (first | exact .zero | apply Upd.succ)) (by first | exact cellsOf_set rfl | exact cellsOf_setr rfl | exact cellsOf_store rfl | exact store_all rfl | rfl) (by first | exact cellsOf_in rfl rfl | exact cellsOf_in rfl (cellsOf_length _ _) | exact cellsOf_le rfl | exact Nat.le_of_ble_eq_true rfl | omega) (fun h => nomatch h) ?_
        refine so_then ?_
        refine sx_seq ?_
        refine sx_seq ?_
        refine sx_region (E := E) ?_
        refine so_move rfl rfl rfl ?_
        refine so_bin rfl rfl rfl rfl (by first | exact bin_eql_t (by first | rfl | assumption | omega) | exact bin_eql_f (by first | rfl | assumption | omega)) ?_
        refine so_then ?_
        refine sx_true rfl ?_
        refine sx_seq ?_
        refine sx_drawZ (E := E) mixed [2, 5, 8, 11] _ (List.Sublist.refl _) (by kernel_rfl) (by kernel_rfl) (by decide) 13 _ rfl rfl rfl (by kernel_rfl) ?_
        refine so_fieldO (o' := 0) rfl rfl rfl Tryz.underlying35 rfl inf3 rfl rfl ?_
        refine so_load rfl rfl rfl (by first | exact ld_own Tryz.underlying3 rfl (by repeat (first | exact List.Mem.head _ | apply List.Mem.tail)) (by first | exact cellsOf_get rfl | rfl) | exact ld_data Tryz.underlying3 rfl (by first | assumption | exact InA.add (by assumption) | exact InA.add (InA.add (by assumption))) (by assumption)) ?_
        refine so_call rfl rfl (fun _ => (by repeat (first | exact List.Mem.head _ | apply List.Mem.tail))) rfl has26 (by repeat (first | exact Opvs.nil | apply Opvs.cons rfl)) (fun H hH => eight_ok r) ?_
        refine so_fieldO (o' := 1) rfl rfl rfl Tryz.underlying35 rfl inf3 rfl rfl ?_
        refine so_load rfl rfl rfl (by first | exact ld_own Tryz.underlying3 rfl (by repeat (first | exact List.Mem.head _ | apply List.Mem.tail)) (by first | exact cellsOf_get rfl | rfl) | exact ld_data Tryz.underlying3 rfl (by first | assumption | exact InA.add (by assumption) | exact InA.add (InA.add (by assumption))) (by assumption)) ?_
        refine so_call rfl rfl (fun _ => (by repeat (first | exact List.Mem.head _ | apply List.Mem.tail))) rfl has26 (by repeat (first | exact Opvs.nil | apply Opvs.cons rfl)) (fun H hH => eight_ok g) ?_
        refine so_fieldO (o' := 2) rfl rfl rfl Tryz.underlying35 rfl inf3 rfl rfl ?_
        refine so_load rfl rfl rfl (by first | exact ld_own Tryz.underlying3 rfl (by repeat (first | exact List.Mem.head _ | apply List.Mem.tail)) (by first | exact cellsOf_get rfl | rfl) | exact ld_data Tryz.underlying3 rfl (by first | assumption | exact InA.add (by assumption) | exact InA.add (InA.add (by assumption))) (by assumption)) ?_
        refine so_call rfl rfl (fun _ => (by repeat (first | exact List.Mem.head _ | apply List.Mem.tail))) rfl has26 (by repeat (first | exact Opvs.nil | apply Opvs.cons rfl)) (fun H hH => eight_ok b) ?_
        refine so_fieldO (o' := 3) rfl rfl rfl Tryz.underlying35 rfl inf3 rfl rfl ?_
        refine so_load rfl rfl rfl (by first | exact ld_own Tryz.underlying3 rfl (by repeat (first | exact List.Mem.head _ | apply List.Mem.tail)) (by first | exact cellsOf_get rfl | rfl) | exact ld_data Tryz.underlying3 rfl (by first | assumption | exact InA.add (by assumption) | exact InA.add (InA.add (by assumption))) (by assumption)) ?_
        refine so_call rfl rfl (fun _ => (by repeat (first | exact List.Mem.head _ | apply List.Mem.tail))) rfl has26 (by repeat (first | exact Opvs.nil | apply Opvs.cons rfl)) (fun H hH => eight_ok a) ?_
        refine so_build rfl rfl (by repeat (first | exact Opps.nil | apply Opps.cons rfl)) (by rfl) ?_
        refine so_turn ?_
        refine so_storeA rfl (fun h => nomatch h) rfl rfl inf35 (by first | exact cellsOf_length _ _ | rfl) rfl (by repeat (first | exact .zero | apply Upd.succ)) (by first | exact cellsOf_set rfl | exact cellsOf_setr rfl | exact cellsOf_store rfl | exact store_all rfl | rfl) (by first | exact cellsOf_in rfl rfl | exact cellsOf_in rfl (cellsOf_length _ _) | exact cellsOf_le rfl | exact Nat.le_of_ble_eq_true rfl | omega) (fun h => nomatch h) ?_
        refine so_then ?_
        refine sx_seq ?_
        by_cases h8 : to8 a = 0
        · skip
          have h9 : r8 a = 0 := r8_0 h8
          refine sx_region (E := E) ?_
          refine so_fieldO (o' := 3) rfl rfl rfl Tryz.underlying35 rfl inf3 rfl rfl ?_
          refine so_load rfl rfl rfl (by first | exact ld_own Tryz.underlying3 rfl (by repeat (first | exact List.Mem.head _ | apply List.Mem.tail)) (by first | exact cellsOf_get rfl | rfl) | exact ld_data Tryz.underlying3 rfl (by first | assumption | exact InA.add (by assumption) | exact InA.add (InA.add (by assumption))) (by assumption)) ?_
          refine so_bin rfl rfl rfl rfl (by first | exact bin_eql_t (by first | rfl | assumption | omega) | exact bin_eql_f (by first | rfl | assumption | omega)) ?_
          refine so_then ?_
          refine sx_true rfl ?_
          refine sx_region (E := E) ?_
          refine so_build rfl rfl (by repeat (first | exact Opps.nil | apply Opps.cons rfl)) (by rfl) ?_
          refine so_storeA rfl (fun h => nomatch h) rfl rfl inf35 (by first | exact cellsOf_length _ _ | rfl) rfl (by repeat (first | exact .zero | apply Upd.succ)) (by first | exact cellsOf_set rfl | exact cellsOf_setr rfl | exact cellsOf_store rfl | exact store_all rfl | rfl) (by first | exact cellsOf_in rfl rfl | exact cellsOf_in rfl (cellsOf_length _ _) | exact cellsOf_le rfl | exact Nat.le_of_ble_eq_true rfl | omega) (fun h => nomatch h) ?_
          refine so_then ?_
          refine sx_region (E := E) ?_
          refine so_fieldO (o' := 2) rfl rfl rfl Tryz.underlying27 rfl inf25 rfl rfl ?_
          refine so_load rfl rfl rfl (by first | exact ld_own Tryz.underlying25 rfl (by repeat (first | exact List.Mem.head _ | apply List.Mem.tail)) (by first | exact cellsOf_get rfl | rfl) | exact ld_data Tryz.underlying25 rfl (by first | assumption | exact InA.add (by assumption) | exact InA.add (InA.add (by assumption))) (by assumption)) ?_
          refine so_load rfl rfl rfl (by first | exact ld_ownA Tryz.underlying35 rfl inf35 rfl (by repeat (first | exact List.Mem.head _ | apply List.Mem.tail)) (by first | exact cellsOf_le rfl | exact Nat.le_of_ble_eq_true rfl | decide | omega) (by first | exact cellsOf_all | exact take_all rfl | exact cellsOf_part rfl | rfl) | exact ld_dataA Tryz.underlying35 rfl inf35 rfl (by first | assumption | exact InA.add (by assumption) | exact InA.add (InA.add (by assumption))) (by assumption)) ?_
          refine so_buildSlice (out := [.int .i64 0, .int .i64 0, .int .i64 0, .int .i64 0]) (s := 4) rfl rfl (fun h => nomatch h) (by repeat (first | exact Opps.nil | apply Opps.cons rfl)) Tryz.underlying25 inf35 rfl rfl (by kernel_rfl) rfl rfl ?_
          intro N62
          refine so_appAny (m := 1) (bt := 32) (sz := 4) (old := cellsP (o1 :: os)) (N := M) (ex := false) (cs' := cellsP ((o1 :: os) ++ [[.v (.int .i64 0), .v (.int .i64 0), .v (.int .i64 0), .v (.int .i64 0)]])) (k := List.length (α := List CT) ((o1 :: os) ++ [[.v (.int .i64 0), .v (.int .i64 0), .v (.int .i64 0), .v (.int .i64 0)]])) rfl rfl (fun h => nomatch h) rfl rfl rfl rfl rfl Tryz.underlying25 Tryz.underlying25 rfl inf35 rfl rfl (by decide) rfl (by decide) (first_own (List.Mem.head _) rfl) (.succ (.succ .zero)) (cellsP_len hoP) rfl (roomB_of (by omega)) (by omega) (cellsP_snoc (o1 :: os) [.v (.int .i64 0), .v (.int .i64 0), .v (.int .i64 0), .v (.int .i64 0)]).symm (fun h => nomatch h) (snoc_len _ _) ?_
          intro M2
          refine so_fieldO (o' := 2) rfl rfl rfl Tryz.underlying27 rfl inf25 rfl rfl ?_
          refine so_storeS rfl (fun h => nomatch h) rfl rfl inf25 rfl rfl (by repeat (first | exact .zero | apply Upd.succ)) (by first | exact cellsOf_set rfl | exact cellsOf_setr rfl | exact cellsOf_store rfl | exact store_all rfl | rfl) (by first | exact cellsOf_in rfl rfl | exact cellsOf_in rfl (cellsOf_length _ _) | exact cellsOf_le rfl | exact Nat.le_of_ble_eq_true rfl | omega) (fun h => nomatch h) ?_
          refine so_nil ?_
          refine sk_block ?_
          refine sk_then ?_
          refine sx_region (E := E) ?_
          refine so_move rfl rfl rfl ?_
          refine so_bin rfl rfl rfl rfl (by first | exact bin_incr (by omega) | exact bin_add (wrap64 (by omega) (by omega)) | exact bin_add rfl) ?_
          refine so_assign rfl rfl rfl ?_
          refine so_nil ?_
          exact sk_round (k + 1, M2, (o1 :: os) ++ [[.v (.int .i64 0), .v (.int .i64 0), .v (.int .i64 0), .v (.int .i64 0)]]) (show l.length - (k + 1) < l.length - k by omega) ⟨show k + 1 ≤ l.length by omega, by (rw [mapD_snoc8 hc (rpC_z h8), ← ho]) <;> rfl⟩ (by repeat (first | exact .nil | refine .cons rfl ?_)) rfl rfl (by first | exact List.Sublist.refl _ | exact (by repeat (first | exact List.nil_sublist _ | apply List.Sublist.cons_cons | apply List.Sublist.cons)))
        · skip
          have h9 : r8 a ≠ 0 := r8_n h8
          refine sx_region (E := E) ?_
          refine so_fieldO (o' := 3) rfl rfl rfl Tryz.underlying35 rfl inf3 rfl rfl ?_
          refine so_load rfl rfl rfl (by first | exact ld_own Tryz.underlying3 rfl (by repeat (first | exact List.Mem.head _ | apply List.Mem.tail)) (by first | exact cellsOf_get rfl | rfl) | exact ld_data Tryz.underlying3 rfl (by first | assumption | exact InA.add (by assumption) | exact InA.add (InA.add (by assumption))) (by assumption)) ?_
          refine so_bin rfl rfl rfl rfl (by first | exact bin_eql_t (by first | rfl | assumption | omega) | exact bin_eql_f (by first | rfl | assumption | omega)) ?_
          refine so_then ?_
          refine sx_false rfl ?_
          refine sx_skip ?_
          refine sk_then ?_
          refine sx_region (E := E) ?_
          refine so_fieldO (o' := 2) rfl rfl rfl Tryz.underlying27 rfl inf25 rfl rfl ?_
          refine so_load rfl rfl rfl (by first | exact ld_own Tryz.underlying25 rfl (by repeat (first | exact List.Mem.head _ | apply List.Mem.tail)) (by first | exact cellsOf_get rfl | rfl) | exact ld_data Tryz.underlying25 rfl (by first | assumption | exact InA.add (by assumption) | exact InA.add (InA.add (by assumption))) (by assumption)) ?_
          refine so_load rfl rfl rfl (by first | exact ld_ownA Tryz.underlying35 rfl inf35 rfl (by repeat (first | exact List.Mem.head _ | apply List.Mem.tail)) (by first | exact cellsOf_le rfl | exact Nat.le_of_ble_eq_true rfl | decide | omega) (by first | exact cellsOf_all | exact take_all rfl | exact cellsOf_part rfl | rfl) | exact ld_dataA Tryz.underlying35 rfl inf35 rfl (by first | assumption | exact InA.add (by assumption) | exact InA.add (InA.add (by assumption))) (by assumption)) ?_
          refine so_buildSlice (out := [.int .i64 (r8 r), .int .i64 (r8 g), .int .i64 (r8 b), .int .i64 (r8 a)]) (s := 4) rfl rfl (fun h => nomatch h) (by repeat (first | exact Opps.nil | apply Opps.cons rfl)) Tryz.underlying25 inf35 rfl rfl (by kernel_rfl) rfl rfl ?_
          intro N62
          refine so_appAny (m := 1) (bt := 32) (sz := 4) (old := cellsP (o1 :: os)) (N := M) (ex := false) (cs' := cellsP ((o1 :: os) ++ [[.v (.int .i64 (r8 r)), .v (.int .i64 (r8 g)), .v (.int .i64 (r8 b)), .v (.int .i64 (r8 a))]])) (k := List.length (α := List CT) ((o1 :: os) ++ [[.v (.int .i64 (r8 r)), .v (.int .i64 (r8 g)), .v (.int .i64 (r8 b)), .v (.int .i64 (r8 a))]])) rfl rfl (fun h => nomatch h) rfl rfl rfl rfl rfl Tryz.underlying25 Tryz.underlying25 rfl inf35 rfl rfl (by decide) rfl (by decide) (first_own (List.Mem.head _) rfl) (.succ (.succ .zero)) (cellsP_len hoP) rfl (roomB_of (by omega)) (by omega) (cellsP_snoc (o1 :: os) [.v (.int .i64 (r8 r)), .v (.int .i64 (r8 g)), .v (.int .i64 (r8 b)), .v (.int .i64 (r8 a))]).symm (fun h => nomatch h) (snoc_len _ _) ?_
          intro M2
          refine so_fieldO (o' := 2) rfl rfl rfl Tryz.underlying27 rfl inf25 rfl rfl ?_
          refine so_storeS rfl (fun h => nomatch h) rfl rfl inf25 rfl rfl (by repeat (first | exact .zero | apply Upd.succ)) (by first | exact cellsOf_set rfl | exact cellsOf_setr rfl | exact cellsOf_store rfl | exact store_all rfl | rfl) (by first | exact cellsOf_in rfl rfl | exact cellsOf_in rfl (cellsOf_length _ _) | exact cellsOf_le rfl | exact Nat.le_of_ble_eq_true rfl | omega) (fun h => nomatch h) ?_
          refine so_nil ?_
          refine sk_block ?_
          refine sk_then ?_
          refine sx_region (E := E) ?_
          refine so_move rfl rfl rfl ?_
          refine so_bin rfl rfl rfl rfl (by first | exact bin_incr (by omega) | exact bin_add (wrap64 (by omega) (by omega)) | exact bin_add rfl) ?_
          refine so_assign rfl rfl rfl ?_
          refine so_nil ?_
          exact sk_round (k + 1, M2, (o1 :: os) ++ [[.v (.int .i64 (r8 r)), .v (.int .i64 (r8 g)), .v (.int .i64 (r8 b)), .v (.int .i64 (r8 a))]]) (show l.length - (k + 1) < l.length - k by omega) ⟨show k + 1 ≤ l.length by omega, by (rw [mapD_snoc8 hc (rpC_r h8), ← ho]) <;> rfl⟩ (by repeat (first | exact .nil | refine .cons rfl ?_)) rfl rfl (by first | exact List.Sublist.refl _ | exact (by repeat (first | exact List.nil_sublist _ | apply List.Sublist.cons_cons | apply List.Sublist.cons)))
      · skip
        rw [List.take_of_length_le (by omega)] at ho
        dsimp only [nlP, nvP, List.nil_append, List.cons_append]
        refine sx_region (E := E) ?_
        refine so_move rfl rfl rfl ?_
        refine so_fieldO (o' := 2) rfl rfl rfl Tryz.underlying27 rfl inf25 rfl rfl ?_
        refine so_load rfl rfl rfl (by first | exact ld_own Tryz.underlying25 rfl (by repeat (first | exact List.Mem.head _ | apply List.Mem.tail)) (by first | exact cellsOf_get rfl | rfl) | exact ld_data Tryz.underlying25 rfl (by first | assumption | exact InA.add (by assumption) | exact InA.add (InA.add (by assumption))) (by assumption)) ?_
        refine so_lenL rfl rfl rfl rfl rfl rfl Tryz.underlying25 ?_
        refine so_bin rfl rfl rfl rfl (by first | exact bin_lss_t (by omega) | exact bin_lss_f (by omega)) ?_
        refine so_then ?_
        refine sx_false rfl ?_
        refine sx_exit ?_
        refine sk_then_exit ?_
        refine sk_loop_exit ?_
        refine sk_block_exit ?_
        refine sk_then ?_
        refine sx_seq ?_
        refine sx_region (E := E) ?_
        refine so_load rfl rfl rfl (by first | exact ld_ownA Tryz.underlying27 rfl inf27 rfl (by repeat (first | exact List.Mem.head _ | apply List.Mem.tail)) (by first | exact cellsOf_le rfl | exact Nat.le_of_ble_eq_true rfl | decide | omega) (by first | exact cellsOf_all | exact take_all rfl | exact cellsOf_part rfl | rfl) | exact ld_dataA Tryz.underlying27 rfl inf27 rfl (by first | assumption | exact InA.add (by assumption) | exact InA.add (InA.add (by assumption))) (by assumption)) ?_
        refine so_storeA rfl (fun h => nomatch h) rfl rfl inf27 (by first | exact cellsOf_length _ _ | rfl) rfl (by repeat (first | exact .zero | apply Upd.succ)) (by first | exact cellsOf_set rfl | exact cellsOf_setr rfl | exact cellsOf_store rfl | exact store_all rfl | rfl) (by first | exact cellsOf_in rfl rfl | exact cellsOf_in rfl (cellsOf_length _ _) | exact cellsOf_le rfl | exact Nat.le_of_ble_eq_true rfl | omega) (fun h => nomatch h) ?_
        refine so_assign rfl rfl rfl ?_
        refine so_then ?_
        refine sx_ret ?_
        refine sk_return2 (.cell rfl (by first | exact ld_ownA Tryz.underlying27 rfl inf27 rfl (by repeat (first | exact List.Mem.head _ | apply List.Mem.tail)) (by first | exact cellsOf_le rfl | exact Nat.le_of_ble_eq_true rfl | decide | omega) (by first | exact cellsOf_all | exact take_all rfl | exact cellsOf_part rfl | rfl) | exact ld_dataA Tryz.underlying27 rfl inf27 rfl (by first | assumption | exact InA.add (by assumption) | exact InA.add (InA.add (by assumption))) (by assumption)) (.tmp rfl .nil)) ?_
        exact fun H hH => ⟨hH.kept, rndT_ok he (by decide) (by rw [← ho]; exact own_pixs hH (by repeat (first | exact List.Mem.head _ | apply List.Mem.tail)) hoP (by omega))⟩
    · skip
      refine sx_region (E := E) ?_
      refine so_move rfl rfl rfl ?_
      refine so_bin rfl rfl rfl rfl (by first | exact bin_neq_f (by first | rfl | assumption | omega) | exact bin_neq_t (by first | rfl | assumption | omega)) ?_
      refine so_move rfl rfl rfl ?_
      first | refine so_move rfl rfl rfl ?_ | refine so_skip rfl rfl rfl ?_
      first | refine so_bin rfl rfl rfl rfl (by first | exact bin_neq_f (by first | rfl | assumption | omega) | exact bin_neq_t (by first | rfl | assumption | omega)) ?_ | refine so_skip rfl rfl rfl ?_
      first | refine so_pick_t rfl rfl rfl rfl ?_ | refine so_pick_f rfl rfl rfl rfl ?_
      refine so_then ?_
      refine sx_false rfl ?_
      refine sx_skip ?_
      refine sk_then ?_
      refine sx_seq ?_
      refine sx_region (E := E) ?_
      refine so_fieldO (o' := 0) rfl rfl rfl Tryz.underlying27 rfl inf3 rfl rfl ?_
      refine so_load rfl rfl rfl (by first | exact ld_own Tryz.underlying3 rfl (by repeat (first | exact List.Mem.head _ | apply List.Mem.tail)) (by first | exact cellsOf_get rfl | rfl) | exact ld_data Tryz.underlying3 rfl (by first | assumption | exact InA.add (by assumption) | exact InA.add (InA.add (by assumption))) (by assumption)) ?_
      refine so_fieldO (o' := 1) rfl rfl rfl Tryz.underlying27 rfl inf3 rfl rfl ?_
      refine so_load rfl rfl rfl (by first | exact ld_own Tryz.underlying3 rfl (by repeat (first | exact List.Mem.head _ | apply List.Mem.tail)) (by first | exact cellsOf_get rfl | rfl) | exact ld_data Tryz.underlying3 rfl (by first | assumption | exact InA.add (by assumption) | exact InA.add (InA.add (by assumption))) (by assumption)) ?_
      refine so_build rfl rfl (by repeat (first | exact Opps.nil | apply Opps.cons rfl)) (by rfl) ?_
      refine so_alloc (cs := (.int .i64 0 :: .int .i64 0 :: .slice none 0 0 :: [])) rfl rfl (fun h => nomatch h) inf27 rfl rfl ?_
      intro N7
      refine so_storeA rfl (fun h => nomatch h) rfl rfl inf27 (by first | exact cellsOf_length _ _ | rfl) rfl (by repeat (first | exact .zero | apply Upd.succ)) (by first | exact cellsOf_set rfl | exact cellsOf_setr rfl | exact cellsOf_store rfl | exact store_all rfl | rfl) (by first | exact cellsOf_in rfl rfl | exact cellsOf_in rfl (cellsOf_length _ _) | exact cellsOf_le rfl | exact Nat.le_of_ble_eq_true rfl | omega) (fun h => nomatch h) ?_
      refine so_then ?_
      refine sx_seq ?_
      refine sx_seq ?_
      refine sx_region (E := E) ?_
      refine so_assign rfl rfl rfl ?_
      refine so_then ?_
      refine sx_block ?_
      refine sx_loop (σ := Nat × Nat × List (List CT)) (fun z => l.length - z.1) (fun z => [(1, .int .i64 16), (2, .pointer (some ⟨2 * N2 + 1, 0, none⟩)), (4, .pointer (some ⟨2 * N4 + 1, 0, none⟩)), (7, .pointer (some ⟨2 * N7 + 1, 0, none⟩)), (8, .int .i64 ((z.1 : Nat) : Int))]) (fun _ => S) (fun _ => A) (fun z => nlP z.2.1 z.2.2 ++ [(N7, .cells [.int .i64 w, .int .i64 h, nvP z.2.1 z.2.2] (boxsz E 27) true), (N4, .cells [.int .i64 0, .int .i64 0, .slice none 0 0] (boxsz E 27) true), (N2, .cells [.int .i64 w, .int .i64 h, .slice ax l.length cx] (boxsz E 27) true)]) (fun z => z.1 ≤ l.length ∧ z.2.2 = mapD 16 (l.take z.1)) ((0, 0, [])) (⟨Nat.zero_le _, rfl⟩) (by repeat (first | exact .nil | refine .cons rfl ?_)) rfl rfl (by repeat (first | exact List.nil_sublist _ | apply List.Sublist.cons_cons | apply List.Sublist.cons)) ?_
      intro z3 hJ2 t1
      obtain ⟨k, M, o⟩ := z3
      obtain ⟨hJ, ho⟩ := hJ2
      dsimp only at hJ ho ⊢
      have hoP : ∀ c ∈ o, PixL c := by rw [ho]; exact mapD_pix fun c hc => hpl c (List.mem_of_mem_take hc)
      have hol : o.length ≤ l.length := by rw [ho, mapD_len, List.length_take]; omega
      refine sx_seq ?_
      refine sx_seq ?_
      rcases o with _ | ⟨o1, os⟩ <;> rcases Nat.lt_or_ge k l.length with hk | hk
      · skip
        obtain ⟨qx, us, d2, eqx, ix, hc, lx, kx⟩ := rx.at' k hk
        cases eqx
        obtain ⟨r, g, b, a, rfl, rfl, _, _, _, _⟩ := pix4 kx
        dsimp only [nlP, nvP, List.nil_append, List.cons_append]
        refine sx_region (E := E) ?_
        refine so_move rfl rfl rfl ?_
        refine so_fieldO (o' := 2) rfl rfl rfl Tryz.underlying27 rfl inf25 rfl rfl ?_
        refine so_load rfl rfl rfl (by first | exact ld_own Tryz.underlying25 rfl (by repeat (first | exact List.Mem.head _ | apply List.Mem.tail)) (by first | exact cellsOf_get rfl | rfl) | exact ld_data Tryz.underlying25 rfl (by first | assumption | exact InA.add (by assumption) | exact InA.add (InA.add (by assumption))) (by assumption)) ?_
        refine so_lenL rfl rfl rfl rfl rfl rfl Tryz.underlying25 ?_
        refine so_bin rfl rfl rfl rfl (by first | exact bin_lss_t (by omega) | exact bin_lss_f (by omega)) ?_
        refine so_then ?_
        refine sx_true rfl ?_
        refine sx_skip ?_
        refine sk_then ?_
        refine sx_seq ?_
        refine sx_block ?_
        refine sx_seq ?_
        refine sx_region (E := E) ?_
        refine so_fieldO (o' := 2) rfl rfl rfl Tryz.underlying27 rfl inf25 rfl rfl ?_
        refine so_load rfl rfl rfl (by first | exact ld_own Tryz.underlying25 rfl (by repeat (first | exact List.Mem.head _ | apply List.Mem.tail)) (by first | exact cellsOf_get rfl | rfl) | exact ld_data Tryz.underlying25 rfl (by first | assumption | exact InA.add (by assumption) | exact InA.add (InA.add (by assumption))) (by assumption)) ?_
        refine so_move rfl rfl rfl ?_
        first | refine so_indexO rfl rfl rfl rfl Tryz.underlying25 inf35 rfl (by omega) rfl ?_ | refine so_index rfl rfl rfl rfl Tryz.underlying25 inf35 rfl (by omega) ?_
        refine so_load rfl rfl rfl (by first | exact ld_dataA Tryz.underlying35 rfl inf35 rfl (InA.add ix) lx | exact ld_ownA Tryz.underlying35 rfl inf35 rfl (by repeat (first | exact List.Mem.head _ | apply List.Mem.tail)) (by first | exact cellsOf_le rfl | exact Nat.le_of_ble_eq_true rfl | decide | omega) (by first | exact cellsOf_all | exact take_all rfl | exact cellsOf_part rfl | rfl) | exact ld_dataA Tryz.underlying35 rfl inf35 rfl (by first | assumption | exact InA.add (by assumption) | exact InA.add (InA.add (by assumption))) (by assumption)) ?_
        refine so_alloc (cs := (.int .i64 0 :: .int .i64 0 :: .int .i64 0 :: .int .i64 0 :: [])) rfl rfl (fun h => nomatch h) inf35 rfl rfl ?_
        intro N9
        refine so_storeA rfl (fun h => nomatch h) rfl rfl inf35 (by first | exact cellsOf_length _ _ | rfl) rfl (by repeat (first | exact .zero | apply Upd.succ)) (by first | exact cellsOf_set rfl | exact cellsOf_setr rfl | exact cellsOf_store rfl | exact store_all rfl | rfl) (by first | exact cellsOf_in rfl rfl | exact cellsOf_in rfl (cellsOf_length _ _) | exact cellsOf_le rfl | exact Nat.le_of_ble_eq_true rfl | omega) (fun h => nomatch h) ?_
        refine so_then ?_
        refine sx_seq ?_
        refine sx_seq ?_
        refine sx_region (E := E) ?_
        refine so_move rfl rfl rfl ?_
        refine so_bin rfl rfl rfl rfl (by first | exact bin_eql_t (by first | rfl | assumption | omega) | exact bin_eql_f (by first | rfl | assumption | omega)) ?_
        refine so_then ?_
        refine sx_false rfl ?_
        refine sx_skip ?_
        refine sk_then ?_
        refine sx_region (E := E) ?_
        refine so_fieldO (o' := 2) rfl rfl rfl Tryz.underlying27 rfl inf25 rfl rfl ?_
        refine so_load rfl rfl rfl (by first | exact ld_own Tryz.underlying25 rfl (by repeat (first | exact List.Mem.head _ | apply List.Mem.tail)) (by first | exact cellsOf_get rfl | rfl) | exact ld_data Tryz.underlying25 rfl (by first | assumption | exact InA.add (by assumption) | exact InA.add (InA.add (by assumption))) (by assumption)) ?_
        refine so_load rfl rfl rfl (by first | exact ld_ownA Tryz.underlying35 rfl inf35 rfl (by repeat (first | exact List.Mem.head _ | apply List.Mem.tail)) (by first | exact cellsOf_le rfl | exact Nat.le_of_ble_eq_true rfl | decide | omega) (by first | exact cellsOf_all | exact take_all rfl | exact cellsOf_part rfl | rfl) | exact ld_dataA Tryz.underlying35 rfl inf35 rfl (by first | assumption | exact InA.add (by assumption) | exact InA.add (InA.add (by assumption))) (by assumption)) ?_
        refine so_buildSlice (out := [.int .i64 r, .int .i64 g, .int .i64 b, .int .i64 a]) (s := 4) rfl rfl (fun h => nomatch h) (by repeat (first | exact Opps.nil | apply Opps.cons rfl)) Tryz.underlying25 inf35 rfl rfl (by kernel_rfl) rfl rfl ?_
        intro N62
        refine so_appNew (m := 1) (bt := 32) (sz := 4) (old := []) (cs' := cellsP [[.v (.int .i64 r), .v (.int .i64 g), .v (.int .i64 b), .v (.int .i64 a)]]) (k := 1) rfl rfl (fun h => nomatch h) rfl rfl rfl rfl rfl Tryz.underlying25 Tryz.underlying25 rfl inf35 rfl rfl (by decide) rfl (by decide) (first_own (List.Mem.head _) rfl) (.inl ⟨rfl, rfl, rfl⟩) (roomB_of (by decide)) (by decide) rfl rfl ?_
        intro M2
        refine so_fieldO (o' := 2) rfl rfl rfl Tryz.underlying27 rfl inf25 rfl rfl ?_
        refine so_storeS rfl (fun h => nomatch h) rfl rfl inf25 rfl rfl (by repeat (first | exact .zero | apply Upd.succ)) (by first | exact cellsOf_set rfl | exact cellsOf_setr rfl | exact cellsOf_store rfl | exact store_all rfl | rfl) (by first | exact cellsOf_in rfl rfl | exact cellsOf_in rfl (cellsOf_length _ _) | exact cellsOf_le rfl | exact Nat.le_of_ble_eq_true rfl | omega) (fun h => nomatch h) ?_
        refine so_nil ?_
        refine sk_block ?_
        refine sk_then ?_
        refine sx_region (E := E) ?_
        refine so_move rfl rfl rfl ?_
        refine so_bin rfl rfl rfl rfl (by first | exact bin_incr (by omega) | exact bin_add (wrap64 (by omega) (by omega)) | exact bin_add rfl) ?_
        refine so_assign rfl rfl rfl ?_
        refine so_nil ?_
        exact sk_round (k + 1, M2, [[.v (.int .i64 r), .v (.int .i64 g), .v (.int .i64 b), .v (.int .i64 a)]]) (show l.length - (k + 1) < l.length - k by omega) ⟨show k + 1 ≤ l.length by omega, by (rw [mapD_snoc16 hc rfl, ← ho]) <;> rfl⟩ (by repeat (first | exact .nil | refine .cons rfl ?_)) rfl rfl (by first | exact List.Sublist.refl _ | exact (by repeat (first | exact List.nil_sublist _ | apply List.Sublist.cons_cons | apply List.Sublist.cons)))
      · skip
        rw [List.take_of_length_le (by omega)] at ho
        dsimp only [nlP, nvP, List.nil_append, List.cons_append]
        refine sx_region (E := E) ?_
        refine so_move rfl rfl rfl ?_
        refine so_fieldO (o' := 2) rfl rfl rfl Tryz.underlying27 rfl inf25 rfl rfl ?_
        refine so_load rfl rfl rfl (by first | exact ld_own Tryz.underlying25 rfl (by repeat (first | exact List.Mem.head _ | apply List.Mem.tail)) (by first | exact cellsOf_get rfl | rfl) | exact ld_data Tryz.underlying25 rfl (by first | assumption | exact InA.add (by assumption) | exact InA.add (InA.add (by assumption))) (by assumption)) ?_
        refine so_lenL rfl rfl rfl rfl rfl rfl Tryz.underlying25 ?_
        refine so_bin rfl rfl rfl rfl (by first | exact bin_lss_t (by omega) | exact bin_lss_f (by omega)) ?_
        refine so_then ?_
        refine sx_false rfl ?_
        refine sx_exit ?_
        refine sk_then_exit ?_
        refine sk_loop_exit ?_
        refine sk_block_exit ?_
        refine sk_then ?_
        refine sx_seq ?_
        refine sx_region (E := E) ?_
        refine so_load rfl rfl rfl (by first | exact ld_ownA Tryz.underlying27 rfl inf27 rfl (by repeat (first | exact List.Mem.head _ | apply List.Mem.tail)) (by first | exact cellsOf_le rfl | exact Nat.le_of_ble_eq_true rfl | decide | omega) (by first | exact cellsOf_all | exact take_all rfl | exact cellsOf_part rfl | rfl) | exact ld_dataA Tryz.underlying27 rfl inf27 rfl (by first | assumption | exact InA.add (by assumption) | exact InA.add (InA.add (by assumption))) (by assumption)) ?_
        refine so_storeA rfl (fun h => nomatch h) rfl rfl inf27 (by first | exact cellsOf_length _ _ | rfl) rfl (by repeat (first | exact .zero | apply Upd.succ)) (by first | exact cellsOf_set rfl | exact cellsOf_setr rfl | exact cellsOf_store rfl | exact store_all rfl | rfl) (by first | exact cellsOf_in rfl rfl | exact cellsOf_in rfl (cellsOf_length _ _) | exact cellsOf_le rfl | exact Nat.le_of_ble_eq_true rfl | omega) (fun h => nomatch h) ?_
        refine so_assign rfl rfl rfl ?_
        refine so_then ?_
        refine sx_ret ?_
        refine sk_return2 (.cell rfl (by first | exact ld_ownA Tryz.underlying27 rfl inf27 rfl (by repeat (first | exact List.Mem.head _ | apply List.Mem.tail)) (by first | exact cellsOf_le rfl | exact Nat.le_of_ble_eq_true rfl | decide | omega) (by first | exact cellsOf_all | exact take_all rfl | exact cellsOf_part rfl | rfl) | exact ld_dataA Tryz.underlying27 rfl inf27 rfl (by first | assumption | exact InA.add (by assumption) | exact InA.add (InA.add (by assumption))) (by assumption)) (.tmp rfl .nil)) ?_
        exact fun H hH => ⟨hH.kept, rndT_ok he (by decide) (by rw [← ho]; exact nil_row)⟩
      · skip
        obtain ⟨qx, us, d2, eqx, ix, hc, lx, kx⟩ := rx.at' k hk
        cases eqx
        obtain ⟨r, g, b, a, rfl, rfl, _, _, _, _⟩ := pix4 kx
        dsimp only [nlP, nvP, List.nil_append, List.cons_append]
        refine sx_region (E := E) ?_
        refine so_move rfl rfl rfl ?_
        refine so_fieldO (o' := 2) rfl rfl rfl Tryz.underlying27 rfl inf25 rfl rfl ?_
        refine so_load rfl rfl rfl (by first | exact ld_own Tryz.underlying25 rfl (by repeat (first | exact List.Mem.head _ | apply List.Mem.tail)) (by first | exact cellsOf_get rfl | rfl) | exact ld_data Tryz.underlying25 rfl (by first | assumption | exact InA.add (by assumption) | exact InA.add (InA.add (by assumption))) (by assumption)) ?_
        refine so_lenL rfl rfl rfl rfl rfl rfl Tryz.underlying25 ?_
        refine so_bin rfl rfl rfl rfl (by first | exact bin_lss_t (by omega) | exact bin_lss_f (by omega)) ?_
        refine so_then ?_
        refine sx_true rfl ?_
        refine sx_skip ?_
        refine sk_then ?_
        refine sx_seq ?_
        refine sx_block ?_
        refine sx_seq ?_
        refine sx_region (E := E) ?_
        refine so_fieldO (o' := 2) rfl rfl rfl Tryz.underlying27 rfl inf25 rfl rfl ?_
        refine so_load rfl rfl rfl (by first | exact ld_own Tryz.underlying25 rfl (by repeat (first | exact List.Mem.head _ | apply List.Mem.tail)) (by first | exact cellsOf_get rfl | rfl) | exact ld_data Tryz.underlying25 rfl (by first | assumption | exact InA.add (by assumption) | exact InA.add (InA.add (by assumption))) (by assumption)) ?_
        refine so_move rfl rfl rfl ?_
        first | refine so_indexO rfl rfl rfl rfl Tryz.underlying25 inf35 rfl (by omega) rfl ?_ | refine so_index rfl rfl rfl rfl Tryz.underlying25 inf35 rfl (by omega) ?_
        refine so_load rfl rfl rfl (by first | exact ld_dataA Tryz.underlying35 rfl inf35 rfl (InA.add ix) lx | exact ld_ownA Tryz.underlying35 rfl inf35 rfl (by repeat (first | exact List.Mem.head _ | apply List.Mem.tail)) (by first | exact cellsOf_le rfl | exact Nat.le_of_ble_eq_true rfl | decide | omega) (by first | exact cellsOf_all | exact take_all rfl | exact cellsOf_part rfl | rfl) | exact ld_dataA Tryz.underlying35 rfl inf35 rfl (by first | assumption | exact InA.add (by assumption) | exact InA.add (InA.add (by assumption))) (by assumption)) ?_
        refine so_alloc (cs := (.int .i64 0 :: .int .i64 0 :: .int .i64 0 :: .int .i64 0 :: [])) rfl rfl (fun h => nomatch h) inf35 rfl rfl ?_
        intro N9
        refine so_storeA rfl (fun h => nomatch h) rfl rfl inf35 (by first | exact cellsOf_length _ _ | rfl) rfl (by repeat (first | exact .zero | apply Upd.succ)) (by first | exact cellsOf_set rfl | exact cellsOf_setr rfl | exact cellsOf_store rfl | exact store_all rfl | rfl) (by first | exact cellsOf_in rfl rfl | exact cellsOf_in rfl (cellsOf_length _ _) | exact cellsOf_le rfl | exact Nat.le_of_ble_eq_true rfl | omega) (fun h => nomatch h) ?_
        refine so_then ?_
        refine sx_seq ?_
        refine sx_seq ?_
        refine sx_region (E := E) ?_
        refine so_move rfl rfl rfl ?_
        refine so_bin rfl rfl rfl rfl (by first | exact bin_eql_t (by first | rfl | assumption | omega) | exact bin_eql_f (by first | rfl | assumption | omega)) ?_
        refine so_then ?_
        refine sx_false rfl ?_
        refine sx_skip ?_
        refine sk_then ?_
        refine sx_region (E := E) ?_
        refine so_fieldO (o' := 2) rfl rfl rfl Tryz.underlying27 rfl inf25 rfl rfl ?_
        refine so_load rfl rfl rfl (by first | exact ld_own Tryz.underlying25 rfl (by repeat (first | exact List.Mem.head _ | apply List.Mem.tail)) (by first | exact cellsOf_get rfl | rfl) | exact ld_data Tryz.underlying25 rfl (by first | assumption | exact InA.add (by assumption) | exact InA.add (InA.add (by assumption))) (by assumption)) ?_
        refine so_load rfl rfl rfl (by first | exact ld_ownA Tryz.underlying35 rfl inf35 rfl (by repeat (first | exact List.Mem.head _ | apply List.Mem.tail)) (by first | exact cellsOf_le rfl | exact Nat.le_of_ble_eq_true rfl | decide | omega) (by first | exact cellsOf_all | exact take_all rfl | exact cellsOf_part rfl | rfl) | exact ld_dataA Tryz.underlying35 rfl inf35 rfl (by first | assumption | exact InA.add (by assumption) | exact InA.add (InA.add (by assumption))) (by assumption)) ?_
        refine so_buildSlice (out := [.int .i64 r, .int .i64 g, .int .i64 b, .int .i64 a]) (s := 4) rfl rfl (fun h => nomatch h) (by repeat (first | exact Opps.nil | apply Opps.cons rfl)) Tryz.underlying25 inf35 rfl rfl (by kernel_rfl) rfl rfl ?_
        intro N62
        refine so_appAny (m := 1) (bt := 32) (sz := 4) (old := cellsP (o1 :: os)) (N := M) (ex := false) (cs' := cellsP ((o1 :: os) ++ [[.v (.int .i64 r), .v (.int .i64 g), .v (.int .i64 b), .v (.int .i64 a)]])) (k := List.length (α := List CT) ((o1 :: os) ++ [[.v (.int .i64 r), .v (.int .i64 g), .v (.int .i64 b), .v (.int .i64 a)]])) rfl rfl (fun h => nomatch h) rfl rfl rfl rfl rfl Tryz.underlying25 Tryz.underlying25 rfl inf35 rfl rfl (by decide) rfl (by decide) (first_own (List.Mem.head _) rfl) (.succ (.succ .zero)) (cellsP_len hoP) rfl (roomB_of (by omega)) (by omega) (cellsP_snoc (o1 :: os) [.v (.int .i64 r), .v (.int .i64 g), .v (.int .i64 b), .v (.int .i64 a)]).symm (fun h => nomatch h) (snoc_len _ _) ?_
        intro M2
        refine so_fieldO (o' := 2) rfl rfl rfl Tryz.underlying27 rfl inf25 rfl rfl ?_
        refine so_storeS rfl (fun h => nomatch h) rfl rfl inf25 rfl rfl (by repeat (first | exact .zero | apply Upd.succ)) (by first | exact cellsOf_set rfl | exact cellsOf_setr rfl | exact cellsOf_store rfl | exact store_all rfl | rfl) (by first | exact cellsOf_in rfl rfl | exact cellsOf_in rfl (cellsOf_length _ _) | exact cellsOf_le rfl | exact Nat.le_of_ble_eq_true rfl | omega) (fun h => nomatch h) ?_
        refine so_nil ?_
        refine sk_block ?_
        refine sk_then ?_
        refine sx_region (E := E) ?_
        refine so_move rfl rfl rfl ?_
        refine so_bin rfl rfl rfl rfl (by first | exact bin_incr (by omega) | exact bin_add (wrap64 (by omega) (by omega)) | exact bin_add rfl) ?_
        refine so_assign rfl rfl rfl ?_
        refine so_nil ?_
        exact sk_round (k + 1, M2, (o1 :: os) ++ [[.v (.int .i64 r), .v (.int .i64 g), .v (.int .i64 b), .v (.int .i64 a)]]) (show l.length - (k + 1) < l.length - k by omega) ⟨show k + 1 ≤ l.length by omega, by (rw [mapD_snoc16 hc rfl, ← ho]) <;> rfl⟩ (by repeat (first | exact .nil | refine .cons rfl ?_)) rfl rfl (by first | exact List.Sublist.refl _ | exact (by repeat (first | exact List.nil_sublist _ | apply List.Sublist.cons_cons | apply List.Sublist.cons)))
      · skip
        rw [List.take_of_length_le (by omega)] at ho
        dsimp only [nlP, nvP, List.nil_append, List.cons_append]
        refine sx_region (E := E) ?_
        refine so_move rfl rfl rfl ?_
        refine so_fieldO (o' := 2) rfl rfl rfl Tryz.underlying27 rfl inf25 rfl rfl ?_
        refine so_load rfl rfl rfl (by first | exact ld_own Tryz.underlying25 rfl (by repeat (first | exact List.Mem.head _ | apply List.Mem.tail)) (by first | exact cellsOf_get rfl | rfl) | exact ld_data Tryz.underlying25 rfl (by first | assumption | exact InA.add (by assumption) | exact InA.add (InA.add (by assumption))) (by assumption)) ?_
        refine so_lenL rfl rfl rfl rfl rfl rfl Tryz.underlying25 ?_
        refine so_bin rfl rfl rfl rfl (by first | exact bin_lss_t (by omega) | exact bin_lss_f (by omega)) ?_
        refine so_then ?_
        refine sx_false rfl ?_
        refine sx_exit ?_
        refine sk_then_exit ?_
        refine sk_loop_exit ?_
        refine sk_block_exit ?_
        refine sk_then ?_
        refine sx_seq ?_
        refine sx_region (E := E) ?_
        refine so_load rfl rfl rfl (by first | exact ld_ownA Tryz.underlying27 rfl inf27 rfl (by repeat (first | exact List.Mem.head _ | apply List.Mem.tail)) (by first | exact cellsOf_le rfl | exact Nat.le_of_ble_eq_true rfl | decide | omega) (by first | exact cellsOf_all | exact take_all rfl | exact cellsOf_part rfl | rfl) | exact ld_dataA Tryz.underlying27 rfl inf27 rfl (by first | assumption | exact InA.add (by assumption) | exact InA.add (InA.add (by assumption))) (by assumption)) ?_
        refine so_storeA rfl (fun h => nomatch h) rfl rfl inf27 (by first | exact cellsOf_length _ _ | rfl) rfl (by repeat (first | exact .zero | apply Upd.succ)) (by first | exact cellsOf_set rfl | exact cellsOf_setr rfl | exact cellsOf_store rfl | exact store_all rfl | rfl) (by first | exact cellsOf_in rfl rfl | exact cellsOf_in rfl (cellsOf_length _ _) | exact cellsOf_le rfl | exact Nat.le_of_ble_eq_true rfl | omega) (fun h => nomatch h) ?_
        refine so_assign rfl rfl rfl ?_
        refine so_then ?_
        refine sx_ret ?_
        refine sk_return2 (.cell rfl (by first | exact ld_ownA Tryz.underlying27 rfl inf27 rfl (by repeat (first | exact List.Mem.head _ | apply List.Mem.tail)) (by first | exact cellsOf_le rfl | exact Nat.le_of_ble_eq_true rfl | decide | omega) (by first | exact cellsOf_all | exact take_all rfl | exact cellsOf_part rfl | rfl) | exact ld_dataA Tryz.underlying27 rfl inf27 rfl (by first | assumption | exact InA.add (by assumption) | exact InA.add (InA.add (by assumption))) (by assumption)) (.tmp rfl .nil)) ?_
        exact fun H hH => ⟨hH.kept, rndT_ok he (by decide) (by rw [← ho]; exact own_pixs hH (by repeat (first | exact List.Mem.head _ | apply List.Mem.tail)) hoP (by omega))⟩
    · skip
      refine sx_region (E := E) ?_
      refine so_move rfl rfl rfl ?_
      refine so_bin rfl rfl rfl rfl (by first | exact bin_neq_f (by first | rfl | assumption | omega) | exact bin_neq_t (by first | rfl | assumption | omega)) ?_
      refine so_move rfl rfl rfl ?_
      first | refine so_move rfl rfl rfl ?_ | refine so_skip rfl rfl rfl ?_
      first | refine so_bin rfl rfl rfl rfl (by first | exact bin_neq_f (by first | rfl | assumption | omega) | exact bin_neq_t (by first | rfl | assumption | omega)) ?_ | refine so_skip rfl rfl rfl ?_
      first | refine so_pick_t rfl rfl rfl rfl ?_ | refine so_pick_f rfl rfl rfl rfl ?_
      refine so_then ?_
      refine sx_true rfl ?_
      refine sx_seq ?_
      refine sx_region (E := E) ?_
      refine so_build rfl rfl (by repeat (first | exact Opps.nil | apply Opps.cons rfl)) (by rfl) ?_
      refine so_storeA rfl (fun h => nomatch h) rfl rfl inf27 (by first | exact cellsOf_length _ _ | rfl) rfl (by repeat (first | exact .zero | apply Upd.succ)) (by first | exact cellsOf_set rfl | exact cellsOf_setr rfl | exact cellsOf_store rfl | exact store_all rfl | rfl) (by first | exact cellsOf_in rfl rfl | exact cellsOf_in rfl (cellsOf_length _ _) | exact cellsOf_le rfl | exact Nat.le_of_ble_eq_true rfl | omega) (fun h => nomatch h) ?_
      refine so_assign rfl rfl rfl ?_
      refine so_then ?_
      refine sx_ret ?_
      refine sk_then_ret ?_
      refine sk_return2 (.cell rfl (by first | exact ld_ownA Tryz.underlying27 rfl inf27 rfl (by repeat (first | exact List.Mem.head _ | apply List.Mem.tail)) (by first | exact cellsOf_le rfl | exact Nat.le_of_ble_eq_true rfl | decide | omega) (by first | exact cellsOf_all | exact take_all rfl | exact cellsOf_part rfl | rfl) | exact ld_dataA Tryz.underlying27 rfl inf27 rfl (by first | assumption | exact InA.add (by assumption) | exact InA.add (InA.add (by assumption))) (by assumption)) (.tmp rfl .nil)) ?_
      exact fun H hH => ⟨hH.kept, rndT_dep he h8 h16⟩
  · skip
    refine sx_region (E := E) ?_
    refine so_move rfl rfl rfl ?_
    refine so_bin rfl rfl rfl rfl (by first | exact bin_neq_f (by first | rfl | assumption | omega) | exact bin_neq_t (by first | rfl | assumption | omega)) ?_
    refine so_then ?_
    refine sx_true rfl ?_
    refine sx_seq ?_
    refine sx_region (E := E) ?_
    refine so_build rfl rfl (by repeat (first | exact Opps.nil | apply Opps.cons rfl)) (by rfl) ?_
    refine so_move rfl rfl rfl ?_
    refine so_storeA rfl (fun h => nomatch h) rfl rfl inf27 (by first | exact cellsOf_length _ _ | rfl) rfl (by repeat (first | exact .zero | apply Upd.succ)) (by first | exact cellsOf_set rfl | exact cellsOf_setr rfl | exact cellsOf_store rfl | exact store_all rfl | rfl) (by first | exact cellsOf_in rfl rfl | exact cellsOf_in rfl (cellsOf_length _ _) | exact cellsOf_le rfl | exact Nat.le_of_ble_eq_true rfl | omega) (fun h => nomatch h) ?_
    refine so_assign rfl rfl rfl ?_
    refine so_then ?_
    refine sx_ret ?_
    refine sk_then_ret ?_
    refine sk_return2 (.cell rfl (by first | exact ld_ownA Tryz.underlying27 rfl inf27 rfl (by repeat (first | exact List.Mem.head _ | apply List.Mem.tail)) (by first | exact cellsOf_le rfl | exact Nat.le_of_ble_eq_true rfl | decide | omega) (by first | exact cellsOf_all | exact take_all rfl | exact cellsOf_part rfl | rfl) | exact ld_dataA Tryz.underlying27 rfl inf27 rfl (by first | assumption | exact InA.add (by assumption) | exact InA.add (InA.add (by assumption))) (by assumption)) (.tmp rfl .nil)) ?_
    exact fun H hH => ⟨hH.kept, rndT_err he⟩

theorem same_ok {S : AH} {A : Nat → Prop} (hA : ∀ j, A j → j < S.nx) {w h : Int} {x y : Value} {l : List (List CT)} (hx : CellA A S (.row 32 k35) x (.row l)) (hy : CellA A S (.row 32 k35) y (.row l)) : XCall Tryz.prog 11 [.agg ⟨[.int .i64 w, .int .i64 h, x]⟩, .agg ⟨[.int .i64 w, .int .i64 h, y]⟩] S fun v H' => v = .bool true ∧ Kept S.nx S H' := by
  obtain ⟨l2, ax, cx, e2, rfl, rx⟩ := hx.rowD
  cases e2
  obtain ⟨l2, ay, cy, e2, rfl, ry⟩ := hy.rowD
  cases e2
  have hb := rx.len
  refine x_enter (E := E) (n := 45) (rs := [.tmp 4]) (l := [(1, _), (0, _)]) (fn_own Tryz.func11 rfl rfl rfl) hA rfl ?_
  refine sx_seq ?_
  refine sx_region (E := E) ?_
  refine so_boxA rfl rfl (fun h => nomatch h) rfl ?_
  intro N2
  refine so_boxA rfl rfl (fun h => nomatch h) rfl ?_
  intro N3
  refine so_assign rfl rfl rfl ?_
  refine so_then ?_
  refine sx_seq ?_
  refine sx_seq ?_
  refine sx_region (E := E) ?_
  refine so_fieldO (o' := 0) rfl rfl rfl Tryz.underlying27 rfl inf3 rfl rfl ?_
  refine so_load rfl rfl rfl (by first | exact ld_own Tryz.underlying3 rfl (by repeat (first | exact List.Mem.head _ | apply List.Mem.tail)) (by first | exact cellsOf_get rfl | rfl) | exact ld_data Tryz.underlying3 rfl (by first | assumption | exact InA.add (by assumption) | exact InA.add (InA.add (by assumption))) (by assumption)) ?_
  refine so_fieldO (o' := 0) rfl rfl rfl Tryz.underlying27 rfl inf3 rfl rfl ?_
  refine so_load rfl rfl rfl (by first | exact ld_own Tryz.underlying3 rfl (by repeat (first | exact List.Mem.head _ | apply List.Mem.tail)) (by first | exact cellsOf_get rfl | rfl) | exact ld_data Tryz.underlying3 rfl (by first | assumption | exact InA.add (by assumption) | exact InA.add (InA.add (by assumption))) (by assumption)) ?_
  refine so_bin rfl rfl rfl rfl (by first | exact bin_neq_f (by first | rfl | assumption | omega) | exact bin_neq_t (by first | rfl | assumption | omega)) ?_
  refine so_move rfl rfl rfl ?_
  first | refine so_fieldO (o' := 1) rfl rfl rfl Tryz.underlying27 rfl inf3 rfl rfl ?_ | refine so_skip rfl rfl rfl ?_
  first | refine so_load rfl rfl rfl (by first | exact ld_own Tryz.underlying3 rfl (by repeat (first | exact List.Mem.head _ | apply List.Mem.tail)) (by first | exact cellsOf_get rfl | rfl) | exact ld_data Tryz.underlying3 rfl (by first | assumption | exact InA.add (by assumption) | exact InA.add (InA.add (by assumption))) (by assumption)) ?_ | refine so_skip rfl rfl rfl ?_
  first | refine so_fieldO (o' := 1) rfl rfl rfl Tryz.underlying27 rfl inf3 rfl rfl ?_ | refine so_skip rfl rfl rfl ?_
  first | refine so_load rfl rfl rfl (by first | exact ld_own Tryz.underlying3 rfl (by repeat (first | exact List.Mem.head _ | apply List.Mem.tail)) (by first | exact cellsOf_get rfl | rfl) | exact ld_data Tryz.underlying3 rfl (by first | assumption | exact InA.add (by assumption) | exact InA.add (InA.add (by assumption))) (by assumption)) ?_ | refine so_skip rfl rfl rfl ?_
  first | refine so_bin rfl rfl rfl rfl (by first | exact bin_neq_f (by first | rfl | assumption | omega) | exact bin_neq_t (by first | rfl | assumption | omega)) ?_ | refine so_skip rfl rfl rfl ?_
  first | refine so_pick_t rfl rfl rfl rfl ?_ | refine so_pick_f rfl rfl rfl rfl ?_
  refine so_move rfl rfl rfl ?_
  first | refine so_fieldO (o' := 2) rfl rfl rfl Tryz.underlying27 rfl inf25 rfl rfl ?_ | refine so_skip rfl rfl rfl ?_
  first | refine so_load rfl rfl rfl (by first | exact ld_own Tryz.underlying25 rfl (by repeat (first | exact List.Mem.head _ | apply List.Mem.tail)) (by first | exact cellsOf_get rfl | rfl) | exact ld_data Tryz.underlying25 rfl (by first | assumption | exact InA.add (by assumption) | exact InA.add (InA.add (by assumption))) (by assumption)) ?_ | refine so_skip rfl rfl rfl ?_
  first | refine so_lenL rfl rfl rfl rfl rfl rfl Tryz.underlying25 ?_ | refine so_skip rfl rfl rfl ?_
  first | refine so_fieldO (o' := 2) rfl rfl rfl Tryz.underlying27 rfl inf25 rfl rfl ?_ | refine so_skip rfl rfl rfl ?_
  first | refine so_load rfl rfl rfl (by first | exact ld_own Tryz.underlying25 rfl (by repeat (first | exact List.Mem.head _ | apply List.Mem.tail)) (by first | exact cellsOf_get rfl | rfl) | exact ld_data Tryz.underlying25 rfl (by first | assumption | exact InA.add (by assumption) | exact InA.add (InA.add (by assumption))) (by assumption)) ?_ | refine so_skip rfl rfl rfl ?_
  first | refine so_lenL rfl rfl rfl rfl rfl rfl Tryz.underlying25 ?_ | refine so_skip rfl rfl rfl ?_
  first | refine so_bin rfl rfl rfl rfl (by first | exact bin_neq_f (by first | rfl | assumption | omega) | exact bin_neq_t (by first | rfl | assumption | omega)) ?_ | refine so_skip rfl rfl rfl ?_
  first | refine so_pick_t rfl rfl rfl rfl ?_ | refine so_pick_f rfl rfl rfl rfl ?_
  refine so_then ?_
  refine sx_false rfl ?_
  refine sx_skip ?_
  refine sk_then ?_
  refine sx_seq ?_
  refine sx_seq ?_
  refine sx_region (E := E) ?_
  refine so_fieldO (o' := 2) rfl rfl rfl Tryz.underlying27 rfl inf25 rfl rfl ?_
  refine so_load rfl rfl rfl (by first | exact ld_own Tryz.underlying25 rfl (by repeat (first | exact List.Mem.head _ | apply List.Mem.tail)) (by first | exact cellsOf_get rfl | rfl) | exact ld_data Tryz.underlying25 rfl (by first | assumption | exact InA.add (by assumption) | exact InA.add (InA.add (by assumption))) (by assumption)) ?_
  refine so_lenL rfl rfl rfl rfl rfl rfl Tryz.underlying25 ?_
  refine so_move rfl rfl rfl ?_
  refine so_then ?_
  refine sx_block ?_
  refine sx_loop (σ := Nat) (fun k => l.length - k) (fun k => [(2, .pointer (some ⟨2 * N2 + 1, 0, none⟩)), (3, .pointer (some ⟨2 * N3 + 1, 0, none⟩)), (29, .int .i64 ((l.length : Nat) : Int)), (30, .int .i64 ((k : Nat) : Int))]) (fun _ => S) (fun _ => A) (fun _ => [(N3, .cells [.int .i64 w, .int .i64 h, .slice ay l.length cy] (boxsz E 27) true), (N2, .cells [.int .i64 w, .int .i64 h, .slice ax l.length cx] (boxsz E 27) true)]) (fun k => k ≤ l.length) (0) (Nat.zero_le _) (by repeat (first | exact .nil | refine .cons rfl ?_)) rfl rfl (by repeat (first | exact List.nil_sublist _ | apply List.Sublist.cons_cons | apply List.Sublist.cons)) ?_
  intro s hJ t1
  refine sx_seq ?_
  rcases Nat.lt_or_ge s l.length with hk | hk
  · skip
    obtain ⟨qx, us, d, eqx, ix, hc, lx, kx⟩ := rx.at' s hk
    cases eqx
    obtain ⟨qy, vs, d2, eqy, iy, hc2, ly, ky⟩ := ry.at' s hk
    cases eqy
    rw [hc] at hc2
    cases hc2
    refine sx_region (E := E) ?_
    refine so_bin rfl rfl rfl rfl (by first | exact bin_lss_t (by omega) | exact bin_lss_f (by omega)) ?_
    refine so_then ?_
    refine sx_seq ?_
    refine sx_true rfl ?_
    refine sx_skip ?_
    refine sk_then ?_
    refine sx_seq ?_
    refine sx_block ?_
    refine sx_seq ?_
    refine sx_region (E := E) ?_
    refine so_move rfl rfl rfl ?_
    refine so_assign rfl rfl rfl ?_
    refine so_then ?_
    refine sx_seq ?_
    refine sx_draw (E := E) mixed [] _ (List.Sublist.refl _) (by kernel_rfl) (by kernel_rfl) (by decide) ?_
    refine so_fieldO (o' := 2) rfl rfl rfl Tryz.underlying27 rfl inf25 rfl rfl ?_
    refine so_load rfl rfl rfl (by first | exact ld_own Tryz.underlying25 rfl (by repeat (first | exact List.Mem.head _ | apply List.Mem.tail)) (by first | exact cellsOf_get rfl | rfl) | exact ld_data Tryz.underlying25 rfl (by first | assumption | exact InA.add (by assumption) | exact InA.add (InA.add (by assumption))) (by assumption)) ?_
    refine so_move rfl rfl rfl ?_
    first | refine so_indexO rfl rfl rfl rfl Tryz.underlying25 inf35 rfl (by omega) rfl ?_ | refine so_index rfl rfl rfl rfl Tryz.underlying25 inf35 rfl (by omega) ?_
    refine so_load rfl rfl rfl (by first | exact ld_dataA Tryz.underlying35 rfl inf35 rfl (InA.add ix) lx | exact ld_ownA Tryz.underlying35 rfl inf35 rfl (by repeat (first | exact List.Mem.head _ | apply List.Mem.tail)) (by first | exact cellsOf_le rfl | exact Nat.le_of_ble_eq_true rfl | decide | omega) (by first | exact cellsOf_all | exact take_all rfl | exact cellsOf_part rfl | rfl) | exact ld_dataA Tryz.underlying35 rfl inf35 rfl (by first | assumption | exact InA.add (by assumption) | exact InA.add (InA.add (by assumption))) (by assumption)) ?_
    refine so_fieldO (o' := 2) rfl rfl rfl Tryz.underlying27 rfl inf25 rfl rfl ?_
    refine so_load rfl rfl rfl (by first | exact ld_own Tryz.underlying25 rfl (by repeat (first | exact List.Mem.head _ | apply List.Mem.tail)) (by first | exact cellsOf_get rfl | rfl) | exact ld_data Tryz.underlying25 rfl (by first | assumption | exact InA.add (by assumption) | exact InA.add (InA.add (by assumption))) (by assumption)) ?_
    refine so_move rfl rfl rfl ?_
    first | refine so_indexO rfl rfl rfl rfl Tryz.underlying25 inf35 rfl (by omega) rfl ?_ | refine so_index rfl rfl rfl rfl Tryz.underlying25 inf35 rfl (by omega) ?_
    refine so_load rfl rfl rfl (by first | exact ld_dataA Tryz.underlying35 rfl inf35 rfl (InA.add iy) ly | exact ld_ownA Tryz.underlying35 rfl inf35 rfl (by repeat (first | exact List.Mem.head _ | apply List.Mem.tail)) (by first | exact cellsOf_le rfl | exact Nat.le_of_ble_eq_true rfl | decide | omega) (by first | exact cellsOf_all | exact take_all rfl | exact cellsOf_part rfl | rfl) | exact ld_dataA Tryz.underlying35 rfl inf35 rfl (by first | assumption | exact InA.add (by assumption) | exact InA.add (InA.add (by assumption))) (by assumption)) ?_
    refine so_bin rfl rfl rfl rfl (by first | exact (bin_aggsame Tryz.underlying35 rfl (by kernel_rfl) rfl kx ky).2) ?_
    refine so_then ?_
    refine sx_false rfl ?_
    refine sx_skip ?_
    refine sk_block ?_
    refine sk_then ?_
    refine sx_region (E := E) ?_
    refine so_bin rfl rfl rfl rfl (by first | exact bin_incr (by omega) | exact bin_add (wrap64 (by omega) (by omega)) | exact bin_add rfl) ?_
    refine so_move rfl rfl rfl ?_
    refine so_nil ?_
    exact sk_round (s + 1) (show l.length - (s + 1) < l.length - s by omega) (show s + 1 ≤ l.length by omega) (by repeat (first | exact .nil | refine .cons rfl ?_)) rfl rfl (by repeat (first | exact List.nil_sublist _ | apply List.Sublist.cons_cons | apply List.Sublist.cons))
  · skip
    refine sx_region (E := E) ?_
    refine so_bin rfl rfl rfl rfl (by first | exact bin_lss_t (by omega) | exact bin_lss_f (by omega)) ?_
    refine so_then ?_
    refine sx_seq ?_
    refine sx_false rfl ?_
    refine sx_exit ?_
    refine sk_then_exit ?_
    refine sk_loop_exit ?_
    refine sk_block_exit ?_
    refine sk_then ?_
    refine sx_seq ?_
    refine sx_region (E := E) ?_
    refine so_assign rfl rfl rfl ?_
    refine so_then ?_
    refine sx_ret ?_
    refine sk_return1 (.tmp rfl .nil) ?_
    exact fun H hH => ⟨rfl, hH.kept⟩

end Go.Proofs.YtljakaaebljiiaaGreatDoor
