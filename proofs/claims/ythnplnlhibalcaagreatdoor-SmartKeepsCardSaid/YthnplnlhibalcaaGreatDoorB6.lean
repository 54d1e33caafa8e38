/-
  Walks, laid by program.
-/
import Derived.Test.YthnplnlhibalcaaGreatDoorB5
import Derived.Test.YthnplnlhibalcaaGreatDoorAM30
set_option linter.unusedVariables false
set_option linter.unusedSimpArgs false
set_option maxRecDepth 100000
namespace Go.Proofs.YthnplnlhibalcaaGreatDoor
open Go Go.AM

theorem firstOk_m {S H0 : AH} {A0 A : Nat → Prop} {L : OL} {sz m m' : Nat} {x : Value} {new : List Value} (h : FirstOk S H0 A0 A L sz m x new) (e : m = m') : FirstOk S H0 A0 A L sz m' x new := e ▸ h
/-- the elements of rows, one row after the other -/
def rowL : List CT → List (List CT)
  | [.row l] => l
  | _ => []
def flatR (rs : List (List CT)) : List (List CT) := rs.flatMap rowL
theorem flatR_step {rs : List (List CT)} {k : Nat} {l : List (List CT)} (h : rs[k]? = some [.row l]) : flatR (rs.take (k + 1)) = flatR (rs.take k) ++ l := by
  rw [take_snoc' h]; simp [flatR, List.flatMap_append, rowL]
theorem flatR_le (rs : List (List CT)) (k : Nat) : (flatR (rs.take k)).length ≤ (flatR rs).length := by
  have h : flatR rs = flatR (rs.take k) ++ flatR (rs.drop k) := by unfold flatR; rw [← List.flatMap_append, List.take_append_drop]
  rw [h, List.length_append]; omega
theorem row_open {A : Nat → Prop} {H : AH} {xs : List Value} {c : List CT} (h : CellsA A H [.row 40 k24] xs c) : ∃ l0 a0 c0, xs = [.slice a0 l0.length c0] ∧ c = [.row l0] ∧ RowD A H 40 k24 l0 a0 c0 := by
  obtain ⟨h1, h2⟩ := h.len
  obtain ⟨x, rfl⟩ := List.length_eq_one_iff.1 h1
  obtain ⟨d, rfl⟩ := List.length_eq_one_iff.1 h2
  simp only [CellsA] at h
  obtain ⟨l0, a0, c0, rfl, rfl, r⟩ := h.1.rowD
  exact ⟨l0, a0, c0, rfl, rfl, r⟩
/-- all the cells of a row, as append takes them -/
theorem row_first {S H : AH} {A0 A : Nat → Prop} {L : OL} {l0 : List (List CT)} {a0 : Option Addr} {c0 : Nat} (r : RowD A H 40 k24 l0 a0 c0) : ∃ new, FirstOk S H A0 A L 3 l0.length (.slice a0 l0.length c0) new ∧ allOne new = true ∧ ∀ (j : Nat) c, j < l0.length → l0[j]? = some c → CellsA A H k24 ((new.drop (j * 3)).take 3) c := by
  cases a0 with
  | none =>
    have hc := r.nil rfl
    have hl : l0.length = 0 := by have := r.le; omega
    refine ⟨[], ⟨by simp [alenOf], by simp [hl], fun H2 _ => by simp [afirst, hl]⟩, rfl, fun j c hj => by omega⟩
  | some p =>
    obtain ⟨cells, h1, h2, h3⟩ := r.whole l0.length (Nat.le_refl _)
    refine ⟨cells, first_data (r.inA p rfl) h1, rows_one (m := l0.length) (sz := 3) h2 (by decide) (fun i hi => ?_), fun j c hj hc => h3 j c hj hc⟩
    obtain ⟨c, hc⟩ : ∃ c, l0[i]? = some c := ⟨_, List.getElem?_eq_getElem hi⟩
    exact CellsA.one (h3 i c hi hc)
def GrowR (m : Nat) (S : AH) (u : Value) (H' : AH) : Prop := Kept S.nx S H' ∧ ∃ M cells, u = .slice (some ⟨2 * M + 1, 0, none⟩) 0 m ∧ H'.tr.get M = some (.cells cells 3 false) ∧ S.nx ≤ M ∧ M < H'.nx ∧ cells.length = m * 3
def GrowT (m : Nat) (u : Value) (H' : AH) (A1 : Nat → Prop) (L1 : OL) : Prop := ∃ M cells, u = .slice (some ⟨2 * M + 1, 0, none⟩) 0 m ∧ L1 = [(M, .cells cells 3 false)] ∧ cells.length = m * 3
theorem grow_own {S H' : AH} {A : Nat → Prop} {m : Nat} {u : Value} (hA : ∀ j, A j → j < S.nx) (h : GrowR m S u H') : Kept S.nx S H' ∧ ∃ A1 L1, (∀ j, A1 j → A j ∨ (S.nx ≤ j ∧ j < H'.nx)) ∧ (∀ j, A j → A1 j) ∧ (∀ p ∈ L1, H'.tr.get p.1 = some p.2 ∧ S.nx ≤ p.1 ∧ p.1 < H'.nx ∧ ¬ A1 p.1) ∧ L1.Pairwise (fun p q => p.1 ≠ q.1) ∧ GrowT m u H' A1 L1 := by
  obtain ⟨hk, M, cells, h1, h2, h3, h4, h5⟩ := h
  refine ⟨hk, A, [(M, .cells cells 3 false)], fun j hj => .inl hj, fun j hj => hj, fun p hp => ?_, List.pairwise_singleton .., M, cells, h1, rfl, h5⟩
  rw [List.mem_singleton] at hp; subst hp
  exact ⟨h2, h3, h4, fun hA' => by have := hA M hA'; omega⟩
def zfiles (m : Nat) : List Value := extL (Builtin.zeroCells (#[.string ⟨#[]⟩, .int .i64 0, .string ⟨#[]⟩] : Array Value) m).toList
theorem zfiles_len (m : Nat) : (zfiles m).length = m * 3 := by
  have key : ∀ l : List Value, (extL l).length = l.length := fun l => by
    induction l with
    | nil => rfl
    | cons x l ih => simp [extL, ih]
  rw [zfiles, key]; simp [Builtin.zeroCells]
/-- a row that was made, new or old -/
def RowsR (l : List (List CT)) (A : Nat → Prop) (S : AH) (u : Value) (H' : AH) : Prop := Kept S.nx S H' ∧ CellA (fun j => A j ∨ (S.nx ≤ j ∧ j < H'.nx)) H' (.row 40 k24) u (.row l)
theorem rowsR_of {S H0 H : AH} {A A1 : Nat → Prop} {L : OL} {v : Value} {l : List (List CT)} (hH : HS S H0 A A1 L H) (h : CellA A1 H0 (.row 40 k24) v (.row l)) : RowsR l A S v H :=
  ⟨hH.kept, CellA.gr (hH.gr.trans ⟨fun j hj => (hH.sub j hj).imp id fun h => ⟨h, hH.lt j hj⟩, fun _ _ => rfl, rfl⟩) _ _ _ h⟩
theorem grow_ok {S : AH} {m : Nat} (h0 : m ≠ 0) (h1 : m ≤ 1000) : XCall Tryz.prog 32 [.slice none 0 0, .int .i64 ((m : Nat) : Int)] S (GrowR m S) := by
  refine x_enter (E := E) (n := 27) (rs := [.tmp 4]) (l := [(1, _), (0, _)]) (fn_own Tryz.func32 rfl rfl rfl) (A0 := fun _ => False) (fun j h => h.elim) rfl ?_
  refine sx_seq ?_
  refine sx_region (E := E) ?_
  refine so_assign rfl rfl rfl ?_
  refine so_then ?_
  refine sx_seq ?_
  refine sx_seq ?_
  refine sx_region (E := E) ?_
  refine so_move rfl rfl rfl ?_
  refine so_bin rfl rfl rfl rfl (by first | exact bin_lss_t (by omega) | exact bin_lss_f (by omega)) ?_
  refine so_then ?_
  refine sx_false rfl ?_
  refine sx_skip ?_
  refine sk_then ?_
  refine sx_seq ?_
  refine sx_seq ?_
  refine sx_region (E := E) ?_
  refine so_move rfl rfl rfl ?_
  refine so_move rfl rfl rfl ?_
  refine so_quiet (v := .int .i64 0) rfl rfl rfl rfl (fun H hH => by kernel_rfl) ?_
  refine so_move rfl rfl rfl ?_
  refine so_lenL rfl rfl rfl rfl rfl rfl Tryz.underlying22 ?_
  refine so_bin rfl rfl rfl rfl (by first | exact bin_sub (c := 0) (by decide) | exact bin_decr (by omega) | exact bin_sub (wrap64 (by omega) (by omega)) | exact bin_sub rfl) ?_
  refine so_bin rfl rfl rfl rfl (by first | exact bin_sub (c := ((m : Nat) : Int)) (by rw [Int.sub_zero]; exact wrap64 (by omega) (by omega)) | exact bin_decr (by omega) | exact bin_sub (wrap64 (by omega) (by omega)) | exact bin_sub rfl) ?_
  refine so_assign rfl rfl rfl ?_
  refine so_then ?_
  refine sx_seq ?_
  refine sx_region (E := E) ?_
  refine so_move rfl rfl rfl ?_
  refine so_bin rfl rfl rfl rfl (by first | exact bin_gtr_t (by omega) | exact bin_gtr_f (by omega)) ?_
  refine so_then ?_
  refine sx_true rfl ?_
  refine sx_region (E := E) ?_
  refine so_move rfl rfl rfl ?_
  refine so_move rfl rfl rfl ?_
  refine so_quiet (v := .int .i64 0) rfl rfl rfl rfl (fun H hH => by kernel_rfl) ?_
  refine so_sliceN (b := (0, 0, 0)) rfl rfl rfl Tryz.underlying22 inf24 (by kernel_rfl) ?_
  refine so_move rfl rfl rfl ?_
  refine so_appZ (cs := zfiles m) (sz := 3) rfl rfl (fun h => nomatch h) rfl rfl rfl rfl rfl Tryz.underlying22 Tryz.underlying3 inf24 rfl rfl (by decide) h0 (by omega) (show m * 40 ≤ 140737488355328 by omega) rfl ?_
  intro M
  refine so_move rfl rfl rfl ?_
  refine so_lenL rfl rfl rfl rfl rfl rfl Tryz.underlying22 ?_
  refine so_sliceO (p := 0) (q := 0) (m := m) (N := M) (off := 0) rfl rfl rfl Tryz.underlying22 inf24 (Nat.le_refl _) (List.Mem.head _) rfl (abounds_h (b := 0) (Nat.zero_le _)) ?_
  refine so_assign rfl rfl rfl ?_
  refine so_then ?_
  refine sx_seq ?_
  refine sx_region (E := E) ?_
  refine so_move rfl rfl rfl ?_
  refine so_assign rfl rfl rfl ?_
  refine so_then ?_
  refine sx_ret ?_
  refine sk_return1 (.tmp rfl .nil) ?_
  intro H hH
  obtain ⟨q1, q2, q3, q4⟩ := hH.own _ (List.Mem.head _)
  exact ⟨hH.kept, M, zfiles m, rfl, q1, q2, q3, zfiles_len m⟩

set_option maxHeartbeats 1000000 in
theorem concat_ok {S : AH} {A : Nat → Prop} (hA : ∀ j, A j → j < S.nx) {x : Value} {rs : List (List CT)} (hx : CellA A S (.row 24 [.row 40 k24]) x (.row rs)) (hm0 : (flatR rs).length ≠ 0) (hm1 : (flatR rs).length ≤ 1000) : XCall Tryz.prog 20 [x] S (RowsR (flatR rs) A S) := by
  obtain ⟨l2, ax, cx, e2, rfl, rx⟩ := hx.rowD
  cases e2
  have hb := rx.len
  refine x_enter (E := E) (n := 36) (rs := [.tmp 2]) (l := [(0, _)]) (fn_own Tryz.func20 rfl rfl rfl) hA rfl ?_
  refine sx_seq ?_
  refine sx_region (E := E) ?_
  refine so_assign rfl rfl rfl ?_
  refine so_then ?_
  refine sx_seq ?_
  refine sx_region (E := E) ?_
  refine so_assign rfl rfl rfl ?_
  refine so_then ?_
  refine sx_seq ?_
  refine sx_seq ?_
  refine sx_region (E := E) ?_
  refine so_move rfl rfl rfl ?_
  refine so_lenL rfl rfl rfl rfl rfl rfl Tryz.underlying66 ?_
  refine so_move rfl rfl rfl ?_
  refine so_then ?_
  refine sx_block ?_
  refine sx_loop (σ := Nat × Nat) (fun z => rs.length - z.1) (fun z => [(0, .slice ax rs.length cx), (3, .int .i64 ((z.2 : Nat) : Int)), (9, .slice ax rs.length cx), (10, .int .i64 ((rs.length : Nat) : Int)), (11, .int .i64 ((z.1 : Nat) : Int))]) (fun _ => S) (fun _ => A) (fun _ => []) (fun z => z.1 ≤ rs.length ∧ z.2 = (flatR (rs.take z.1)).length) ((0, 0)) (⟨Nat.zero_le _, rfl⟩) (by repeat (first | exact .nil | refine .cons rfl ?_)) rfl rfl (by repeat (first | exact List.nil_sublist _ | apply List.Sublist.cons_cons | apply List.Sublist.cons)) ?_
  intro z1 hJ2 t1
  obtain ⟨s, st⟩ := z1
  obtain ⟨hJ, hst⟩ := hJ2
  dsimp only at hJ hst ⊢
  refine sx_seq ?_
  rcases Nat.lt_or_ge s rs.length with hk | hk
  · skip
    obtain ⟨qx, us, d, eqx, ix, hc, lx, kx⟩ := rx.at' s hk
    cases eqx
    obtain ⟨l0, a0, c0, rfl, rfl, r0⟩ := row_open kx
    obtain ⟨x0, ex0, lx1⟩ := aloads_one lx
    cases ex0
    have hs := flatR_step hc
    have hle := flatR_le rs (s + 1)
    have hll := congrArg List.length hs
    rw [List.length_append] at hll
    refine sx_region (E := E) ?_
    refine so_bin rfl rfl rfl rfl (by first | exact bin_lss_t (by omega) | exact bin_lss_f (by omega)) ?_
    refine so_then ?_
    refine sx_seq ?_
    refine sx_true rfl ?_
    refine sx_skip ?_
    refine sk_then ?_
    refine sx_seq ?_
    refine sx_block ?_
    refine sx_seq ?_
    refine sx_region (E := E) ?_
    first | refine so_indexO rfl rfl rfl rfl Tryz.underlying66 inf22 rfl (by omega) rfl ?_ | refine so_index rfl rfl rfl rfl Tryz.underlying66 inf22 rfl (by omega) ?_
    refine so_load rfl rfl rfl (by first | exact ld_data Tryz.underlying22 rfl (InA.add ix) lx1 | exact ld_own Tryz.underlying22 rfl (by repeat (first | exact List.Mem.head _ | apply List.Mem.tail)) (by first | exact cellsOf_get rfl | rfl) | exact ld_data Tryz.underlying22 rfl (by first | assumption | exact InA.add (by assumption) | exact InA.add (InA.add (by assumption))) (by assumption)) ?_
    refine so_assign rfl rfl rfl ?_
    refine so_then ?_
    refine sx_seq ?_
    refine sx_region (E := E) ?_
    refine so_move rfl rfl rfl ?_
    refine so_move rfl rfl rfl ?_
    refine so_lenL rfl rfl rfl rfl rfl rfl Tryz.underlying22 ?_
    refine so_bin rfl rfl rfl rfl (by first | exact bin_add (c := (((flatR (rs.take (s + 1))).length : Nat) : Int)) (by rw [show ((st : Nat) : Int) + ((l0.length : Nat) : Int) = (((flatR (rs.take (s + 1))).length : Nat) : Int) by omega]; exact wrap64 (by omega) (by omega)) | exact bin_incr (by omega) | exact bin_add (wrap64 (by omega) (by omega)) | exact bin_add rfl) ?_
    refine so_assign rfl rfl rfl ?_
    refine so_then ?_
    refine sx_seq ?_
    refine sx_region (E := E) ?_
    refine so_move rfl rfl rfl ?_
    refine so_bin rfl rfl rfl rfl (by first | exact bin_lss_t (by omega) | exact bin_lss_f (by omega)) ?_
    refine so_then ?_
    refine sx_false rfl ?_
    refine sx_skip ?_
    refine sk_block ?_
    refine sk_then ?_
    refine sx_region (E := E) ?_
    refine so_bin rfl rfl rfl rfl (by first | exact bin_incr (by omega) | exact bin_add (wrap64 (by omega) (by omega)) | exact bin_add rfl) ?_
    refine so_move rfl rfl rfl ?_
    refine so_nil ?_
    exact sk_round (s + 1, (flatR (rs.take (s + 1))).length) (show rs.length - (s + 1) < rs.length - s by omega) ⟨show s + 1 ≤ rs.length by omega, rfl⟩ (by repeat (first | exact .nil | refine .cons rfl ?_)) rfl rfl (by repeat (first | exact List.nil_sublist _ | apply List.Sublist.cons_cons | apply List.Sublist.cons))
  · skip
    rw [List.take_of_length_le (by omega)] at hst
    subst hst
    refine sx_region (E := E) ?_
    refine so_bin rfl rfl rfl rfl (by first | exact bin_lss_t (by omega) | exact bin_lss_f (by omega)) ?_
    refine so_then ?_
    refine sx_seq ?_
    refine sx_false rfl ?_
    refine sx_exit ?_
    refine sk_then_exit ?_
    refine sk_loop_exit ?_
    refine sk_block_exit ?_
    refine sk_then ?_
    refine sx_seq ?_
    refine sx_region (E := E) ?_
    refine so_move rfl rfl rfl ?_
    refine so_callL (GrowT (flatR rs).length) rfl rfl (fun h => nomatch h) rfl has32 (by repeat (first | exact Opvs.nil | apply Opvs.cons rfl)) (fun H hH => (grow_ok hm0 hm1).mono fun u H2 hw h => grow_own hH.lt h) ?_
    intro u1 H1 A1 L1 g1 hT
    obtain ⟨M, cells0, rfl, rfl, hcl0⟩ := hT
    refine so_assign rfl rfl rfl ?_
    refine so_then ?_
    refine sx_seq ?_
    refine sx_seq ?_
    refine sx_region (E := E) ?_
    refine so_move rfl rfl rfl ?_
    refine so_lenL rfl rfl rfl rfl rfl rfl Tryz.underlying66 ?_
    refine so_move rfl rfl rfl ?_
    refine so_then ?_
    refine sx_block ?_
    refine sx_loop (σ := Nat × Nat × List Value) (fun z => rs.length - z.1) (fun z => [(6, .slice (some ⟨2 * M + 1, 0, none⟩) z.2.1 (flatR rs).length), (25, .slice ax rs.length cx), (26, .int .i64 ((rs.length : Nat) : Int)), (27, .int .i64 ((z.1 : Nat) : Int))]) (fun _ => H1) (fun _ => A1) (fun z => [(M, .cells z.2.2 3 false)]) (fun z => z.1 ≤ rs.length ∧ z.2.1 = (flatR (rs.take z.1)).length ∧ z.2.2.length = (flatR rs).length * 3 ∧ (∀ (j : Nat) c, (flatR (rs.take z.1))[j]? = some c → CellsA A1 H1 k24 ((z.2.2.drop (j * 3)).take 3) c)) ((0, 0, cells0)) (⟨Nat.zero_le _, rfl, hcl0, fun j c h => by simp [flatR] at h⟩) (by repeat (first | exact .nil | refine .cons rfl ?_)) rfl rfl (by repeat (first | exact List.nil_sublist _ | apply List.Sublist.cons_cons | apply List.Sublist.cons)) ?_
    intro z2 hJ2 t2
    obtain ⟨k, t, cells⟩ := z2
    obtain ⟨hJ, ht, hcl, hcs⟩ := hJ2
    dsimp only at hJ ht hcl hcs ⊢
    refine sx_seq ?_
    rcases Nat.lt_or_ge k rs.length with hk | hk
    · skip
      obtain ⟨qx, us, d, eqx, ix, hc, lx, kx⟩ := (rx.gr g1).at' k hk
      cases eqx
      obtain ⟨l0, a0, c0, rfl, rfl, r0⟩ := row_open kx
      obtain ⟨x0, ex0, lx1⟩ := aloads_one lx
      cases ex0
      have hs := flatR_step hc
      have hle := flatR_le rs (k + 1)
      have hll := congrArg List.length hs
      rw [List.length_append] at hll
      obtain ⟨new, hf, hone, hnew⟩ := row_first (S := S) (A0 := A) (L := [(M, .cells cells 3 false)]) r0
      refine sx_region (E := E) ?_
      refine so_bin rfl rfl rfl rfl (by first | exact bin_lss_t (by omega) | exact bin_lss_f (by omega)) ?_
      refine so_then ?_
      refine sx_seq ?_
      refine sx_true rfl ?_
      refine sx_skip ?_
      refine sk_then ?_
      refine sx_seq ?_
      refine sx_block ?_
      refine sx_seq ?_
      refine sx_region (E := E) ?_
      first | refine so_indexO rfl rfl rfl rfl Tryz.underlying66 inf22 rfl (by omega) rfl ?_ | refine so_index rfl rfl rfl rfl Tryz.underlying66 inf22 rfl (by omega) ?_
      refine so_load rfl rfl rfl (by first | exact ld_data Tryz.underlying22 rfl (InA.add ix) lx1 | exact ld_own Tryz.underlying22 rfl (by repeat (first | exact List.Mem.head _ | apply List.Mem.tail)) (by first | exact cellsOf_get rfl | rfl) | exact ld_data Tryz.underlying22 rfl (by first | assumption | exact InA.add (by assumption) | exact InA.add (InA.add (by assumption))) (by assumption)) ?_
      refine so_assign rfl rfl rfl ?_
      refine so_then ?_
      by_cases hz : l0.length = 0
      · skip
        refine sx_region (E := E) ?_
        refine so_move rfl rfl rfl ?_
        refine so_move rfl rfl rfl ?_
        refine so_app0 (new := new) rfl rfl (fun h => nomatch h) rfl rfl rfl rfl rfl Tryz.underlying22 Tryz.underlying22 rfl inf24 rfl (by decide) (firstOk_m hf hz) (by omega) ?_
        refine so_assign rfl rfl rfl ?_
        refine so_nil ?_
        refine sk_block ?_
        refine sk_then ?_
        refine sx_region (E := E) ?_
        refine so_bin rfl rfl rfl rfl (by first | exact bin_incr (by omega) | exact bin_add (wrap64 (by omega) (by omega)) | exact bin_add rfl) ?_
        refine so_move rfl rfl rfl ?_
        refine so_nil ?_
        exact sk_round (k + 1, t, cells) (show rs.length - (k + 1) < rs.length - k by omega) ⟨show k + 1 ≤ rs.length by omega, by show t = (flatR (rs.take (k + 1))).length; omega, hcl, by show ∀ (j : Nat) c, (flatR (rs.take (k + 1)))[j]? = some c → _; rw [hs, List.eq_nil_of_length_eq_zero hz, List.append_nil]; exact hcs⟩ (by repeat (first | exact .nil | refine .cons rfl ?_)) rfl rfl (by repeat (first | exact List.nil_sublist _ | apply List.Sublist.cons_cons | apply List.Sublist.cons))
      · skip
        refine sx_region (E := E) ?_
        refine so_move rfl rfl rfl ?_
        refine so_move rfl rfl rfl ?_
        refine so_appIn (m := l0.length) (sz := 3) (old := cells) (cs' := cells.take (t * 3) ++ (new ++ cells.drop (t * 3 + l0.length * 3))) (k := t + l0.length) rfl rfl (fun h => nomatch h) rfl rfl rfl rfl rfl Tryz.underlying22 Tryz.underlying22 rfl inf24 rfl rfl (by decide) hz hf .zero (by omega) (by omega) hone rfl (fun h => nomatch h) rfl ?_
        refine so_assign rfl rfl rfl ?_
        refine so_nil ?_
        refine sk_block ?_
        refine sk_then ?_
        refine sx_region (E := E) ?_
        refine so_bin rfl rfl rfl rfl (by first | exact bin_incr (by omega) | exact bin_add (wrap64 (by omega) (by omega)) | exact bin_add rfl) ?_
        refine so_move rfl rfl rfl ?_
        refine so_nil ?_
        exact sk_round (k + 1, t + l0.length, cells.take (t * 3) ++ (new ++ cells.drop (t * 3 + l0.length * 3))) (show rs.length - (k + 1) < rs.length - k by omega) ⟨show k + 1 ≤ rs.length by omega, by show t + l0.length = (flatR (rs.take (k + 1))).length; omega, put_len hcl (by omega) hf.2.1, by show ∀ (j : Nat) c, (flatR (rs.take (k + 1)))[j]? = some c → _; rw [hs]; exact rows_put (n := (flatR rs).length) hcl ht.symm rfl (by omega) hf.2.1 hcs hnew⟩ (by repeat (first | exact .nil | refine .cons rfl ?_)) rfl rfl (by repeat (first | exact List.nil_sublist _ | apply List.Sublist.cons_cons | apply List.Sublist.cons))
    · skip
      rw [List.take_of_length_le (by omega)] at ht hcs
      refine sx_region (E := E) ?_
      refine so_bin rfl rfl rfl rfl (by first | exact bin_lss_t (by omega) | exact bin_lss_f (by omega)) ?_
      refine so_then ?_
      refine sx_seq ?_
      refine sx_false rfl ?_
      refine sx_exit ?_
      refine sk_then_exit ?_
      refine sk_loop_exit ?_
      refine sk_block_exit ?_
      refine sk_then ?_
      refine sx_seq ?_
      subst ht
      refine sx_freeze .zero ?_
      intro Hf Af gf hAf hgf
      refine sx_region (E := E) ?_
      refine so_move rfl rfl rfl ?_
      refine so_assign rfl rfl rfl ?_
      refine so_then ?_
      refine sx_ret ?_
      refine sk_return1 (.tmp rfl .nil) ?_
      exact fun H hH => rowsR_of hH (row_own hgf hAf rfl rfl (by rw [hcl]; exact Nat.le_refl _) (fun j c h => CellsA.gr gf _ _ _ (hcs j c h)) (Nat.le_refl _) (by omega) (by omega))

end Go.Proofs.YthnplnlhibalcaaGreatDoor
