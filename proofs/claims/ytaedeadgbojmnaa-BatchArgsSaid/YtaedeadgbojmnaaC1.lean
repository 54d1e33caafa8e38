/-
  Walks, laid by program.
-/
import Derived.Test.YtaedeadgbojmnaaB9
set_option linter.unusedVariables false
set_option linter.unusedSimpArgs false
set_option maxRecDepth 100000
namespace Go.Proofs.Ytaedeadgbojmnaa
open Go Go.AM
theorem clone35_ok {S : AH} {A : Nat → Prop} (hA : ∀ j, A j → j < S.nx) {x : Value} {l : List (List CT)} (hx : CellA A S (.row 8 [.int .i64]) x (.row l)) : XCall Try.prog 35 [x] S fun u H' => Kept S.nx S H' ∧ Cloned A S [.int .i64] l u H' S.nx := by
  obtain ⟨l2, ax, cx, e2, rfl, rx⟩ := hx.rowD
  cases e2
  have hb := rx.len
  have hb2 := rx.bytes
  refine x_enter (E := E) (n := 8) (rs := [.tmp 2]) (l := [(0, _)]) (fn_own Try.func35 rfl rfl rfl) hA rfl ?_
  refine sx_seq ?_
  refine sx_region (E := E) ?_
  refine so_assign rfl rfl rfl ?_
  refine so_then ?_
  refine sx_seq ?_
  refine sx_seq ?_
  rcases ax with _ | p
  · skip
    refine sx_region (E := E) ?_
    refine so_move rfl rfl rfl ?_
    refine so_bin rfl rfl rfl rfl (by first | exact bin_slnil_t Try.underlying22 | exact bin_slnil_f Try.underlying22) ?_
    refine so_then ?_
    refine sx_true rfl ?_
    refine sx_seq ?_
    refine sx_region (E := E) ?_
    refine so_assign rfl rfl rfl ?_
    refine so_then ?_
    refine sx_ret ?_
    refine sk_then_ret ?_
    refine sk_return1 (.tmp rfl .nil) ?_
    exact fun H hH => ⟨hH.kept, .inl ⟨rfl, List.eq_nil_of_length_eq_zero (by have := rx.nil rfl; have := rx.le; omega)⟩⟩
  · skip
    obtain ⟨cells, hcl, hln, hce⟩ := rx.whole l.length (Nat.le_refl _)
    have hip := rx.inA p rfl
    refine sx_region (E := E) ?_
    refine so_move rfl rfl rfl ?_
    refine so_bin rfl rfl rfl rfl (by first | exact bin_slnil_t Try.underlying22 | exact bin_slnil_f Try.underlying22) ?_
    refine so_then ?_
    refine sx_false rfl ?_
    refine sx_skip ?_
    refine sk_then ?_
    refine sx_seq ?_
    rcases l with _ | ⟨c0, l⟩
    · skip
      refine sx_region (E := E) ?_
      refine so_buildSlice (out := []) rfl rfl (fun h => nomatch h) (by repeat (first | exact Opps.nil | apply Opps.cons rfl)) Try.underlying22 inf3 rfl rfl (by kernel_rfl) rfl rfl ?_
      intro N5
      refine so_move rfl rfl rfl ?_
      first | refine so_app0 rfl rfl (fun h => nomatch h) rfl rfl rfl rfl rfl Try.underlying22 Try.underlying22 rfl inf3 rfl (by decide) (first_data (m := 0) hip (by rw [Nat.zero_mul]; rfl)) (Nat.le_refl _) ?_ | (refine so_appNew (m := (c0 :: l).length) (bt := 8) rfl rfl (fun h => nomatch h) rfl rfl rfl rfl rfl Try.underlying22 Try.underlying22 rfl inf3 rfl rfl (by decide) rfl (by simp) (first_data hip hcl) (.inr ⟨N5, rfl, List.Mem.head _, rfl⟩) (roomB_of (by omega)) (by omega) (List.nil_append _) (Nat.zero_add _) ?_; intro M)
      refine so_assign rfl rfl rfl ?_
      refine so_then ?_
      refine sx_ret ?_
      refine sk_return1 (.tmp rfl .nil) ?_
      intro H hH
      obtain ⟨h1, h2, h3, h4⟩ := hH.own _ (List.Mem.head _)
      exact ⟨hH.kept, .inr ⟨N5, [], true, rfl, h1, h2, h3, rfl, rfl, fun i c hi => by simp at hi⟩⟩
    · skip
      refine sx_region (E := E) ?_
      refine so_buildSlice (out := []) rfl rfl (fun h => nomatch h) (by repeat (first | exact Opps.nil | apply Opps.cons rfl)) Try.underlying22 inf3 rfl rfl (by kernel_rfl) rfl rfl ?_
      intro N5
      refine so_move rfl rfl rfl ?_
      first | refine so_app0 rfl rfl (fun h => nomatch h) rfl rfl rfl rfl rfl Try.underlying22 Try.underlying22 rfl inf3 rfl (by decide) (first_data (m := 0) hip (by rw [Nat.zero_mul]; rfl)) (Nat.le_refl _) ?_ | (refine so_appNew (m := (c0 :: l).length) (bt := 8) rfl rfl (fun h => nomatch h) rfl rfl rfl rfl rfl Try.underlying22 Try.underlying22 rfl inf3 rfl rfl (by decide) rfl (by simp) (first_data hip hcl) (.inr ⟨N5, rfl, List.Mem.head _, rfl⟩) (roomB_of (by omega)) (by omega) (List.nil_append _) (Nat.zero_add _) ?_; intro M)
      refine so_assign rfl rfl rfl ?_
      refine so_then ?_
      refine sx_ret ?_
      refine sk_return1 (.tmp rfl .nil) ?_
      intro H hH
      obtain ⟨h1, h2, h3, h4⟩ := hH.own _ (List.Mem.head _)
      exact ⟨hH.kept, .inr ⟨M, cells, false, rfl, h1, h2, h3, hln, rows_one hln (by decide) (fun i hi => CellsA.one (hce i _ hi (List.getElem?_eq_getElem hi))), fun i c hi => hce i c (lt_of_getElem? hi) hi⟩⟩

theorem clone36_ok {S : AH} {A : Nat → Prop} (hA : ∀ j, A j → j < S.nx) {x : Value} {l : List (List CT)} (hx : CellA A S (.row 32 k31) x (.row l)) : XCall Try.prog 36 [x] S fun u H' => Kept S.nx S H' ∧ Cloned A S k31 l u H' S.nx := by
  obtain ⟨l2, ax, cx, e2, rfl, rx⟩ := hx.rowD
  cases e2
  have hb := rx.len
  have hb2 := rx.bytes
  refine x_enter (E := E) (n := 8) (rs := [.tmp 2]) (l := [(0, _)]) (fn_own Try.func36 rfl rfl rfl) hA rfl ?_
  refine sx_seq ?_
  refine sx_region (E := E) ?_
  refine so_assign rfl rfl rfl ?_
  refine so_then ?_
  refine sx_seq ?_
  refine sx_seq ?_
  rcases ax with _ | p
  · skip
    refine sx_region (E := E) ?_
    refine so_move rfl rfl rfl ?_
    refine so_bin rfl rfl rfl rfl (by first | exact bin_slnil_t Try.underlying27 | exact bin_slnil_f Try.underlying27) ?_
    refine so_then ?_
    refine sx_true rfl ?_
    refine sx_seq ?_
    refine sx_region (E := E) ?_
    refine so_assign rfl rfl rfl ?_
    refine so_then ?_
    refine sx_ret ?_
    refine sk_then_ret ?_
    refine sk_return1 (.tmp rfl .nil) ?_
    exact fun H hH => ⟨hH.kept, .inl ⟨rfl, List.eq_nil_of_length_eq_zero (by have := rx.nil rfl; have := rx.le; omega)⟩⟩
  · skip
    obtain ⟨cells, hcl, hln, hce⟩ := rx.whole l.length (Nat.le_refl _)
    have hip := rx.inA p rfl
    refine sx_region (E := E) ?_
    refine so_move rfl rfl rfl ?_
    refine so_bin rfl rfl rfl rfl (by first | exact bin_slnil_t Try.underlying27 | exact bin_slnil_f Try.underlying27) ?_
    refine so_then ?_
    refine sx_false rfl ?_
    refine sx_skip ?_
    refine sk_then ?_
    refine sx_seq ?_
    rcases l with _ | ⟨c0, l⟩
    · skip
      refine sx_region (E := E) ?_
      refine so_buildSlice (out := []) rfl rfl (fun h => nomatch h) (by repeat (first | exact Opps.nil | apply Opps.cons rfl)) Try.underlying27 inf31 rfl rfl (by kernel_rfl) rfl rfl ?_
      intro N5
      refine so_move rfl rfl rfl ?_
      first | refine so_app0 rfl rfl (fun h => nomatch h) rfl rfl rfl rfl rfl Try.underlying27 Try.underlying27 rfl inf31 rfl (by decide) (first_data (m := 0) hip (by rw [Nat.zero_mul]; rfl)) (Nat.le_refl _) ?_ | (refine so_appNew (m := (c0 :: l).length) (bt := 32) rfl rfl (fun h => nomatch h) rfl rfl rfl rfl rfl Try.underlying27 Try.underlying27 rfl inf31 rfl rfl (by decide) rfl (by simp) (first_data hip hcl) (.inr ⟨N5, rfl, List.Mem.head _, rfl⟩) (roomB_of (by omega)) (by omega) (List.nil_append _) (Nat.zero_add _) ?_; intro M)
      refine so_assign rfl rfl rfl ?_
      refine so_then ?_
      refine sx_ret ?_
      refine sk_return1 (.tmp rfl .nil) ?_
      intro H hH
      obtain ⟨h1, h2, h3, h4⟩ := hH.own _ (List.Mem.head _)
      exact ⟨hH.kept, .inr ⟨N5, [], true, rfl, h1, h2, h3, rfl, rfl, fun i c hi => by simp at hi⟩⟩
    · skip
      refine sx_region (E := E) ?_
      refine so_buildSlice (out := []) rfl rfl (fun h => nomatch h) (by repeat (first | exact Opps.nil | apply Opps.cons rfl)) Try.underlying27 inf31 rfl rfl (by kernel_rfl) rfl rfl ?_
      intro N5
      refine so_move rfl rfl rfl ?_
      first | refine so_app0 rfl rfl (fun h => nomatch h) rfl rfl rfl rfl rfl Try.underlying27 Try.underlying27 rfl inf31 rfl (by decide) (first_data (m := 0) hip (by rw [Nat.zero_mul]; rfl)) (Nat.le_refl _) ?_ | (refine so_appNew (m := (c0 :: l).length) (bt := 32) rfl rfl (fun h => nomatch h) rfl rfl rfl rfl rfl Try.underlying27 Try.underlying27 rfl inf31 rfl rfl (by decide) rfl (by simp) (first_data hip hcl) (.inr ⟨N5, rfl, List.Mem.head _, rfl⟩) (roomB_of (by omega)) (by omega) (List.nil_append _) (Nat.zero_add _) ?_; intro M)
      refine so_assign rfl rfl rfl ?_
      refine so_then ?_
      refine sx_ret ?_
      refine sk_return1 (.tmp rfl .nil) ?_
      intro H hH
      obtain ⟨h1, h2, h3, h4⟩ := hH.own _ (List.Mem.head _)
      exact ⟨hH.kept, .inr ⟨M, cells, false, rfl, h1, h2, h3, hln, rows_one hln (by decide) (fun i hi => CellsA.one (hce i _ hi (List.getElem?_eq_getElem hi))), fun i c hi => hce i c (lt_of_getElem? hi) hi⟩⟩

theorem clone37_ok {S : AH} {A : Nat → Prop} (hA : ∀ j, A j → j < S.nx) {x : Value} {l : List (List CT)} (hx : CellA A S (.row 40 k102) x (.row l)) : XCall Try.prog 37 [x] S fun u H' => Kept S.nx S H' ∧ Cloned A S k102 l u H' S.nx := by
  obtain ⟨l2, ax, cx, e2, rfl, rx⟩ := hx.rowD
  cases e2
  have hb := rx.len
  have hb2 := rx.bytes
  refine x_enter (E := E) (n := 8) (rs := [.tmp 2]) (l := [(0, _)]) (fn_own Try.func37 rfl rfl rfl) hA rfl ?_
  refine sx_seq ?_
  refine sx_region (E := E) ?_
  refine so_assign rfl rfl rfl ?_
  refine so_then ?_
  refine sx_seq ?_
  refine sx_seq ?_
  rcases ax with _ | p
  · skip
    refine sx_region (E := E) ?_
    refine so_move rfl rfl rfl ?_
    refine so_bin rfl rfl rfl rfl (by first | exact bin_slnil_t Try.underlying39 | exact bin_slnil_f Try.underlying39) ?_
    refine so_then ?_
    refine sx_true rfl ?_
    refine sx_seq ?_
    refine sx_region (E := E) ?_
    refine so_assign rfl rfl rfl ?_
    refine so_then ?_
    refine sx_ret ?_
    refine sk_then_ret ?_
    refine sk_return1 (.tmp rfl .nil) ?_
    exact fun H hH => ⟨hH.kept, .inl ⟨rfl, List.eq_nil_of_length_eq_zero (by have := rx.nil rfl; have := rx.le; omega)⟩⟩
  · skip
    obtain ⟨cells, hcl, hln, hce⟩ := rx.whole l.length (Nat.le_refl _)
    have hip := rx.inA p rfl
    refine sx_region (E := E) ?_
    refine so_move rfl rfl rfl ?_
    refine so_bin rfl rfl rfl rfl (by first | exact bin_slnil_t Try.underlying39 | exact bin_slnil_f Try.underlying39) ?_
    refine so_then ?_
    refine sx_false rfl ?_
    refine sx_skip ?_
    refine sk_then ?_
    refine sx_seq ?_
    rcases l with _ | ⟨c0, l⟩
    · skip
      refine sx_region (E := E) ?_
      refine so_buildSlice (out := []) rfl rfl (fun h => nomatch h) (by repeat (first | exact Opps.nil | apply Opps.cons rfl)) Try.underlying39 inf102 rfl rfl (by kernel_rfl) rfl rfl ?_
      intro N5
      refine so_move rfl rfl rfl ?_
      first | refine so_app0 rfl rfl (fun h => nomatch h) rfl rfl rfl rfl rfl Try.underlying39 Try.underlying39 rfl inf102 rfl (by decide) (first_data (m := 0) hip (by rw [Nat.zero_mul]; rfl)) (Nat.le_refl _) ?_ | (refine so_appNew (m := (c0 :: l).length) (bt := 40) rfl rfl (fun h => nomatch h) rfl rfl rfl rfl rfl Try.underlying39 Try.underlying39 rfl inf102 rfl rfl (by decide) rfl (by simp) (first_data hip hcl) (.inr ⟨N5, rfl, List.Mem.head _, rfl⟩) (roomB_of (by omega)) (by omega) (List.nil_append _) (Nat.zero_add _) ?_; intro M)
      refine so_assign rfl rfl rfl ?_
      refine so_then ?_
      refine sx_ret ?_
      refine sk_return1 (.tmp rfl .nil) ?_
      intro H hH
      obtain ⟨h1, h2, h3, h4⟩ := hH.own _ (List.Mem.head _)
      exact ⟨hH.kept, .inr ⟨N5, [], true, rfl, h1, h2, h3, rfl, rfl, fun i c hi => by simp at hi⟩⟩
    · skip
      refine sx_region (E := E) ?_
      refine so_buildSlice (out := []) rfl rfl (fun h => nomatch h) (by repeat (first | exact Opps.nil | apply Opps.cons rfl)) Try.underlying39 inf102 rfl rfl (by kernel_rfl) rfl rfl ?_
      intro N5
      refine so_move rfl rfl rfl ?_
      first | refine so_app0 rfl rfl (fun h => nomatch h) rfl rfl rfl rfl rfl Try.underlying39 Try.underlying39 rfl inf102 rfl (by decide) (first_data (m := 0) hip (by rw [Nat.zero_mul]; rfl)) (Nat.le_refl _) ?_ | (refine so_appNew (m := (c0 :: l).length) (bt := 40) rfl rfl (fun h => nomatch h) rfl rfl rfl rfl rfl Try.underlying39 Try.underlying39 rfl inf102 rfl rfl (by decide) rfl (by simp) (first_data hip hcl) (.inr ⟨N5, rfl, List.Mem.head _, rfl⟩) (roomB_of (by omega)) (by omega) (List.nil_append _) (Nat.zero_add _) ?_; intro M)
      refine so_assign rfl rfl rfl ?_
      refine so_then ?_
      refine sx_ret ?_
      refine sk_return1 (.tmp rfl .nil) ?_
      intro H hH
      obtain ⟨h1, h2, h3, h4⟩ := hH.own _ (List.Mem.head _)
      exact ⟨hH.kept, .inr ⟨M, cells, false, rfl, h1, h2, h3, hln, rows_one hln (by decide) (fun i hi => CellsA.one (hce i _ hi (List.getElem?_eq_getElem hi))), fun i c hi => hce i c (lt_of_getElem? hi) hi⟩⟩

theorem clone38_ok {S : AH} {A : Nat → Prop} (hA : ∀ j, A j → j < S.nx) {x : Value} {l : List (List CT)} (hx : CellA A S (.row 16 k104) x (.row l)) : XCall Try.prog 38 [x] S fun u H' => Kept S.nx S H' ∧ Cloned A S k104 l u H' S.nx := by
  obtain ⟨l2, ax, cx, e2, rfl, rx⟩ := hx.rowD
  cases e2
  have hb := rx.len
  have hb2 := rx.bytes
  refine x_enter (E := E) (n := 8) (rs := [.tmp 2]) (l := [(0, _)]) (fn_own Try.func38 rfl rfl rfl) hA rfl ?_
  refine sx_seq ?_
  refine sx_region (E := E) ?_
  refine so_assign rfl rfl rfl ?_
  refine so_then ?_
  refine sx_seq ?_
  refine sx_seq ?_
  rcases ax with _ | p
  · skip
    refine sx_region (E := E) ?_
    refine so_move rfl rfl rfl ?_
    refine so_bin rfl rfl rfl rfl (by first | exact bin_slnil_t Try.underlying100 | exact bin_slnil_f Try.underlying100) ?_
    refine so_then ?_
    refine sx_true rfl ?_
    refine sx_seq ?_
    refine sx_region (E := E) ?_
    refine so_assign rfl rfl rfl ?_
    refine so_then ?_
    refine sx_ret ?_
    refine sk_then_ret ?_
    refine sk_return1 (.tmp rfl .nil) ?_
    exact fun H hH => ⟨hH.kept, .inl ⟨rfl, List.eq_nil_of_length_eq_zero (by have := rx.nil rfl; have := rx.le; omega)⟩⟩
  · skip
    obtain ⟨cells, hcl, hln, hce⟩ := rx.whole l.length (Nat.le_refl _)
    have hip := rx.inA p rfl
    refine sx_region (E := E) ?_
    refine so_move rfl rfl rfl ?_
    refine so_bin rfl rfl rfl rfl (by first | exact bin_slnil_t Try.underlying100 | exact bin_slnil_f Try.underlying100) ?_
    refine so_then ?_
    refine sx_false rfl ?_
    refine sx_skip ?_
    refine sk_then ?_
    refine sx_seq ?_
    rcases l with _ | ⟨c0, l⟩
    · skip
      refine sx_region (E := E) ?_
      refine so_buildSlice (out := []) rfl rfl (fun h => nomatch h) (by repeat (first | exact Opps.nil | apply Opps.cons rfl)) Try.underlying100 inf104 rfl rfl (by kernel_rfl) rfl rfl ?_
      intro N5
      refine so_move rfl rfl rfl ?_
      first | refine so_app0 rfl rfl (fun h => nomatch h) rfl rfl rfl rfl rfl Try.underlying100 Try.underlying100 rfl inf104 rfl (by decide) (first_data (m := 0) hip (by rw [Nat.zero_mul]; rfl)) (Nat.le_refl _) ?_ | (refine so_appNew (m := (c0 :: l).length) (bt := 16) rfl rfl (fun h => nomatch h) rfl rfl rfl rfl rfl Try.underlying100 Try.underlying100 rfl inf104 rfl rfl (by decide) rfl (by simp) (first_data hip hcl) (.inr ⟨N5, rfl, List.Mem.head _, rfl⟩) (roomB_of (by omega)) (by omega) (List.nil_append _) (Nat.zero_add _) ?_; intro M)
      refine so_assign rfl rfl rfl ?_
      refine so_then ?_
      refine sx_ret ?_
      refine sk_return1 (.tmp rfl .nil) ?_
      intro H hH
      obtain ⟨h1, h2, h3, h4⟩ := hH.own _ (List.Mem.head _)
      exact ⟨hH.kept, .inr ⟨N5, [], true, rfl, h1, h2, h3, rfl, rfl, fun i c hi => by simp at hi⟩⟩
    · skip
      refine sx_region (E := E) ?_
      refine so_buildSlice (out := []) rfl rfl (fun h => nomatch h) (by repeat (first | exact Opps.nil | apply Opps.cons rfl)) Try.underlying100 inf104 rfl rfl (by kernel_rfl) rfl rfl ?_
      intro N5
      refine so_move rfl rfl rfl ?_
      first | refine so_app0 rfl rfl (fun h => nomatch h) rfl rfl rfl rfl rfl Try.underlying100 Try.underlying100 rfl inf104 rfl (by decide) (first_data (m := 0) hip (by rw [Nat.zero_mul]; rfl)) (Nat.le_refl _) ?_ | (refine so_appNew (m := (c0 :: l).length) (bt := 16) rfl rfl (fun h => nomatch h) rfl rfl rfl rfl rfl Try.underlying100 Try.underlying100 rfl inf104 rfl rfl (by decide) rfl (by simp) (first_data hip hcl) (.inr ⟨N5, rfl, List.Mem.head _, rfl⟩) (roomB_of (by omega)) (by omega) (List.nil_append _) (Nat.zero_add _) ?_; intro M)
      refine so_assign rfl rfl rfl ?_
      refine so_then ?_
      refine sx_ret ?_
      refine sk_return1 (.tmp rfl .nil) ?_
      intro H hH
      obtain ⟨h1, h2, h3, h4⟩ := hH.own _ (List.Mem.head _)
      exact ⟨hH.kept, .inr ⟨M, cells, false, rfl, h1, h2, h3, hln, rows_one hln (by decide) (fun i hi => CellsA.one (hce i _ hi (List.getElem?_eq_getElem hi))), fun i c hi => hce i c (lt_of_getElem? hi) hi⟩⟩

theorem clone39_ok {S : AH} {A : Nat → Prop} (hA : ∀ j, A j → j < S.nx) {x : Value} {l : List (List CT)} (hx : CellA A S (.row 40 k85) x (.row l)) : XCall Try.prog 39 [x] S fun u H' => Kept S.nx S H' ∧ Cloned A S k85 l u H' S.nx := by
  obtain ⟨l2, ax, cx, e2, rfl, rx⟩ := hx.rowD
  cases e2
  have hb := rx.len
  have hb2 := rx.bytes
  refine x_enter (E := E) (n := 8) (rs := [.tmp 2]) (l := [(0, _)]) (fn_own Try.func39 rfl rfl rfl) hA rfl ?_
  refine sx_seq ?_
  refine sx_region (E := E) ?_
  refine so_assign rfl rfl rfl ?_
  refine so_then ?_
  refine sx_seq ?_
  refine sx_seq ?_
  rcases ax with _ | p
  · skip
    refine sx_region (E := E) ?_
    refine so_move rfl rfl rfl ?_
    refine so_bin rfl rfl rfl rfl (by first | exact bin_slnil_t Try.underlying42 | exact bin_slnil_f Try.underlying42) ?_
    refine so_then ?_
    refine sx_true rfl ?_
    refine sx_seq ?_
    refine sx_region (E := E) ?_
    refine so_assign rfl rfl rfl ?_
    refine so_then ?_
    refine sx_ret ?_
    refine sk_then_ret ?_
    refine sk_return1 (.tmp rfl .nil) ?_
    exact fun H hH => ⟨hH.kept, .inl ⟨rfl, List.eq_nil_of_length_eq_zero (by have := rx.nil rfl; have := rx.le; omega)⟩⟩
  · skip
    obtain ⟨cells, hcl, hln, hce⟩ := rx.whole l.length (Nat.le_refl _)
    have hip := rx.inA p rfl
    refine sx_region (E := E) ?_
    refine so_move rfl rfl rfl ?_
    refine so_bin rfl rfl rfl rfl (by first | exact bin_slnil_t Try.underlying42 | exact bin_slnil_f Try.underlying42) ?_
    refine so_then ?_
    refine sx_false rfl ?_
    refine sx_skip ?_
    refine sk_then ?_
    refine sx_seq ?_
    rcases l with _ | ⟨c0, l⟩
    · skip
      refine sx_region (E := E) ?_
      refine so_buildSlice (out := []) rfl rfl (fun h => nomatch h) (by repeat (first | exact Opps.nil | apply Opps.cons rfl)) Try.underlying42 inf85 rfl rfl (by kernel_rfl) rfl rfl ?_
      intro N5
      refine so_move rfl rfl rfl ?_
      first | refine so_app0 rfl rfl (fun h => nomatch h) rfl rfl rfl rfl rfl Try.underlying42 Try.underlying42 rfl inf85 rfl (by decide) (first_data (m := 0) hip (by rw [Nat.zero_mul]; rfl)) (Nat.le_refl _) ?_ | (refine so_appNew (m := (c0 :: l).length) (bt := 40) rfl rfl (fun h => nomatch h) rfl rfl rfl rfl rfl Try.underlying42 Try.underlying42 rfl inf85 rfl rfl (by decide) rfl (by simp) (first_data hip hcl) (.inr ⟨N5, rfl, List.Mem.head _, rfl⟩) (roomB_of (by omega)) (by omega) (List.nil_append _) (Nat.zero_add _) ?_; intro M)
      refine so_assign rfl rfl rfl ?_
      refine so_then ?_
      refine sx_ret ?_
      refine sk_return1 (.tmp rfl .nil) ?_
      intro H hH
      obtain ⟨h1, h2, h3, h4⟩ := hH.own _ (List.Mem.head _)
      exact ⟨hH.kept, .inr ⟨N5, [], true, rfl, h1, h2, h3, rfl, rfl, fun i c hi => by simp at hi⟩⟩
    · skip
      refine sx_region (E := E) ?_
      refine so_buildSlice (out := []) rfl rfl (fun h => nomatch h) (by repeat (first | exact Opps.nil | apply Opps.cons rfl)) Try.underlying42 inf85 rfl rfl (by kernel_rfl) rfl rfl ?_
      intro N5
      refine so_move rfl rfl rfl ?_
      first | refine so_app0 rfl rfl (fun h => nomatch h) rfl rfl rfl rfl rfl Try.underlying42 Try.underlying42 rfl inf85 rfl (by decide) (first_data (m := 0) hip (by rw [Nat.zero_mul]; rfl)) (Nat.le_refl _) ?_ | (refine so_appNew (m := (c0 :: l).length) (bt := 40) rfl rfl (fun h => nomatch h) rfl rfl rfl rfl rfl Try.underlying42 Try.underlying42 rfl inf85 rfl rfl (by decide) rfl (by simp) (first_data hip hcl) (.inr ⟨N5, rfl, List.Mem.head _, rfl⟩) (roomB_of (by omega)) (by omega) (List.nil_append _) (Nat.zero_add _) ?_; intro M)
      refine so_assign rfl rfl rfl ?_
      refine so_then ?_
      refine sx_ret ?_
      refine sk_return1 (.tmp rfl .nil) ?_
      intro H hH
      obtain ⟨h1, h2, h3, h4⟩ := hH.own _ (List.Mem.head _)
      exact ⟨hH.kept, .inr ⟨M, cells, false, rfl, h1, h2, h3, hln, rows_one hln (by decide) (fun i hi => CellsA.one (hce i _ hi (List.getElem?_eq_getElem hi))), fun i c hi => hce i c (lt_of_getElem? hi) hi⟩⟩

theorem clone28_ok {S : AH} {A : Nat → Prop} (hA : ∀ j, A j → j < S.nx) {x : Value} {l : List (List CT)} (hx : CellA A S (.row 32 k79) x (.row l)) : XCall Try.prog 28 [x] S fun u H' => Kept S.nx S H' ∧ Cloned A S k79 l u H' S.nx := by
  obtain ⟨l2, ax, cx, e2, rfl, rx⟩ := hx.rowD
  cases e2
  have hb := rx.len
  have hb2 := rx.bytes
  refine x_enter (E := E) (n := 8) (rs := [.tmp 2]) (l := [(0, _)]) (fn_own Try.func28 rfl rfl rfl) hA rfl ?_
  refine sx_seq ?_
  refine sx_region (E := E) ?_
  refine so_assign rfl rfl rfl ?_
  refine so_then ?_
  refine sx_seq ?_
  refine sx_seq ?_
  rcases ax with _ | p
  · skip
    refine sx_region (E := E) ?_
    refine so_move rfl rfl rfl ?_
    refine so_bin rfl rfl rfl rfl (by first | exact bin_slnil_t Try.underlying49 | exact bin_slnil_f Try.underlying49) ?_
    refine so_then ?_
    refine sx_true rfl ?_
    refine sx_seq ?_
    refine sx_region (E := E) ?_
    refine so_assign rfl rfl rfl ?_
    refine so_then ?_
    refine sx_ret ?_
    refine sk_then_ret ?_
    refine sk_return1 (.tmp rfl .nil) ?_
    exact fun H hH => ⟨hH.kept, .inl ⟨rfl, List.eq_nil_of_length_eq_zero (by have := rx.nil rfl; have := rx.le; omega)⟩⟩
  · skip
    obtain ⟨cells, hcl, hln, hce⟩ := rx.whole l.length (Nat.le_refl _)
    have hip := rx.inA p rfl
    refine sx_region (E := E) ?_
    refine so_move rfl rfl rfl ?_
    refine so_bin rfl rfl rfl rfl (by first | exact bin_slnil_t Try.underlying49 | exact bin_slnil_f Try.underlying49) ?_
    refine so_then ?_
    refine sx_false rfl ?_
    refine sx_skip ?_
    refine sk_then ?_
    refine sx_seq ?_
    rcases l with _ | ⟨c0, l⟩
    · skip
      refine sx_region (E := E) ?_
      refine so_buildSlice (out := []) rfl rfl (fun h => nomatch h) (by repeat (first | exact Opps.nil | apply Opps.cons rfl)) Try.underlying49 inf79 rfl rfl (by kernel_rfl) rfl rfl ?_
      intro N5
      refine so_move rfl rfl rfl ?_
      first | refine so_app0 rfl rfl (fun h => nomatch h) rfl rfl rfl rfl rfl Try.underlying49 Try.underlying49 rfl inf79 rfl (by decide) (first_data (m := 0) hip (by rw [Nat.zero_mul]; rfl)) (Nat.le_refl _) ?_ | (refine so_appNew (m := (c0 :: l).length) (bt := 32) rfl rfl (fun h => nomatch h) rfl rfl rfl rfl rfl Try.underlying49 Try.underlying49 rfl inf79 rfl rfl (by decide) rfl (by simp) (first_data hip hcl) (.inr ⟨N5, rfl, List.Mem.head _, rfl⟩) (roomB_of (by omega)) (by omega) (List.nil_append _) (Nat.zero_add _) ?_; intro M)
      refine so_assign rfl rfl rfl ?_
      refine so_then ?_
      refine sx_ret ?_
      refine sk_return1 (.tmp rfl .nil) ?_
      intro H hH
      obtain ⟨h1, h2, h3, h4⟩ := hH.own _ (List.Mem.head _)
      exact ⟨hH.kept, .inr ⟨N5, [], true, rfl, h1, h2, h3, rfl, rfl, fun i c hi => by simp at hi⟩⟩
    · skip
      refine sx_region (E := E) ?_
      refine so_buildSlice (out := []) rfl rfl (fun h => nomatch h) (by repeat (first | exact Opps.nil | apply Opps.cons rfl)) Try.underlying49 inf79 rfl rfl (by kernel_rfl) rfl rfl ?_
      intro N5
      refine so_move rfl rfl rfl ?_
      first | refine so_app0 rfl rfl (fun h => nomatch h) rfl rfl rfl rfl rfl Try.underlying49 Try.underlying49 rfl inf79 rfl (by decide) (first_data (m := 0) hip (by rw [Nat.zero_mul]; rfl)) (Nat.le_refl _) ?_ | (refine so_appNew (m := (c0 :: l).length) (bt := 32) rfl rfl (fun h => nomatch h) rfl rfl rfl rfl rfl Try.underlying49 Try.underlying49 rfl inf79 rfl rfl (by decide) rfl (by simp) (first_data hip hcl) (.inr ⟨N5, rfl, List.Mem.head _, rfl⟩) (roomB_of (by omega)) (by omega) (List.nil_append _) (Nat.zero_add _) ?_; intro M)
      refine so_assign rfl rfl rfl ?_
      refine so_then ?_
      refine sx_ret ?_
      refine sk_return1 (.tmp rfl .nil) ?_
      intro H hH
      obtain ⟨h1, h2, h3, h4⟩ := hH.own _ (List.Mem.head _)
      exact ⟨hH.kept, .inr ⟨M, cells, false, rfl, h1, h2, h3, hln, rows_one hln (by decide) (fun i hi => CellsA.one (hce i _ hi (List.getElem?_eq_getElem hi))), fun i c hi => hce i c (lt_of_getElem? hi) hi⟩⟩

theorem clone52_ok {S : AH} {A : Nat → Prop} (hA : ∀ j, A j → j < S.nx) {x : Value} {l : List (List CT)} (hx : CellA A S (.row 40 k118) x (.row l)) : XCall Try.prog 52 [x] S fun u H' => Kept S.nx S H' ∧ Cloned A S k118 l u H' S.nx := by
  obtain ⟨l2, ax, cx, e2, rfl, rx⟩ := hx.rowD
  cases e2
  have hb := rx.len
  have hb2 := rx.bytes
  refine x_enter (E := E) (n := 8) (rs := [.tmp 2]) (l := [(0, _)]) (fn_own Try.func52 rfl rfl rfl) hA rfl ?_
  refine sx_seq ?_
  refine sx_region (E := E) ?_
  refine so_assign rfl rfl rfl ?_
  refine so_then ?_
  refine sx_seq ?_
  refine sx_seq ?_
  rcases ax with _ | p
  · skip
    refine sx_region (E := E) ?_
    refine so_move rfl rfl rfl ?_
    refine so_bin rfl rfl rfl rfl (by first | exact bin_slnil_t Try.underlying32 | exact bin_slnil_f Try.underlying32) ?_
    refine so_then ?_
    refine sx_true rfl ?_
    refine sx_seq ?_
    refine sx_region (E := E) ?_
    refine so_assign rfl rfl rfl ?_
    refine so_then ?_
    refine sx_ret ?_
    refine sk_then_ret ?_
    refine sk_return1 (.tmp rfl .nil) ?_
    exact fun H hH => ⟨hH.kept, .inl ⟨rfl, List.eq_nil_of_length_eq_zero (by have := rx.nil rfl; have := rx.le; omega)⟩⟩
  · skip
    obtain ⟨cells, hcl, hln, hce⟩ := rx.whole l.length (Nat.le_refl _)
    have hip := rx.inA p rfl
    refine sx_region (E := E) ?_
    refine so_move rfl rfl rfl ?_
    refine so_bin rfl rfl rfl rfl (by first | exact bin_slnil_t Try.underlying32 | exact bin_slnil_f Try.underlying32) ?_
    refine so_then ?_
    refine sx_false rfl ?_
    refine sx_skip ?_
    refine sk_then ?_
    refine sx_seq ?_
    rcases l with _ | ⟨c0, l⟩
    · skip
      refine sx_region (E := E) ?_
      refine so_buildSlice (out := []) rfl rfl (fun h => nomatch h) (by repeat (first | exact Opps.nil | apply Opps.cons rfl)) Try.underlying32 inf118 rfl rfl (by kernel_rfl) rfl rfl ?_
      intro N5
      refine so_move rfl rfl rfl ?_
      first | refine so_app0 rfl rfl (fun h => nomatch h) rfl rfl rfl rfl rfl Try.underlying32 Try.underlying32 rfl inf118 rfl (by decide) (first_data (m := 0) hip (by rw [Nat.zero_mul]; rfl)) (Nat.le_refl _) ?_ | (refine so_appNew (m := (c0 :: l).length) (bt := 40) rfl rfl (fun h => nomatch h) rfl rfl rfl rfl rfl Try.underlying32 Try.underlying32 rfl inf118 rfl rfl (by decide) rfl (by simp) (first_data hip hcl) (.inr ⟨N5, rfl, List.Mem.head _, rfl⟩) (roomB_of (by omega)) (by omega) (List.nil_append _) (Nat.zero_add _) ?_; intro M)
      refine so_assign rfl rfl rfl ?_
      refine so_then ?_
      refine sx_ret ?_
      refine sk_return1 (.tmp rfl .nil) ?_
      intro H hH
      obtain ⟨h1, h2, h3, h4⟩ := hH.own _ (List.Mem.head _)
      exact ⟨hH.kept, .inr ⟨N5, [], true, rfl, h1, h2, h3, rfl, rfl, fun i c hi => by simp at hi⟩⟩
    · skip
      refine sx_region (E := E) ?_
      refine so_buildSlice (out := []) rfl rfl (fun h => nomatch h) (by repeat (first | exact Opps.nil | apply Opps.cons rfl)) Try.underlying32 inf118 rfl rfl (by kernel_rfl) rfl rfl ?_
      intro N5
      refine so_move rfl rfl rfl ?_
      first | refine so_app0 rfl rfl (fun h => nomatch h) rfl rfl rfl rfl rfl Try.underlying32 Try.underlying32 rfl inf118 rfl (by decide) (first_data (m := 0) hip (by rw [Nat.zero_mul]; rfl)) (Nat.le_refl _) ?_ | (refine so_appNew (m := (c0 :: l).length) (bt := 40) rfl rfl (fun h => nomatch h) rfl rfl rfl rfl rfl Try.underlying32 Try.underlying32 rfl inf118 rfl rfl (by decide) rfl (by simp) (first_data hip hcl) (.inr ⟨N5, rfl, List.Mem.head _, rfl⟩) (roomB_of (by omega)) (by omega) (List.nil_append _) (Nat.zero_add _) ?_; intro M)
      refine so_assign rfl rfl rfl ?_
      refine so_then ?_
      refine sx_ret ?_
      refine sk_return1 (.tmp rfl .nil) ?_
      intro H hH
      obtain ⟨h1, h2, h3, h4⟩ := hH.own _ (List.Mem.head _)
      exact ⟨hH.kept, .inr ⟨M, cells, false, rfl, h1, h2, h3, hln, rows_one hln (by decide) (fun i hi => CellsA.one (hce i _ hi (List.getElem?_eq_getElem hi))), fun i c hi => hce i c (lt_of_getElem? hi) hi⟩⟩

theorem clone53_ok {S : AH} {A : Nat → Prop} (hA : ∀ j, A j → j < S.nx) {x : Value} {l : List (List CT)} (hx : CellA A S (.row 56 k122) x (.row l)) : XCall Try.prog 53 [x] S fun u H' => Kept S.nx S H' ∧ Cloned A S k122 l u H' S.nx := by
  obtain ⟨l2, ax, cx, e2, rfl, rx⟩ := hx.rowD
  cases e2
  have hb := rx.len
  have hb2 := rx.bytes
  refine x_enter (E := E) (n := 8) (rs := [.tmp 2]) (l := [(0, _)]) (fn_own Try.func53 rfl rfl rfl) hA rfl ?_
  refine sx_seq ?_
  refine sx_region (E := E) ?_
  refine so_assign rfl rfl rfl ?_
  refine so_then ?_
  refine sx_seq ?_
  refine sx_seq ?_
  rcases ax with _ | p
  · skip
    refine sx_region (E := E) ?_
    refine so_move rfl rfl rfl ?_
    refine so_bin rfl rfl rfl rfl (by first | exact bin_slnil_t Try.underlying33 | exact bin_slnil_f Try.underlying33) ?_
    refine so_then ?_
    refine sx_true rfl ?_
    refine sx_seq ?_
    refine sx_region (E := E) ?_
    refine so_assign rfl rfl rfl ?_
    refine so_then ?_
    refine sx_ret ?_
    refine sk_then_ret ?_
    refine sk_return1 (.tmp rfl .nil) ?_
    exact fun H hH => ⟨hH.kept, .inl ⟨rfl, List.eq_nil_of_length_eq_zero (by have := rx.nil rfl; have := rx.le; omega)⟩⟩
  · skip
    obtain ⟨cells, hcl, hln, hce⟩ := rx.whole l.length (Nat.le_refl _)
    have hip := rx.inA p rfl
    refine sx_region (E := E) ?_
    refine so_move rfl rfl rfl ?_
    refine so_bin rfl rfl rfl rfl (by first | exact bin_slnil_t Try.underlying33 | exact bin_slnil_f Try.underlying33) ?_
    refine so_then ?_
    refine sx_false rfl ?_
    refine sx_skip ?_
    refine sk_then ?_
    refine sx_seq ?_
    rcases l with _ | ⟨c0, l⟩
    · skip
      refine sx_region (E := E) ?_
      refine so_buildSlice (out := []) rfl rfl (fun h => nomatch h) (by repeat (first | exact Opps.nil | apply Opps.cons rfl)) Try.underlying33 inf122 rfl rfl (by kernel_rfl) rfl rfl ?_
      intro N5
      refine so_move rfl rfl rfl ?_
      first | refine so_app0 rfl rfl (fun h => nomatch h) rfl rfl rfl rfl rfl Try.underlying33 Try.underlying33 rfl inf122 rfl (by decide) (first_data (m := 0) hip (by rw [Nat.zero_mul]; rfl)) (Nat.le_refl _) ?_ | (refine so_appNew (m := (c0 :: l).length) (bt := 56) rfl rfl (fun h => nomatch h) rfl rfl rfl rfl rfl Try.underlying33 Try.underlying33 rfl inf122 rfl rfl (by decide) rfl (by simp) (first_data hip hcl) (.inr ⟨N5, rfl, List.Mem.head _, rfl⟩) (roomB_of (by omega)) (by omega) (List.nil_append _) (Nat.zero_add _) ?_; intro M)
      refine so_assign rfl rfl rfl ?_
      refine so_then ?_
      refine sx_ret ?_
      refine sk_return1 (.tmp rfl .nil) ?_
      intro H hH
      obtain ⟨h1, h2, h3, h4⟩ := hH.own _ (List.Mem.head _)
      exact ⟨hH.kept, .inr ⟨N5, [], true, rfl, h1, h2, h3, rfl, rfl, fun i c hi => by simp at hi⟩⟩
    · skip
      refine sx_region (E := E) ?_
      refine so_buildSlice (out := []) rfl rfl (fun h => nomatch h) (by repeat (first | exact Opps.nil | apply Opps.cons rfl)) Try.underlying33 inf122 rfl rfl (by kernel_rfl) rfl rfl ?_
      intro N5
      refine so_move rfl rfl rfl ?_
      first | refine so_app0 rfl rfl (fun h => nomatch h) rfl rfl rfl rfl rfl Try.underlying33 Try.underlying33 rfl inf122 rfl (by decide) (first_data (m := 0) hip (by rw [Nat.zero_mul]; rfl)) (Nat.le_refl _) ?_ | (refine so_appNew (m := (c0 :: l).length) (bt := 56) rfl rfl (fun h => nomatch h) rfl rfl rfl rfl rfl Try.underlying33 Try.underlying33 rfl inf122 rfl rfl (by decide) rfl (by simp) (first_data hip hcl) (.inr ⟨N5, rfl, List.Mem.head _, rfl⟩) (roomB_of (by omega)) (by omega) (List.nil_append _) (Nat.zero_add _) ?_; intro M)
      refine so_assign rfl rfl rfl ?_
      refine so_then ?_
      refine sx_ret ?_
      refine sk_return1 (.tmp rfl .nil) ?_
      intro H hH
      obtain ⟨h1, h2, h3, h4⟩ := hH.own _ (List.Mem.head _)
      exact ⟨hH.kept, .inr ⟨M, cells, false, rfl, h1, h2, h3, hln, rows_one hln (by decide) (fun i hi => CellsA.one (hce i _ hi (List.getElem?_eq_getElem hi))), fun i c hi => hce i c (lt_of_getElem? hi) hi⟩⟩

theorem clone54_ok {S : AH} {A : Nat → Prop} (hA : ∀ j, A j → j < S.nx) {x : Value} {l : List (List CT)} (hx : CellA A S (.row 16 k44) x (.row l)) : XCall Try.prog 54 [x] S fun u H' => Kept S.nx S H' ∧ Cloned A S k44 l u H' S.nx := by
  obtain ⟨l2, ax, cx, e2, rfl, rx⟩ := hx.rowD
  cases e2
  have hb := rx.len
  have hb2 := rx.bytes
  refine x_enter (E := E) (n := 8) (rs := [.tmp 2]) (l := [(0, _)]) (fn_own Try.func54 rfl rfl rfl) hA rfl ?_
  refine sx_seq ?_
  refine sx_region (E := E) ?_
  refine so_assign rfl rfl rfl ?_
  refine so_then ?_
  refine sx_seq ?_
  refine sx_seq ?_
  rcases ax with _ | p
  · skip
    refine sx_region (E := E) ?_
    refine so_move rfl rfl rfl ?_
    refine so_bin rfl rfl rfl rfl (by first | exact bin_slnil_t Try.underlying34 | exact bin_slnil_f Try.underlying34) ?_
    refine so_then ?_
    refine sx_true rfl ?_
    refine sx_seq ?_
    refine sx_region (E := E) ?_
    refine so_assign rfl rfl rfl ?_
    refine so_then ?_
    refine sx_ret ?_
    refine sk_then_ret ?_
    refine sk_return1 (.tmp rfl .nil) ?_
    exact fun H hH => ⟨hH.kept, .inl ⟨rfl, List.eq_nil_of_length_eq_zero (by have := rx.nil rfl; have := rx.le; omega)⟩⟩
  · skip
    obtain ⟨cells, hcl, hln, hce⟩ := rx.whole l.length (Nat.le_refl _)
    have hip := rx.inA p rfl
    refine sx_region (E := E) ?_
    refine so_move rfl rfl rfl ?_
    refine so_bin rfl rfl rfl rfl (by first | exact bin_slnil_t Try.underlying34 | exact bin_slnil_f Try.underlying34) ?_
    refine so_then ?_
    refine sx_false rfl ?_
    refine sx_skip ?_
    refine sk_then ?_
    refine sx_seq ?_
    rcases l with _ | ⟨c0, l⟩
    · skip
      refine sx_region (E := E) ?_
      refine so_buildSlice (out := []) rfl rfl (fun h => nomatch h) (by repeat (first | exact Opps.nil | apply Opps.cons rfl)) Try.underlying34 inf44 rfl rfl (by kernel_rfl) rfl rfl ?_
      intro N5
      refine so_move rfl rfl rfl ?_
      first | refine so_app0 rfl rfl (fun h => nomatch h) rfl rfl rfl rfl rfl Try.underlying34 Try.underlying34 rfl inf44 rfl (by decide) (first_data (m := 0) hip (by rw [Nat.zero_mul]; rfl)) (Nat.le_refl _) ?_ | (refine so_appNew (m := (c0 :: l).length) (bt := 16) rfl rfl (fun h => nomatch h) rfl rfl rfl rfl rfl Try.underlying34 Try.underlying34 rfl inf44 rfl rfl (by decide) rfl (by simp) (first_data hip hcl) (.inr ⟨N5, rfl, List.Mem.head _, rfl⟩) (roomB_of (by omega)) (by omega) (List.nil_append _) (Nat.zero_add _) ?_; intro M)
      refine so_assign rfl rfl rfl ?_
      refine so_then ?_
      refine sx_ret ?_
      refine sk_return1 (.tmp rfl .nil) ?_
      intro H hH
      obtain ⟨h1, h2, h3, h4⟩ := hH.own _ (List.Mem.head _)
      exact ⟨hH.kept, .inr ⟨N5, [], true, rfl, h1, h2, h3, rfl, rfl, fun i c hi => by simp at hi⟩⟩
    · skip
      refine sx_region (E := E) ?_
      refine so_buildSlice (out := []) rfl rfl (fun h => nomatch h) (by repeat (first | exact Opps.nil | apply Opps.cons rfl)) Try.underlying34 inf44 rfl rfl (by kernel_rfl) rfl rfl ?_
      intro N5
      refine so_move rfl rfl rfl ?_
      first | refine so_app0 rfl rfl (fun h => nomatch h) rfl rfl rfl rfl rfl Try.underlying34 Try.underlying34 rfl inf44 rfl (by decide) (first_data (m := 0) hip (by rw [Nat.zero_mul]; rfl)) (Nat.le_refl _) ?_ | (refine so_appNew (m := (c0 :: l).length) (bt := 16) rfl rfl (fun h => nomatch h) rfl rfl rfl rfl rfl Try.underlying34 Try.underlying34 rfl inf44 rfl rfl (by decide) rfl (by simp) (first_data hip hcl) (.inr ⟨N5, rfl, List.Mem.head _, rfl⟩) (roomB_of (by omega)) (by omega) (List.nil_append _) (Nat.zero_add _) ?_; intro M)
      refine so_assign rfl rfl rfl ?_
      refine so_then ?_
      refine sx_ret ?_
      refine sk_return1 (.tmp rfl .nil) ?_
      intro H hH
      obtain ⟨h1, h2, h3, h4⟩ := hH.own _ (List.Mem.head _)
      exact ⟨hH.kept, .inr ⟨M, cells, false, rfl, h1, h2, h3, hln, rows_one hln (by decide) (fun i hi => CellsA.one (hce i _ hi (List.getElem?_eq_getElem hi))), fun i c hi => hce i c (lt_of_getElem? hi) hi⟩⟩

end Go.Proofs.Ytaedeadgbojmnaa
