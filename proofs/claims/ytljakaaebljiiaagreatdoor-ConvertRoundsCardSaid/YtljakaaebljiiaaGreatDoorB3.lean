/-
  Walks, laid by program.
-/
import Derived.Test.YtljakaaebljiiaaGreatDoorB2
set_option linter.unusedVariables false
set_option linter.unusedSimpArgs false
set_option maxRecDepth 100000
namespace Go.Proofs.YtljakaaebljiiaaGreatDoor
open Go Go.AM
set_option maxHeartbeats 1000000 in
theorem detect_ok {S : AH} (q : ByteArray) : XCall Tryz.prog 7 [.string q] S fun v H' => v = .int .i64 (detV q.data.toList) ∧ Kept S.nx S H' := by
  refine x_enter (E := E) (n := 21) (rs := [.tmp 2]) (l := [(0, _)]) (fn_own Tryz.func7 rfl rfl rfl) (A0 := fun _ => False) (fun j h => h.elim) rfl ?_
  refine sx_seq ?_
  refine sx_region (E := E) ?_
  refine so_boxS rfl rfl (fun h => nomatch h) rfl rfl ?_
  intro N1
  refine so_assign rfl rfl rfl ?_
  refine so_then ?_
  refine sx_seq ?_
  refine sx_region (E := E) ?_
  refine so_makeFunc rfl rfl (by repeat (first | exact Opvs.nil | apply Opvs.cons rfl)) (by repeat (first | exact Opvs.nil | apply Opvs.cons rfl)) ?_
  refine so_assign rfl rfl rfl ?_
  refine so_then ?_
  refine sx_seq ?_
  refine sx_block ?_
  refine sx_seq ?_
  cases h1 : a1 q.data.toList
  · skip
    refine sx_region (E := E) ?_
    refine so_move rfl rfl rfl ?_
    refine so_buildSlice (out := us1.map .string) rfl rfl (fun h => nomatch h) (by repeat (first | exact Opps.nil | apply Opps.cons rfl)) Tryz.underlying59 inf9 rfl rfl (by kernel_rfl) rfl rfl ?_
    intro N7
    refine so_callV rfl rfl (fun h => nomatch h) rfl rfl has15 (by repeat (first | exact Opvs.nil | apply Opvs.cons rfl)) rfl (fun H hH => (begins1_ok (A := fun j => j = N1 ∨ j = N7) (fun j hj => hj.elim (fun e => by rw [e]; exact (hH.own _ (List.Mem.tail _ (List.Mem.head _))).2.2.1) (fun e => by rw [e]; exact (hH.own _ (List.Mem.head _)).2.2.1)) (row_strs (us := us1) rfl (hH.own _ (List.Mem.head _)).1 (.inr rfl) us1_le (by decide) rfl) (.inl rfl) (hH.own _ (List.Mem.tail _ (List.Mem.head _))).1 rfl).b ((any_us1 _).trans h1)) ?_
    refine so_assign rfl rfl rfl ?_
    refine so_then ?_
    refine sx_false rfl ?_
    refine sx_seq ?_
    cases h2 : a2 q.data.toList
    · skip
      refine sx_region (E := E) ?_
      refine so_move rfl rfl rfl ?_
      refine so_buildSlice (out := us2.map .string) rfl rfl (fun h => nomatch h) (by repeat (first | exact Opps.nil | apply Opps.cons rfl)) Tryz.underlying59 inf9 rfl rfl (by kernel_rfl) rfl rfl ?_
      intro N11
      refine so_callV rfl rfl (fun h => nomatch h) rfl rfl has15 (by repeat (first | exact Opvs.nil | apply Opvs.cons rfl)) rfl (fun H hH => (begins1_ok (A := fun j => j = N1 ∨ j = N11) (fun j hj => hj.elim (fun e => by rw [e]; exact (hH.own _ (List.Mem.tail _ (List.Mem.tail _ (List.Mem.head _)))).2.2.1) (fun e => by rw [e]; exact (hH.own _ (List.Mem.head _)).2.2.1)) (row_strs (us := us2) rfl (hH.own _ (List.Mem.head _)).1 (.inr rfl) us2_le (by decide) rfl) (.inl rfl) (hH.own _ (List.Mem.tail _ (List.Mem.tail _ (List.Mem.head _)))).1 rfl).b ((any_us2 _).trans h2)) ?_
      refine so_assign rfl rfl rfl ?_
      refine so_then ?_
      refine sx_false rfl ?_
      refine sx_seq ?_
      cases h3 : a3 q.data.toList
      · skip
        refine sx_region (E := E) ?_
        refine so_move rfl rfl rfl ?_
        refine so_buildSlice (out := us3.map .string) rfl rfl (fun h => nomatch h) (by repeat (first | exact Opps.nil | apply Opps.cons rfl)) Tryz.underlying59 inf9 rfl rfl (by kernel_rfl) rfl rfl ?_
        intro N15
        refine so_callV rfl rfl (fun h => nomatch h) rfl rfl has15 (by repeat (first | exact Opvs.nil | apply Opvs.cons rfl)) rfl (fun H hH => (begins1_ok (A := fun j => j = N1 ∨ j = N15) (fun j hj => hj.elim (fun e => by rw [e]; exact (hH.own _ (List.Mem.tail _ (List.Mem.tail _ (List.Mem.tail _ (List.Mem.head _))))).2.2.1) (fun e => by rw [e]; exact (hH.own _ (List.Mem.head _)).2.2.1)) (row_strs (us := us3) rfl (hH.own _ (List.Mem.head _)).1 (.inr rfl) us3_le (by decide) rfl) (.inl rfl) (hH.own _ (List.Mem.tail _ (List.Mem.tail _ (List.Mem.tail _ (List.Mem.head _))))).1 rfl).b ((any_us3 _).trans h3)) ?_
        refine so_assign rfl rfl rfl ?_
        refine so_then ?_
        refine sx_false rfl ?_
        refine sx_seq ?_
        cases h4 : a4 q.data.toList
        · skip
          refine sx_region (E := E) ?_
          refine so_move rfl rfl rfl ?_
          refine so_buildSlice (out := us4.map .string) rfl rfl (fun h => nomatch h) (by repeat (first | exact Opps.nil | apply Opps.cons rfl)) Tryz.underlying59 inf9 rfl rfl (by kernel_rfl) rfl rfl ?_
          intro N19
          refine so_callV rfl rfl (fun h => nomatch h) rfl rfl has15 (by repeat (first | exact Opvs.nil | apply Opvs.cons rfl)) rfl (fun H hH => (begins1_ok (A := fun j => j = N1 ∨ j = N19) (fun j hj => hj.elim (fun e => by rw [e]; exact (hH.own _ (List.Mem.tail _ (List.Mem.tail _ (List.Mem.tail _ (List.Mem.tail _ (List.Mem.head _)))))).2.2.1) (fun e => by rw [e]; exact (hH.own _ (List.Mem.head _)).2.2.1)) (row_strs (us := us4) rfl (hH.own _ (List.Mem.head _)).1 (.inr rfl) us4_le (by decide) rfl) (.inl rfl) (hH.own _ (List.Mem.tail _ (List.Mem.tail _ (List.Mem.tail _ (List.Mem.tail _ (List.Mem.head _)))))).1 rfl).b ((any_us4 _).trans h4)) ?_
          refine so_assign rfl rfl rfl ?_
          refine so_then ?_
          refine sx_false rfl ?_
          refine sx_skip ?_
          refine sk_block ?_
          refine sk_then ?_
          refine sx_seq ?_
          refine sx_region (E := E) ?_
          refine so_assign rfl rfl rfl ?_
          refine so_then ?_
          refine sx_ret ?_
          refine sk_return1 (.tmp rfl .nil) ?_
          exact fun H hH => ⟨by rw [detV_0 h1 h2 h3 h4], hH.kept⟩
        · skip
          refine sx_region (E := E) ?_
          refine so_move rfl rfl rfl ?_
          refine so_buildSlice (out := us4.map .string) rfl rfl (fun h => nomatch h) (by repeat (first | exact Opps.nil | apply Opps.cons rfl)) Tryz.underlying59 inf9 rfl rfl (by kernel_rfl) rfl rfl ?_
          intro N19
          refine so_callV rfl rfl (fun h => nomatch h) rfl rfl has15 (by repeat (first | exact Opvs.nil | apply Opvs.cons rfl)) rfl (fun H hH => (begins1_ok (A := fun j => j = N1 ∨ j = N19) (fun j hj => hj.elim (fun e => by rw [e]; exact (hH.own _ (List.Mem.tail _ (List.Mem.tail _ (List.Mem.tail _ (List.Mem.tail _ (List.Mem.head _)))))).2.2.1) (fun e => by rw [e]; exact (hH.own _ (List.Mem.head _)).2.2.1)) (row_strs (us := us4) rfl (hH.own _ (List.Mem.head _)).1 (.inr rfl) us4_le (by decide) rfl) (.inl rfl) (hH.own _ (List.Mem.tail _ (List.Mem.tail _ (List.Mem.tail _ (List.Mem.tail _ (List.Mem.head _)))))).1 rfl).b ((any_us4 _).trans h4)) ?_
          refine so_assign rfl rfl rfl ?_
          refine so_then ?_
          refine sx_true rfl ?_
          refine sx_seq ?_
          refine sx_region (E := E) ?_
          refine so_assign rfl rfl rfl ?_
          refine so_then ?_
          refine sx_ret ?_
          refine sk_block_ret ?_
          refine sk_then_ret ?_
          refine sk_return1 (.tmp rfl .nil) ?_
          exact fun H hH => ⟨by rw [detV_4 h1 h2 h3 h4], hH.kept⟩
      · skip
        refine sx_region (E := E) ?_
        refine so_move rfl rfl rfl ?_
        refine so_buildSlice (out := us3.map .string) rfl rfl (fun h => nomatch h) (by repeat (first | exact Opps.nil | apply Opps.cons rfl)) Tryz.underlying59 inf9 rfl rfl (by kernel_rfl) rfl rfl ?_
        intro N15
        refine so_callV rfl rfl (fun h => nomatch h) rfl rfl has15 (by repeat (first | exact Opvs.nil | apply Opvs.cons rfl)) rfl (fun H hH => (begins1_ok (A := fun j => j = N1 ∨ j = N15) (fun j hj => hj.elim (fun e => by rw [e]; exact (hH.own _ (List.Mem.tail _ (List.Mem.tail _ (List.Mem.tail _ (List.Mem.head _))))).2.2.1) (fun e => by rw [e]; exact (hH.own _ (List.Mem.head _)).2.2.1)) (row_strs (us := us3) rfl (hH.own _ (List.Mem.head _)).1 (.inr rfl) us3_le (by decide) rfl) (.inl rfl) (hH.own _ (List.Mem.tail _ (List.Mem.tail _ (List.Mem.tail _ (List.Mem.head _))))).1 rfl).b ((any_us3 _).trans h3)) ?_
        refine so_assign rfl rfl rfl ?_
        refine so_then ?_
        refine sx_true rfl ?_
        refine sx_seq ?_
        refine sx_region (E := E) ?_
        refine so_assign rfl rfl rfl ?_
        refine so_then ?_
        refine sx_ret ?_
        refine sk_block_ret ?_
        refine sk_then_ret ?_
        refine sk_return1 (.tmp rfl .nil) ?_
        exact fun H hH => ⟨by rw [detV_3 h1 h2 h3], hH.kept⟩
    · skip
      refine sx_region (E := E) ?_
      refine so_move rfl rfl rfl ?_
      refine so_buildSlice (out := us2.map .string) rfl rfl (fun h => nomatch h) (by repeat (first | exact Opps.nil | apply Opps.cons rfl)) Tryz.underlying59 inf9 rfl rfl (by kernel_rfl) rfl rfl ?_
      intro N11
      refine so_callV rfl rfl (fun h => nomatch h) rfl rfl has15 (by repeat (first | exact Opvs.nil | apply Opvs.cons rfl)) rfl (fun H hH => (begins1_ok (A := fun j => j = N1 ∨ j = N11) (fun j hj => hj.elim (fun e => by rw [e]; exact (hH.own _ (List.Mem.tail _ (List.Mem.tail _ (List.Mem.head _)))).2.2.1) (fun e => by rw [e]; exact (hH.own _ (List.Mem.head _)).2.2.1)) (row_strs (us := us2) rfl (hH.own _ (List.Mem.head _)).1 (.inr rfl) us2_le (by decide) rfl) (.inl rfl) (hH.own _ (List.Mem.tail _ (List.Mem.tail _ (List.Mem.head _)))).1 rfl).b ((any_us2 _).trans h2)) ?_
      refine so_assign rfl rfl rfl ?_
      refine so_then ?_
      refine sx_true rfl ?_
      refine sx_seq ?_
      refine sx_region (E := E) ?_
      refine so_assign rfl rfl rfl ?_
      refine so_then ?_
      refine sx_ret ?_
      refine sk_block_ret ?_
      refine sk_then_ret ?_
      refine sk_return1 (.tmp rfl .nil) ?_
      exact fun H hH => ⟨by rw [detV_2 h1 h2], hH.kept⟩
  · skip
    refine sx_region (E := E) ?_
    refine so_move rfl rfl rfl ?_
    refine so_buildSlice (out := us1.map .string) rfl rfl (fun h => nomatch h) (by repeat (first | exact Opps.nil | apply Opps.cons rfl)) Tryz.underlying59 inf9 rfl rfl (by kernel_rfl) rfl rfl ?_
    intro N7
    refine so_callV rfl rfl (fun h => nomatch h) rfl rfl has15 (by repeat (first | exact Opvs.nil | apply Opvs.cons rfl)) rfl (fun H hH => (begins1_ok (A := fun j => j = N1 ∨ j = N7) (fun j hj => hj.elim (fun e => by rw [e]; exact (hH.own _ (List.Mem.tail _ (List.Mem.head _))).2.2.1) (fun e => by rw [e]; exact (hH.own _ (List.Mem.head _)).2.2.1)) (row_strs (us := us1) rfl (hH.own _ (List.Mem.head _)).1 (.inr rfl) us1_le (by decide) rfl) (.inl rfl) (hH.own _ (List.Mem.tail _ (List.Mem.head _))).1 rfl).b ((any_us1 _).trans h1)) ?_
    refine so_assign rfl rfl rfl ?_
    refine so_then ?_
    refine sx_true rfl ?_
    refine sx_seq ?_
    refine sx_region (E := E) ?_
    refine so_assign rfl rfl rfl ?_
    refine so_then ?_
    refine sx_ret ?_
    refine sk_block_ret ?_
    refine sk_then_ret ?_
    refine sk_return1 (.tmp rfl .nil) ?_
    exact fun H hH => ⟨by rw [detV_1 h1], hH.kept⟩

set_option maxHeartbeats 1000000 in
theorem rdetect_ok {S : AH} (q : ByteArray) : XCall Tryz.prog 8 [.string q] S fun v H' => v = .int .i64 (detV q.data.toList) ∧ Kept S.nx S H' := by
  refine x_enter (E := E) (n := 23) (rs := [.tmp 2]) (l := [(0, _)]) (fn_own Tryz.func8 rfl rfl rfl) (A0 := fun _ => False) (fun j h => h.elim) rfl ?_
  refine sx_seq ?_
  refine sx_region (E := E) ?_
  refine so_assign rfl rfl rfl ?_
  refine so_then ?_
  refine sx_seq ?_
  refine sx_seq ?_
  rcases or3 (preB q.data.toList [80, 53]) (preB q.data.toList [80, 54]) (preB q.data.toList [80, 55]) with e0 | ⟨e0, e1⟩ | ⟨e0, e1, e2⟩ | ⟨e0, e1, e2⟩
  · skip
    have h1 : a1 q.data.toList = true := by simp only [a1, e0, Bool.or_true, Bool.true_or, Bool.or_false]
    refine sx_region (E := E) ?_
    refine so_move rfl rfl rfl ?_
    refine so_call rfl rfl (fun h => nomatch h) rfl has19 (by repeat (first | exact Opvs.nil | apply Opvs.cons rfl)) (fun H hH => (begins_ok q _).b e0) ?_
    refine so_move rfl rfl rfl ?_
    first | refine so_move rfl rfl rfl ?_ | refine so_skip rfl rfl rfl ?_
    first | refine so_call rfl rfl (fun h => nomatch h) rfl has19 (by repeat (first | exact Opvs.nil | apply Opvs.cons rfl)) (fun H hH => (begins_ok q _).b e1) ?_ | refine so_skip rfl rfl rfl ?_
    first | refine so_pick_t rfl rfl rfl rfl ?_ | refine so_pick_f rfl rfl rfl rfl ?_
    refine so_move rfl rfl rfl ?_
    first | refine so_move rfl rfl rfl ?_ | refine so_skip rfl rfl rfl ?_
    first | refine so_call rfl rfl (fun h => nomatch h) rfl has19 (by repeat (first | exact Opvs.nil | apply Opvs.cons rfl)) (fun H hH => (begins_ok q _).b e2) ?_ | refine so_skip rfl rfl rfl ?_
    first | refine so_pick_t rfl rfl rfl rfl ?_ | refine so_pick_f rfl rfl rfl rfl ?_
    refine so_then ?_
    refine sx_true rfl ?_
    refine sx_seq ?_
    refine sx_region (E := E) ?_
    refine so_assign rfl rfl rfl ?_
    refine so_then ?_
    refine sx_ret ?_
    refine sk_then_ret ?_
    refine sk_return1 (.tmp rfl .nil) ?_
    exact fun H hH => ⟨by rw [detV_1 h1], hH.kept⟩
  · skip
    have h1 : a1 q.data.toList = true := by simp only [a1, e0, e1, Bool.or_true, Bool.true_or, Bool.or_false]
    refine sx_region (E := E) ?_
    refine so_move rfl rfl rfl ?_
    refine so_call rfl rfl (fun h => nomatch h) rfl has19 (by repeat (first | exact Opvs.nil | apply Opvs.cons rfl)) (fun H hH => (begins_ok q _).b e0) ?_
    refine so_move rfl rfl rfl ?_
    first | refine so_move rfl rfl rfl ?_ | refine so_skip rfl rfl rfl ?_
    first | refine so_call rfl rfl (fun h => nomatch h) rfl has19 (by repeat (first | exact Opvs.nil | apply Opvs.cons rfl)) (fun H hH => (begins_ok q _).b e1) ?_ | refine so_skip rfl rfl rfl ?_
    first | refine so_pick_t rfl rfl rfl rfl ?_ | refine so_pick_f rfl rfl rfl rfl ?_
    refine so_move rfl rfl rfl ?_
    first | refine so_move rfl rfl rfl ?_ | refine so_skip rfl rfl rfl ?_
    first | refine so_call rfl rfl (fun h => nomatch h) rfl has19 (by repeat (first | exact Opvs.nil | apply Opvs.cons rfl)) (fun H hH => (begins_ok q _).b e2) ?_ | refine so_skip rfl rfl rfl ?_
    first | refine so_pick_t rfl rfl rfl rfl ?_ | refine so_pick_f rfl rfl rfl rfl ?_
    refine so_then ?_
    refine sx_true rfl ?_
    refine sx_seq ?_
    refine sx_region (E := E) ?_
    refine so_assign rfl rfl rfl ?_
    refine so_then ?_
    refine sx_ret ?_
    refine sk_then_ret ?_
    refine sk_return1 (.tmp rfl .nil) ?_
    exact fun H hH => ⟨by rw [detV_1 h1], hH.kept⟩
  · skip
    have h1 : a1 q.data.toList = true := by simp only [a1, e0, e1, e2, Bool.or_true, Bool.true_or, Bool.or_false]
    refine sx_region (E := E) ?_
    refine so_move rfl rfl rfl ?_
    refine so_call rfl rfl (fun h => nomatch h) rfl has19 (by repeat (first | exact Opvs.nil | apply Opvs.cons rfl)) (fun H hH => (begins_ok q _).b e0) ?_
    refine so_move rfl rfl rfl ?_
    first | refine so_move rfl rfl rfl ?_ | refine so_skip rfl rfl rfl ?_
    first | refine so_call rfl rfl (fun h => nomatch h) rfl has19 (by repeat (first | exact Opvs.nil | apply Opvs.cons rfl)) (fun H hH => (begins_ok q _).b e1) ?_ | refine so_skip rfl rfl rfl ?_
    first | refine so_pick_t rfl rfl rfl rfl ?_ | refine so_pick_f rfl rfl rfl rfl ?_
    refine so_move rfl rfl rfl ?_
    first | refine so_move rfl rfl rfl ?_ | refine so_skip rfl rfl rfl ?_
    first | refine so_call rfl rfl (fun h => nomatch h) rfl has19 (by repeat (first | exact Opvs.nil | apply Opvs.cons rfl)) (fun H hH => (begins_ok q _).b e2) ?_ | refine so_skip rfl rfl rfl ?_
    first | refine so_pick_t rfl rfl rfl rfl ?_ | refine so_pick_f rfl rfl rfl rfl ?_
    refine so_then ?_
    refine sx_true rfl ?_
    refine sx_seq ?_
    refine sx_region (E := E) ?_
    refine so_assign rfl rfl rfl ?_
    refine so_then ?_
    refine sx_ret ?_
    refine sk_then_ret ?_
    refine sk_return1 (.tmp rfl .nil) ?_
    exact fun H hH => ⟨by rw [detV_1 h1], hH.kept⟩
  · skip
    have h1 : a1 q.data.toList = false := by simp only [a1, e0, e1, e2, Bool.or_true, Bool.true_or, Bool.or_false]
    refine sx_region (E := E) ?_
    refine so_move rfl rfl rfl ?_
    refine so_call rfl rfl (fun h => nomatch h) rfl has19 (by repeat (first | exact Opvs.nil | apply Opvs.cons rfl)) (fun H hH => (begins_ok q _).b e0) ?_
    refine so_move rfl rfl rfl ?_
    first | refine so_move rfl rfl rfl ?_ | refine so_skip rfl rfl rfl ?_
    first | refine so_call rfl rfl (fun h => nomatch h) rfl has19 (by repeat (first | exact Opvs.nil | apply Opvs.cons rfl)) (fun H hH => (begins_ok q _).b e1) ?_ | refine so_skip rfl rfl rfl ?_
    first | refine so_pick_t rfl rfl rfl rfl ?_ | refine so_pick_f rfl rfl rfl rfl ?_
    refine so_move rfl rfl rfl ?_
    first | refine so_move rfl rfl rfl ?_ | refine so_skip rfl rfl rfl ?_
    first | refine so_call rfl rfl (fun h => nomatch h) rfl has19 (by repeat (first | exact Opvs.nil | apply Opvs.cons rfl)) (fun H hH => (begins_ok q _).b e2) ?_ | refine so_skip rfl rfl rfl ?_
    first | refine so_pick_t rfl rfl rfl rfl ?_ | refine so_pick_f rfl rfl rfl rfl ?_
    refine so_then ?_
    refine sx_false rfl ?_
    refine sx_skip ?_
    refine sk_then ?_
    refine sx_seq ?_
    refine sx_seq ?_
    cases h2 : a2 q.data.toList
    · skip
      refine sx_region (E := E) ?_
      refine so_move rfl rfl rfl ?_
      refine so_call rfl rfl (fun h => nomatch h) rfl has19 (by repeat (first | exact Opvs.nil | apply Opvs.cons rfl)) (fun H hH => (begins_ok q _).b (show preB q.data.toList [137, 80, 78, 71, 13, 10, 26, 10] = _ from h2)) ?_
      refine so_then ?_
      refine sx_false rfl ?_
      refine sx_skip ?_
      refine sk_then ?_
      refine sx_seq ?_
      refine sx_seq ?_
      rcases or2 (preB q.data.toList [73, 73, 42, 0]) (preB q.data.toList [77, 77, 0, 42]) with f0 | ⟨f0, f1⟩ | ⟨f0, f1⟩
      · skip
        have h3 : a3 q.data.toList = true := by simp only [a3, f0, Bool.or_true, Bool.true_or, Bool.or_false]
        refine sx_region (E := E) ?_
        refine so_move rfl rfl rfl ?_
        refine so_call rfl rfl (fun h => nomatch h) rfl has19 (by repeat (first | exact Opvs.nil | apply Opvs.cons rfl)) (fun H hH => (begins_ok q _).b f0) ?_
        refine so_move rfl rfl rfl ?_
        first | refine so_move rfl rfl rfl ?_ | refine so_skip rfl rfl rfl ?_
        first | refine so_call rfl rfl (fun h => nomatch h) rfl has19 (by repeat (first | exact Opvs.nil | apply Opvs.cons rfl)) (fun H hH => (begins_ok q _).b f1) ?_ | refine so_skip rfl rfl rfl ?_
        first | refine so_pick_t rfl rfl rfl rfl ?_ | refine so_pick_f rfl rfl rfl rfl ?_
        refine so_then ?_
        refine sx_true rfl ?_
        refine sx_seq ?_
        refine sx_region (E := E) ?_
        refine so_assign rfl rfl rfl ?_
        refine so_then ?_
        refine sx_ret ?_
        refine sk_then_ret ?_
        refine sk_return1 (.tmp rfl .nil) ?_
        exact fun H hH => ⟨by rw [detV_3 h1 h2 h3], hH.kept⟩
      · skip
        have h3 : a3 q.data.toList = true := by simp only [a3, f0, f1, Bool.or_true, Bool.true_or, Bool.or_false]
        refine sx_region (E := E) ?_
        refine so_move rfl rfl rfl ?_
        refine so_call rfl rfl (fun h => nomatch h) rfl has19 (by repeat (first | exact Opvs.nil | apply Opvs.cons rfl)) (fun H hH => (begins_ok q _).b f0) ?_
        refine so_move rfl rfl rfl ?_
        first | refine so_move rfl rfl rfl ?_ | refine so_skip rfl rfl rfl ?_
        first | refine so_call rfl rfl (fun h => nomatch h) rfl has19 (by repeat (first | exact Opvs.nil | apply Opvs.cons rfl)) (fun H hH => (begins_ok q _).b f1) ?_ | refine so_skip rfl rfl rfl ?_
        first | refine so_pick_t rfl rfl rfl rfl ?_ | refine so_pick_f rfl rfl rfl rfl ?_
        refine so_then ?_
        refine sx_true rfl ?_
        refine sx_seq ?_
        refine sx_region (E := E) ?_
        refine so_assign rfl rfl rfl ?_
        refine so_then ?_
        refine sx_ret ?_
        refine sk_then_ret ?_
        refine sk_return1 (.tmp rfl .nil) ?_
        exact fun H hH => ⟨by rw [detV_3 h1 h2 h3], hH.kept⟩
      · skip
        have h3 : a3 q.data.toList = false := by simp only [a3, f0, f1, Bool.or_true, Bool.true_or, Bool.or_false]
        refine sx_region (E := E) ?_
        refine so_move rfl rfl rfl ?_
        refine so_call rfl rfl (fun h => nomatch h) rfl has19 (by repeat (first | exact Opvs.nil | apply Opvs.cons rfl)) (fun H hH => (begins_ok q _).b f0) ?_
        refine so_move rfl rfl rfl ?_
        first | refine so_move rfl rfl rfl ?_ | refine so_skip rfl rfl rfl ?_
        first | refine so_call rfl rfl (fun h => nomatch h) rfl has19 (by repeat (first | exact Opvs.nil | apply Opvs.cons rfl)) (fun H hH => (begins_ok q _).b f1) ?_ | refine so_skip rfl rfl rfl ?_
        first | refine so_pick_t rfl rfl rfl rfl ?_ | refine so_pick_f rfl rfl rfl rfl ?_
        refine so_then ?_
        refine sx_false rfl ?_
        refine sx_skip ?_
        refine sk_then ?_
        refine sx_seq ?_
        refine sx_seq ?_
        cases h4 : a4 q.data.toList
        · skip
          refine sx_region (E := E) ?_
          refine so_move rfl rfl rfl ?_
          refine so_call rfl rfl (fun h => nomatch h) rfl has19 (by repeat (first | exact Opvs.nil | apply Opvs.cons rfl)) (fun H hH => (begins_ok q _).b (show preB q.data.toList [73, 69, 68, 49] = _ from h4)) ?_
          refine so_then ?_
          refine sx_false rfl ?_
          refine sx_skip ?_
          refine sk_then ?_
          refine sx_seq ?_
          refine sx_region (E := E) ?_
          refine so_assign rfl rfl rfl ?_
          refine so_then ?_
          refine sx_ret ?_
          refine sk_return1 (.tmp rfl .nil) ?_
          exact fun H hH => ⟨by rw [detV_0 h1 h2 h3 h4], hH.kept⟩
        · skip
          refine sx_region (E := E) ?_
          refine so_move rfl rfl rfl ?_
          refine so_call rfl rfl (fun h => nomatch h) rfl has19 (by repeat (first | exact Opvs.nil | apply Opvs.cons rfl)) (fun H hH => (begins_ok q _).b (show preB q.data.toList [73, 69, 68, 49] = _ from h4)) ?_
          refine so_then ?_
          refine sx_true rfl ?_
          refine sx_seq ?_
          refine sx_region (E := E) ?_
          refine so_assign rfl rfl rfl ?_
          refine so_then ?_
          refine sx_ret ?_
          refine sk_then_ret ?_
          refine sk_return1 (.tmp rfl .nil) ?_
          exact fun H hH => ⟨by rw [detV_4 h1 h2 h3 h4], hH.kept⟩
    · skip
      refine sx_region (E := E) ?_
      refine so_move rfl rfl rfl ?_
      refine so_call rfl rfl (fun h => nomatch h) rfl has19 (by repeat (first | exact Opvs.nil | apply Opvs.cons rfl)) (fun H hH => (begins_ok q _).b (show preB q.data.toList [137, 80, 78, 71, 13, 10, 26, 10] = _ from h2)) ?_
      refine so_then ?_
      refine sx_true rfl ?_
      refine sx_seq ?_
      refine sx_region (E := E) ?_
      refine so_assign rfl rfl rfl ?_
      refine so_then ?_
      refine sx_ret ?_
      refine sk_then_ret ?_
      refine sk_return1 (.tmp rfl .nil) ?_
      exact fun H hH => ⟨by rw [detV_2 h1 h2], hH.kept⟩

end Go.Proofs.YtljakaaebljiiaaGreatDoor
