/-
  Walks, laid by program.
-/
import Derived.Test.YtpfgpjopjadmiaaGreatDoorB1
set_option linter.unusedVariables false
set_option linter.unusedSimpArgs false
set_option maxRecDepth 100000
namespace Go.Proofs.YtpfgpjopjadmiaaGreatDoor
open Go Go.AM
set_option maxHeartbeats 1000000 in
theorem text_ok {S : AH} (hT : Tab S) {k d n : Int} (hd : (Lit.int .i64 d).wf = true) (hn : (Lit.int .i64 n).wf = true) : XCall Tryz.prog 4 [.agg ⟨[.int .i64 k, .int .i64 d, .int .i64 n]⟩] S fun v H' => v = .string (textB k d n) ∧ Kept S.nx S H' := by
  have hsd := itoa_size hd
  have hsn := itoa_size hn
  refine x_enter (E := E) (n := 32) (rs := [.tmp 2]) (l := [(0, _)]) (fn_own Tryz.func4 rfl rfl rfl) (A0 := fun _ => False) (fun j h => h.elim) rfl ?_
  refine sx_seq ?_
  refine sx_region (E := E) ?_
  refine so_boxA rfl rfl (fun h => nomatch h) rfl ?_
  intro N1
  refine so_assign rfl rfl rfl ?_
  refine so_then ?_
  refine sx_seq ?_
  refine sx_region (E := E) ?_
  refine so_assign rfl rfl rfl ?_
  refine so_then ?_
  refine sx_seq ?_
  refine sx_seq ?_
  rcases kind6 k with rfl | rfl | rfl | rfl | rfl | hk
  · skip
    refine sx_region (E := E) ?_
    refine so_fieldO (o' := 0) rfl rfl rfl Tryz.underlying23 rfl inf3 rfl rfl ?_
    refine so_load rfl rfl rfl (by first | exact ld_own Tryz.underlying3 rfl (by repeat (first | exact List.Mem.head _ | apply List.Mem.tail)) (by first | exact cellsOf_get rfl | rfl) | exact ld_data Tryz.underlying3 rfl (by first | assumption | exact InA.add (by assumption) | exact InA.add (InA.add (by assumption))) (by assumption)) ?_
    refine so_then ?_
    refine sx_block ?_
    refine sx_seq ?_
    refine sx_region (E := E) ?_
    refine so_bin rfl rfl rfl rfl (by first | exact bin_eql_t (by first | rfl | assumption | omega) | exact bin_eql_f (by first | rfl | assumption | omega)) ?_
    refine so_assign rfl rfl rfl ?_
    refine so_then ?_
    refine sx_true rfl ?_
    refine sx_region (E := E) ?_
    refine so_assign rfl rfl rfl ?_
    refine so_nil ?_
    refine sk_block ?_
    refine sk_then ?_
    refine sx_seq ?_
    refine sx_draw (E := E) mixed [2, 10] _ (List.Sublist.refl _) (by kernel_rfl) (by kernel_rfl) (by decide) ?_
    refine so_fieldO (o' := 1) rfl rfl rfl Tryz.underlying23 rfl inf3 rfl rfl ?_
    refine so_load rfl rfl rfl (by first | exact ld_own Tryz.underlying3 rfl (by repeat (first | exact List.Mem.head _ | apply List.Mem.tail)) (by first | exact cellsOf_get rfl | rfl) | exact ld_data Tryz.underlying3 rfl (by first | assumption | exact InA.add (by assumption) | exact InA.add (InA.add (by assumption))) (by assumption)) ?_
    refine so_call rfl rfl (fun _ => (by repeat (first | exact List.Mem.head _ | apply List.Mem.tail))) rfl has7 (by repeat (first | exact Opvs.nil | apply Opvs.cons rfl)) (fun H hH => itoa_ok (hT.at hH.w0) hd) ?_
    refine so_bin rfl rfl rfl rfl (by first | exact bin_sadd (by simp only [cat_size, size_mk, List.length_cons, List.length_nil]; omega) | exact bin_incr (by omega) | exact bin_add (wrap64 (by omega) (by omega)) | exact bin_add rfl) ?_
    refine so_bin rfl rfl rfl rfl (by first | exact bin_sadd (by simp only [cat_size, size_mk, List.length_cons, List.length_nil]; omega) | exact bin_incr (by omega) | exact bin_add (wrap64 (by omega) (by omega)) | exact bin_add rfl) ?_
    refine so_move rfl rfl rfl ?_
    refine so_bin rfl rfl rfl rfl (by first | exact bin_sadd (by simp only [cat_size, size_mk, List.length_cons, List.length_nil]; omega) | exact bin_incr (by omega) | exact bin_add (wrap64 (by omega) (by omega)) | exact bin_add rfl) ?_
    refine so_bin rfl rfl rfl rfl (by first | exact bin_sadd (by simp only [cat_size, size_mk, List.length_cons, List.length_nil]; omega) | exact bin_incr (by omega) | exact bin_add (wrap64 (by omega) (by omega)) | exact bin_add rfl) ?_
    refine so_fieldO (o' := 2) rfl rfl rfl Tryz.underlying23 rfl inf3 rfl rfl ?_
    refine so_load rfl rfl rfl (by first | exact ld_own Tryz.underlying3 rfl (by repeat (first | exact List.Mem.head _ | apply List.Mem.tail)) (by first | exact cellsOf_get rfl | rfl) | exact ld_data Tryz.underlying3 rfl (by first | assumption | exact InA.add (by assumption) | exact InA.add (InA.add (by assumption))) (by assumption)) ?_
    refine so_call rfl rfl (fun _ => (by repeat (first | exact List.Mem.head _ | apply List.Mem.tail))) rfl has7 (by repeat (first | exact Opvs.nil | apply Opvs.cons rfl)) (fun H hH => itoa_ok (hT.at hH.w0) hn) ?_
    refine so_bin rfl rfl rfl rfl (by first | exact bin_sadd (by simp only [cat_size, size_mk, List.length_cons, List.length_nil]; omega) | exact bin_incr (by omega) | exact bin_add (wrap64 (by omega) (by omega)) | exact bin_add rfl) ?_
    refine so_assign rfl rfl rfl ?_
    refine so_then ?_
    refine sx_ret ?_
    refine sk_return1 (.tmp rfl .nil) ?_
    exact fun H hH => ⟨by first | (rw [textB_1]; done) | (rw [textB_1]; rfl), hH.kept⟩
  · skip
    refine sx_region (E := E) ?_
    refine so_fieldO (o' := 0) rfl rfl rfl Tryz.underlying23 rfl inf3 rfl rfl ?_
    refine so_load rfl rfl rfl (by first | exact ld_own Tryz.underlying3 rfl (by repeat (first | exact List.Mem.head _ | apply List.Mem.tail)) (by first | exact cellsOf_get rfl | rfl) | exact ld_data Tryz.underlying3 rfl (by first | assumption | exact InA.add (by assumption) | exact InA.add (InA.add (by assumption))) (by assumption)) ?_
    refine so_then ?_
    refine sx_block ?_
    refine sx_seq ?_
    refine sx_region (E := E) ?_
    refine so_bin rfl rfl rfl rfl (by first | exact bin_eql_t (by first | rfl | assumption | omega) | exact bin_eql_f (by first | rfl | assumption | omega)) ?_
    refine so_assign rfl rfl rfl ?_
    refine so_then ?_
    refine sx_false rfl ?_
    refine sx_seq ?_
    refine sx_region (E := E) ?_
    refine so_bin rfl rfl rfl rfl (by first | exact bin_eql_t (by first | rfl | assumption | omega) | exact bin_eql_f (by first | rfl | assumption | omega)) ?_
    refine so_assign rfl rfl rfl ?_
    refine so_then ?_
    refine sx_true rfl ?_
    refine sx_region (E := E) ?_
    refine so_assign rfl rfl rfl ?_
    refine so_nil ?_
    refine sk_block ?_
    refine sk_then ?_
    refine sx_seq ?_
    refine sx_draw (E := E) mixed [2, 10] _ (List.Sublist.refl _) (by kernel_rfl) (by kernel_rfl) (by decide) ?_
    refine so_fieldO (o' := 1) rfl rfl rfl Tryz.underlying23 rfl inf3 rfl rfl ?_
    refine so_load rfl rfl rfl (by first | exact ld_own Tryz.underlying3 rfl (by repeat (first | exact List.Mem.head _ | apply List.Mem.tail)) (by first | exact cellsOf_get rfl | rfl) | exact ld_data Tryz.underlying3 rfl (by first | assumption | exact InA.add (by assumption) | exact InA.add (InA.add (by assumption))) (by assumption)) ?_
    refine so_call rfl rfl (fun _ => (by repeat (first | exact List.Mem.head _ | apply List.Mem.tail))) rfl has7 (by repeat (first | exact Opvs.nil | apply Opvs.cons rfl)) (fun H hH => itoa_ok (hT.at hH.w0) hd) ?_
    refine so_bin rfl rfl rfl rfl (by first | exact bin_sadd (by simp only [cat_size, size_mk, List.length_cons, List.length_nil]; omega) | exact bin_incr (by omega) | exact bin_add (wrap64 (by omega) (by omega)) | exact bin_add rfl) ?_
    refine so_bin rfl rfl rfl rfl (by first | exact bin_sadd (by simp only [cat_size, size_mk, List.length_cons, List.length_nil]; omega) | exact bin_incr (by omega) | exact bin_add (wrap64 (by omega) (by omega)) | exact bin_add rfl) ?_
    refine so_move rfl rfl rfl ?_
    refine so_bin rfl rfl rfl rfl (by first | exact bin_sadd (by simp only [cat_size, size_mk, List.length_cons, List.length_nil]; omega) | exact bin_incr (by omega) | exact bin_add (wrap64 (by omega) (by omega)) | exact bin_add rfl) ?_
    refine so_bin rfl rfl rfl rfl (by first | exact bin_sadd (by simp only [cat_size, size_mk, List.length_cons, List.length_nil]; omega) | exact bin_incr (by omega) | exact bin_add (wrap64 (by omega) (by omega)) | exact bin_add rfl) ?_
    refine so_fieldO (o' := 2) rfl rfl rfl Tryz.underlying23 rfl inf3 rfl rfl ?_
    refine so_load rfl rfl rfl (by first | exact ld_own Tryz.underlying3 rfl (by repeat (first | exact List.Mem.head _ | apply List.Mem.tail)) (by first | exact cellsOf_get rfl | rfl) | exact ld_data Tryz.underlying3 rfl (by first | assumption | exact InA.add (by assumption) | exact InA.add (InA.add (by assumption))) (by assumption)) ?_
    refine so_call rfl rfl (fun _ => (by repeat (first | exact List.Mem.head _ | apply List.Mem.tail))) rfl has7 (by repeat (first | exact Opvs.nil | apply Opvs.cons rfl)) (fun H hH => itoa_ok (hT.at hH.w0) hn) ?_
    refine so_bin rfl rfl rfl rfl (by first | exact bin_sadd (by simp only [cat_size, size_mk, List.length_cons, List.length_nil]; omega) | exact bin_incr (by omega) | exact bin_add (wrap64 (by omega) (by omega)) | exact bin_add rfl) ?_
    refine so_assign rfl rfl rfl ?_
    refine so_then ?_
    refine sx_ret ?_
    refine sk_return1 (.tmp rfl .nil) ?_
    exact fun H hH => ⟨by first | (rw [textB_2]; done) | (rw [textB_2]; rfl), hH.kept⟩
  · skip
    refine sx_region (E := E) ?_
    refine so_fieldO (o' := 0) rfl rfl rfl Tryz.underlying23 rfl inf3 rfl rfl ?_
    refine so_load rfl rfl rfl (by first | exact ld_own Tryz.underlying3 rfl (by repeat (first | exact List.Mem.head _ | apply List.Mem.tail)) (by first | exact cellsOf_get rfl | rfl) | exact ld_data Tryz.underlying3 rfl (by first | assumption | exact InA.add (by assumption) | exact InA.add (InA.add (by assumption))) (by assumption)) ?_
    refine so_then ?_
    refine sx_block ?_
    refine sx_seq ?_
    refine sx_region (E := E) ?_
    refine so_bin rfl rfl rfl rfl (by first | exact bin_eql_t (by first | rfl | assumption | omega) | exact bin_eql_f (by first | rfl | assumption | omega)) ?_
    refine so_assign rfl rfl rfl ?_
    refine so_then ?_
    refine sx_false rfl ?_
    refine sx_seq ?_
    refine sx_region (E := E) ?_
    refine so_bin rfl rfl rfl rfl (by first | exact bin_eql_t (by first | rfl | assumption | omega) | exact bin_eql_f (by first | rfl | assumption | omega)) ?_
    refine so_assign rfl rfl rfl ?_
    refine so_then ?_
    refine sx_false rfl ?_
    refine sx_seq ?_
    refine sx_region (E := E) ?_
    refine so_bin rfl rfl rfl rfl (by first | exact bin_eql_t (by first | rfl | assumption | omega) | exact bin_eql_f (by first | rfl | assumption | omega)) ?_
    refine so_assign rfl rfl rfl ?_
    refine so_then ?_
    refine sx_true rfl ?_
    refine sx_region (E := E) ?_
    refine so_assign rfl rfl rfl ?_
    refine so_nil ?_
    refine sk_block ?_
    refine sk_then ?_
    refine sx_seq ?_
    refine sx_draw (E := E) mixed [2, 10] _ (List.Sublist.refl _) (by kernel_rfl) (by kernel_rfl) (by decide) ?_
    refine so_fieldO (o' := 1) rfl rfl rfl Tryz.underlying23 rfl inf3 rfl rfl ?_
    refine so_load rfl rfl rfl (by first | exact ld_own Tryz.underlying3 rfl (by repeat (first | exact List.Mem.head _ | apply List.Mem.tail)) (by first | exact cellsOf_get rfl | rfl) | exact ld_data Tryz.underlying3 rfl (by first | assumption | exact InA.add (by assumption) | exact InA.add (InA.add (by assumption))) (by assumption)) ?_
    refine so_call rfl rfl (fun _ => (by repeat (first | exact List.Mem.head _ | apply List.Mem.tail))) rfl has7 (by repeat (first | exact Opvs.nil | apply Opvs.cons rfl)) (fun H hH => itoa_ok (hT.at hH.w0) hd) ?_
    refine so_bin rfl rfl rfl rfl (by first | exact bin_sadd (by simp only [cat_size, size_mk, List.length_cons, List.length_nil]; omega) | exact bin_incr (by omega) | exact bin_add (wrap64 (by omega) (by omega)) | exact bin_add rfl) ?_
    refine so_bin rfl rfl rfl rfl (by first | exact bin_sadd (by simp only [cat_size, size_mk, List.length_cons, List.length_nil]; omega) | exact bin_incr (by omega) | exact bin_add (wrap64 (by omega) (by omega)) | exact bin_add rfl) ?_
    refine so_move rfl rfl rfl ?_
    refine so_bin rfl rfl rfl rfl (by first | exact bin_sadd (by simp only [cat_size, size_mk, List.length_cons, List.length_nil]; omega) | exact bin_incr (by omega) | exact bin_add (wrap64 (by omega) (by omega)) | exact bin_add rfl) ?_
    refine so_bin rfl rfl rfl rfl (by first | exact bin_sadd (by simp only [cat_size, size_mk, List.length_cons, List.length_nil]; omega) | exact bin_incr (by omega) | exact bin_add (wrap64 (by omega) (by omega)) | exact bin_add rfl) ?_
    refine so_fieldO (o' := 2) rfl rfl rfl Tryz.underlying23 rfl inf3 rfl rfl ?_
    refine so_load rfl rfl rfl (by first | exact ld_own Tryz.underlying3 rfl (by repeat (first | exact List.Mem.head _ | apply List.Mem.tail)) (by first | exact cellsOf_get rfl | rfl) | exact ld_data Tryz.underlying3 rfl (by first | assumption | exact InA.add (by assumption) | exact InA.add (InA.add (by assumption))) (by assumption)) ?_
    refine so_call rfl rfl (fun _ => (by repeat (first | exact List.Mem.head _ | apply List.Mem.tail))) rfl has7 (by repeat (first | exact Opvs.nil | apply Opvs.cons rfl)) (fun H hH => itoa_ok (hT.at hH.w0) hn) ?_
    refine so_bin rfl rfl rfl rfl (by first | exact bin_sadd (by simp only [cat_size, size_mk, List.length_cons, List.length_nil]; omega) | exact bin_incr (by omega) | exact bin_add (wrap64 (by omega) (by omega)) | exact bin_add rfl) ?_
    refine so_assign rfl rfl rfl ?_
    refine so_then ?_
    refine sx_ret ?_
    refine sk_return1 (.tmp rfl .nil) ?_
    exact fun H hH => ⟨by first | (rw [textB_3]; done) | (rw [textB_3]; rfl), hH.kept⟩
  · skip
    refine sx_region (E := E) ?_
    refine so_fieldO (o' := 0) rfl rfl rfl Tryz.underlying23 rfl inf3 rfl rfl ?_
    refine so_load rfl rfl rfl (by first | exact ld_own Tryz.underlying3 rfl (by repeat (first | exact List.Mem.head _ | apply List.Mem.tail)) (by first | exact cellsOf_get rfl | rfl) | exact ld_data Tryz.underlying3 rfl (by first | assumption | exact InA.add (by assumption) | exact InA.add (InA.add (by assumption))) (by assumption)) ?_
    refine so_then ?_
    refine sx_block ?_
    refine sx_seq ?_
    refine sx_region (E := E) ?_
    refine so_bin rfl rfl rfl rfl (by first | exact bin_eql_t (by first | rfl | assumption | omega) | exact bin_eql_f (by first | rfl | assumption | omega)) ?_
    refine so_assign rfl rfl rfl ?_
    refine so_then ?_
    refine sx_false rfl ?_
    refine sx_seq ?_
    refine sx_region (E := E) ?_
    refine so_bin rfl rfl rfl rfl (by first | exact bin_eql_t (by first | rfl | assumption | omega) | exact bin_eql_f (by first | rfl | assumption | omega)) ?_
    refine so_assign rfl rfl rfl ?_
    refine so_then ?_
    refine sx_false rfl ?_
    refine sx_seq ?_
    refine sx_region (E := E) ?_
    refine so_bin rfl rfl rfl rfl (by first | exact bin_eql_t (by first | rfl | assumption | omega) | exact bin_eql_f (by first | rfl | assumption | omega)) ?_
    refine so_assign rfl rfl rfl ?_
    refine so_then ?_
    refine sx_false rfl ?_
    refine sx_seq ?_
    refine sx_region (E := E) ?_
    refine so_bin rfl rfl rfl rfl (by first | exact bin_eql_t (by first | rfl | assumption | omega) | exact bin_eql_f (by first | rfl | assumption | omega)) ?_
    refine so_assign rfl rfl rfl ?_
    refine so_then ?_
    refine sx_true rfl ?_
    refine sx_region (E := E) ?_
    refine so_assign rfl rfl rfl ?_
    refine so_nil ?_
    refine sk_block ?_
    refine sk_then ?_
    refine sx_seq ?_
    refine sx_draw (E := E) mixed [2, 10] _ (List.Sublist.refl _) (by kernel_rfl) (by kernel_rfl) (by decide) ?_
    refine so_fieldO (o' := 1) rfl rfl rfl Tryz.underlying23 rfl inf3 rfl rfl ?_
    refine so_load rfl rfl rfl (by first | exact ld_own Tryz.underlying3 rfl (by repeat (first | exact List.Mem.head _ | apply List.Mem.tail)) (by first | exact cellsOf_get rfl | rfl) | exact ld_data Tryz.underlying3 rfl (by first | assumption | exact InA.add (by assumption) | exact InA.add (InA.add (by assumption))) (by assumption)) ?_
    refine so_call rfl rfl (fun _ => (by repeat (first | exact List.Mem.head _ | apply List.Mem.tail))) rfl has7 (by repeat (first | exact Opvs.nil | apply Opvs.cons rfl)) (fun H hH => itoa_ok (hT.at hH.w0) hd) ?_
    refine so_bin rfl rfl rfl rfl (by first | exact bin_sadd (by simp only [cat_size, size_mk, List.length_cons, List.length_nil]; omega) | exact bin_incr (by omega) | exact bin_add (wrap64 (by omega) (by omega)) | exact bin_add rfl) ?_
    refine so_bin rfl rfl rfl rfl (by first | exact bin_sadd (by simp only [cat_size, size_mk, List.length_cons, List.length_nil]; omega) | exact bin_incr (by omega) | exact bin_add (wrap64 (by omega) (by omega)) | exact bin_add rfl) ?_
    refine so_move rfl rfl rfl ?_
    refine so_bin rfl rfl rfl rfl (by first | exact bin_sadd (by simp only [cat_size, size_mk, List.length_cons, List.length_nil]; omega) | exact bin_incr (by omega) | exact bin_add (wrap64 (by omega) (by omega)) | exact bin_add rfl) ?_
    refine so_bin rfl rfl rfl rfl (by first | exact bin_sadd (by simp only [cat_size, size_mk, List.length_cons, List.length_nil]; omega) | exact bin_incr (by omega) | exact bin_add (wrap64 (by omega) (by omega)) | exact bin_add rfl) ?_
    refine so_fieldO (o' := 2) rfl rfl rfl Tryz.underlying23 rfl inf3 rfl rfl ?_
    refine so_load rfl rfl rfl (by first | exact ld_own Tryz.underlying3 rfl (by repeat (first | exact List.Mem.head _ | apply List.Mem.tail)) (by first | exact cellsOf_get rfl | rfl) | exact ld_data Tryz.underlying3 rfl (by first | assumption | exact InA.add (by assumption) | exact InA.add (InA.add (by assumption))) (by assumption)) ?_
    refine so_call rfl rfl (fun _ => (by repeat (first | exact List.Mem.head _ | apply List.Mem.tail))) rfl has7 (by repeat (first | exact Opvs.nil | apply Opvs.cons rfl)) (fun H hH => itoa_ok (hT.at hH.w0) hn) ?_
    refine so_bin rfl rfl rfl rfl (by first | exact bin_sadd (by simp only [cat_size, size_mk, List.length_cons, List.length_nil]; omega) | exact bin_incr (by omega) | exact bin_add (wrap64 (by omega) (by omega)) | exact bin_add rfl) ?_
    refine so_assign rfl rfl rfl ?_
    refine so_then ?_
    refine sx_ret ?_
    refine sk_return1 (.tmp rfl .nil) ?_
    exact fun H hH => ⟨by first | (rw [textB_4]; done) | (rw [textB_4]; rfl), hH.kept⟩
  · skip
    refine sx_region (E := E) ?_
    refine so_fieldO (o' := 0) rfl rfl rfl Tryz.underlying23 rfl inf3 rfl rfl ?_
    refine so_load rfl rfl rfl (by first | exact ld_own Tryz.underlying3 rfl (by repeat (first | exact List.Mem.head _ | apply List.Mem.tail)) (by first | exact cellsOf_get rfl | rfl) | exact ld_data Tryz.underlying3 rfl (by first | assumption | exact InA.add (by assumption) | exact InA.add (InA.add (by assumption))) (by assumption)) ?_
    refine so_then ?_
    refine sx_block ?_
    refine sx_seq ?_
    refine sx_region (E := E) ?_
    refine so_bin rfl rfl rfl rfl (by first | exact bin_eql_t (by first | rfl | assumption | omega) | exact bin_eql_f (by first | rfl | assumption | omega)) ?_
    refine so_assign rfl rfl rfl ?_
    refine so_then ?_
    refine sx_false rfl ?_
    refine sx_seq ?_
    refine sx_region (E := E) ?_
    refine so_bin rfl rfl rfl rfl (by first | exact bin_eql_t (by first | rfl | assumption | omega) | exact bin_eql_f (by first | rfl | assumption | omega)) ?_
    refine so_assign rfl rfl rfl ?_
    refine so_then ?_
    refine sx_false rfl ?_
    refine sx_seq ?_
    refine sx_region (E := E) ?_
    refine so_bin rfl rfl rfl rfl (by first | exact bin_eql_t (by first | rfl | assumption | omega) | exact bin_eql_f (by first | rfl | assumption | omega)) ?_
    refine so_assign rfl rfl rfl ?_
    refine so_then ?_
    refine sx_false rfl ?_
    refine sx_seq ?_
    refine sx_region (E := E) ?_
    refine so_bin rfl rfl rfl rfl (by first | exact bin_eql_t (by first | rfl | assumption | omega) | exact bin_eql_f (by first | rfl | assumption | omega)) ?_
    refine so_assign rfl rfl rfl ?_
    refine so_then ?_
    refine sx_false rfl ?_
    refine sx_seq ?_
    refine sx_region (E := E) ?_
    refine so_bin rfl rfl rfl rfl (by first | exact bin_eql_t (by first | rfl | assumption | omega) | exact bin_eql_f (by first | rfl | assumption | omega)) ?_
    refine so_assign rfl rfl rfl ?_
    refine so_then ?_
    refine sx_true rfl ?_
    refine sx_seq ?_
    refine sx_region (E := E) ?_
    refine so_fieldO (o' := 2) rfl rfl rfl Tryz.underlying23 rfl inf3 rfl rfl ?_
    refine so_load rfl rfl rfl (by first | exact ld_own Tryz.underlying3 rfl (by repeat (first | exact List.Mem.head _ | apply List.Mem.tail)) (by first | exact cellsOf_get rfl | rfl) | exact ld_data Tryz.underlying3 rfl (by first | assumption | exact InA.add (by assumption) | exact InA.add (InA.add (by assumption))) (by assumption)) ?_
    refine so_call rfl rfl (fun h => nomatch h) rfl has7 (by repeat (first | exact Opvs.nil | apply Opvs.cons rfl)) (fun H hH => itoa_ok (hT.at hH.w0) hn) ?_
    refine so_bin rfl rfl rfl rfl (by first | exact bin_sadd (by simp only [cat_size, size_mk, List.length_cons, List.length_nil]; omega) | exact bin_incr (by omega) | exact bin_add (wrap64 (by omega) (by omega)) | exact bin_add rfl) ?_
    refine so_assign rfl rfl rfl ?_
    refine so_then ?_
    refine sx_ret ?_
    refine sk_block_ret ?_
    refine sk_then_ret ?_
    refine sk_return1 (.tmp rfl .nil) ?_
    exact fun H hH => ⟨by first | (rw [textB_5]; done) | (rw [textB_5]; rfl), hH.kept⟩
  · skip
    refine sx_region (E := E) ?_
    refine so_fieldO (o' := 0) rfl rfl rfl Tryz.underlying23 rfl inf3 rfl rfl ?_
    refine so_load rfl rfl rfl (by first | exact ld_own Tryz.underlying3 rfl (by repeat (first | exact List.Mem.head _ | apply List.Mem.tail)) (by first | exact cellsOf_get rfl | rfl) | exact ld_data Tryz.underlying3 rfl (by first | assumption | exact InA.add (by assumption) | exact InA.add (InA.add (by assumption))) (by assumption)) ?_
    refine so_then ?_
    refine sx_block ?_
    refine sx_seq ?_
    refine sx_region (E := E) ?_
    refine so_bin rfl rfl rfl rfl (by first | exact bin_eql_t (by first | rfl | assumption | omega) | exact bin_eql_f (by first | rfl | assumption | omega)) ?_
    refine so_assign rfl rfl rfl ?_
    refine so_then ?_
    refine sx_false rfl ?_
    refine sx_seq ?_
    refine sx_region (E := E) ?_
    refine so_bin rfl rfl rfl rfl (by first | exact bin_eql_t (by first | rfl | assumption | omega) | exact bin_eql_f (by first | rfl | assumption | omega)) ?_
    refine so_assign rfl rfl rfl ?_
    refine so_then ?_
    refine sx_false rfl ?_
    refine sx_seq ?_
    refine sx_region (E := E) ?_
    refine so_bin rfl rfl rfl rfl (by first | exact bin_eql_t (by first | rfl | assumption | omega) | exact bin_eql_f (by first | rfl | assumption | omega)) ?_
    refine so_assign rfl rfl rfl ?_
    refine so_then ?_
    refine sx_false rfl ?_
    refine sx_seq ?_
    refine sx_region (E := E) ?_
    refine so_bin rfl rfl rfl rfl (by first | exact bin_eql_t (by first | rfl | assumption | omega) | exact bin_eql_f (by first | rfl | assumption | omega)) ?_
    refine so_assign rfl rfl rfl ?_
    refine so_then ?_
    refine sx_false rfl ?_
    refine sx_seq ?_
    refine sx_region (E := E) ?_
    refine so_bin rfl rfl rfl rfl (by first | exact bin_eql_t (by first | rfl | assumption | omega) | exact bin_eql_f (by first | rfl | assumption | omega)) ?_
    refine so_assign rfl rfl rfl ?_
    refine so_then ?_
    refine sx_false rfl ?_
    refine sx_seq ?_
    refine sx_region (E := E) ?_
    refine so_assign rfl rfl rfl ?_
    refine so_then ?_
    refine sx_ret ?_
    refine sk_block_ret ?_
    refine sk_then_ret ?_
    refine sk_return1 (.tmp rfl .nil) ?_
    exact fun H hH => ⟨by rw [textB_0 _ _ hk], hH.kept⟩

set_option maxHeartbeats 1000000 in
theorem rtext_ok {S : AH} (hT : Tab S) {k d n : Int} (hd : (Lit.int .i64 d).wf = true) (hn : (Lit.int .i64 n).wf = true) : XCall Tryz.prog 5 [.agg ⟨[.int .i64 k, .int .i64 d, .int .i64 n]⟩] S fun v H' => v = .string (textB k d n) ∧ Kept S.nx S H' := by
  have hsd := itoa_size hd
  have hsn := itoa_size hn
  refine x_enter (E := E) (n := 37) (rs := [.tmp 2]) (l := [(0, _)]) (fn_own Tryz.func5 rfl rfl rfl) (A0 := fun _ => False) (fun j h => h.elim) rfl ?_
  refine sx_seq ?_
  refine sx_region (E := E) ?_
  refine so_boxA rfl rfl (fun h => nomatch h) rfl ?_
  intro N1
  refine so_assign rfl rfl rfl ?_
  refine so_then ?_
  refine sx_seq ?_
  refine sx_seq ?_
  rcases kind6 k with rfl | rfl | rfl | rfl | rfl | (hk | hk)
  · skip
    refine sx_region (E := E) ?_
    refine so_fieldO (o' := 0) rfl rfl rfl Tryz.underlying23 rfl inf3 rfl rfl ?_
    refine so_load rfl rfl rfl (by first | exact ld_own Tryz.underlying3 rfl (by repeat (first | exact List.Mem.head _ | apply List.Mem.tail)) (by first | exact cellsOf_get rfl | rfl) | exact ld_data Tryz.underlying3 rfl (by first | assumption | exact InA.add (by assumption) | exact InA.add (InA.add (by assumption))) (by assumption)) ?_
    refine so_bin rfl rfl rfl rfl (by first | exact bin_eql_t (by first | rfl | assumption | omega) | exact bin_eql_f (by first | rfl | assumption | omega)) ?_
    refine so_then ?_
    refine sx_false rfl ?_
    refine sx_skip ?_
    refine sk_then ?_
    refine sx_seq ?_
    refine sx_seq ?_
    refine sx_region (E := E) ?_
    refine so_fieldO (o' := 0) rfl rfl rfl Tryz.underlying23 rfl inf3 rfl rfl ?_
    refine so_load rfl rfl rfl (by first | exact ld_own Tryz.underlying3 rfl (by repeat (first | exact List.Mem.head _ | apply List.Mem.tail)) (by first | exact cellsOf_get rfl | rfl) | exact ld_data Tryz.underlying3 rfl (by first | assumption | exact InA.add (by assumption) | exact InA.add (InA.add (by assumption))) (by assumption)) ?_
    refine so_bin rfl rfl rfl rfl (by first | exact bin_lss_t (by omega) | exact bin_lss_f (by omega)) ?_
    refine so_move rfl rfl rfl ?_
    first | refine so_fieldO (o' := 0) rfl rfl rfl Tryz.underlying23 rfl inf3 rfl rfl ?_ | refine so_skip rfl rfl rfl ?_
    first | refine so_load rfl rfl rfl (by first | exact ld_own Tryz.underlying3 rfl (by repeat (first | exact List.Mem.head _ | apply List.Mem.tail)) (by first | exact cellsOf_get rfl | rfl) | exact ld_data Tryz.underlying3 rfl (by first | assumption | exact InA.add (by assumption) | exact InA.add (InA.add (by assumption))) (by assumption)) ?_ | refine so_skip rfl rfl rfl ?_
    first | refine so_bin rfl rfl rfl rfl (by first | exact bin_gtr_t (by omega) | exact bin_gtr_f (by omega)) ?_ | refine so_skip rfl rfl rfl ?_
    first | refine so_pick_t rfl rfl rfl rfl ?_ | refine so_pick_f rfl rfl rfl rfl ?_
    refine so_then ?_
    refine sx_false rfl ?_
    refine sx_skip ?_
    refine sk_then ?_
    refine sx_seq ?_
    refine sx_region (E := E) ?_
    refine so_buildSlice (out := [.string ⟨#[105, 110, 118, 97, 108, 105, 100]⟩, .string ⟨#[110, 111, 116, 32, 114, 101, 115, 116, 111, 114, 101, 100]⟩, .string ⟨#[110, 111, 116, 32, 114, 101, 99, 111, 118, 101, 114, 101, 100]⟩, .string ⟨#[119, 114, 111, 110, 103, 32, 116, 105, 108, 101]⟩]) rfl rfl (fun h => nomatch h) (by repeat (first | exact Opps.nil | apply Opps.cons rfl)) Tryz.underlying28 inf9 rfl rfl (by kernel_rfl) rfl rfl ?_
    intro N19
    refine so_assign rfl rfl rfl ?_
    refine so_then ?_
    refine sx_seq ?_
    refine sx_draw (E := E) mixed [2, 15] _ (List.Sublist.refl _) (by kernel_rfl) (by kernel_rfl) (by decide) ?_
    refine so_fieldO (o' := 1) rfl rfl rfl Tryz.underlying23 rfl inf3 rfl rfl ?_
    refine so_load rfl rfl rfl (by first | exact ld_own Tryz.underlying3 rfl (by repeat (first | exact List.Mem.head _ | apply List.Mem.tail)) (by first | exact cellsOf_get rfl | rfl) | exact ld_data Tryz.underlying3 rfl (by first | assumption | exact InA.add (by assumption) | exact InA.add (InA.add (by assumption))) (by assumption)) ?_
    refine so_call rfl rfl (fun _ => (by repeat (first | exact List.Mem.head _ | apply List.Mem.tail))) rfl has7 (by repeat (first | exact Opvs.nil | apply Opvs.cons rfl)) (fun H hH => itoa_ok (hT.at hH.w0) hd) ?_
    refine so_bin rfl rfl rfl rfl (by first | exact bin_sadd (by simp only [cat_size, size_mk, List.length_cons, List.length_nil]; omega) | exact bin_incr (by omega) | exact bin_add (wrap64 (by omega) (by omega)) | exact bin_add rfl) ?_
    refine so_bin rfl rfl rfl rfl (by first | exact bin_sadd (by simp only [cat_size, size_mk, List.length_cons, List.length_nil]; omega) | exact bin_incr (by omega) | exact bin_add (wrap64 (by omega) (by omega)) | exact bin_add rfl) ?_
    refine so_move rfl rfl rfl ?_
    refine so_fieldO (o' := 0) rfl rfl rfl Tryz.underlying23 rfl inf3 rfl rfl ?_
    refine so_load rfl rfl rfl (by first | exact ld_own Tryz.underlying3 rfl (by repeat (first | exact List.Mem.head _ | apply List.Mem.tail)) (by first | exact cellsOf_get rfl | rfl) | exact ld_data Tryz.underlying3 rfl (by first | assumption | exact InA.add (by assumption) | exact InA.add (InA.add (by assumption))) (by assumption)) ?_
    refine so_bin rfl rfl rfl rfl (by first | exact bin_sub rfl | exact bin_decr (by omega) | exact bin_sub (wrap64 (by omega) (by omega)) | exact bin_sub rfl) ?_
    refine so_indexO (j := 0) (o' := 0) rfl rfl rfl rfl Tryz.underlying28 inf9 rfl (by decide) rfl ?_
    refine so_load rfl rfl rfl (by first | exact ld_own Tryz.underlying9 rfl (by repeat (first | exact List.Mem.head _ | apply List.Mem.tail)) (by first | exact cellsOf_get rfl | rfl) | exact ld_data Tryz.underlying9 rfl (by first | assumption | exact InA.add (by assumption) | exact InA.add (InA.add (by assumption))) (by assumption)) ?_
    refine so_bin rfl rfl rfl rfl (by first | exact bin_sadd (by simp only [cat_size, size_mk, List.length_cons, List.length_nil]; omega) | exact bin_incr (by omega) | exact bin_add (wrap64 (by omega) (by omega)) | exact bin_add rfl) ?_
    refine so_bin rfl rfl rfl rfl (by first | exact bin_sadd (by simp only [cat_size, size_mk, List.length_cons, List.length_nil]; omega) | exact bin_incr (by omega) | exact bin_add (wrap64 (by omega) (by omega)) | exact bin_add rfl) ?_
    refine so_fieldO (o' := 2) rfl rfl rfl Tryz.underlying23 rfl inf3 rfl rfl ?_
    refine so_load rfl rfl rfl (by first | exact ld_own Tryz.underlying3 rfl (by repeat (first | exact List.Mem.head _ | apply List.Mem.tail)) (by first | exact cellsOf_get rfl | rfl) | exact ld_data Tryz.underlying3 rfl (by first | assumption | exact InA.add (by assumption) | exact InA.add (InA.add (by assumption))) (by assumption)) ?_
    refine so_call rfl rfl (fun _ => (by repeat (first | exact List.Mem.head _ | apply List.Mem.tail))) rfl has7 (by repeat (first | exact Opvs.nil | apply Opvs.cons rfl)) (fun H hH => itoa_ok (hT.at hH.w0) hn) ?_
    refine so_bin rfl rfl rfl rfl (by first | exact bin_sadd (by simp only [cat_size, size_mk, List.length_cons, List.length_nil]; omega) | exact bin_incr (by omega) | exact bin_add (wrap64 (by omega) (by omega)) | exact bin_add rfl) ?_
    refine so_assign rfl rfl rfl ?_
    refine so_then ?_
    refine sx_ret ?_
    refine sk_return1 (.tmp rfl .nil) ?_
    exact fun H hH => ⟨by first | (rw [textB_1]; done) | (rw [textB_1]; rfl), hH.kept⟩
  · skip
    refine sx_region (E := E) ?_
    refine so_fieldO (o' := 0) rfl rfl rfl Tryz.underlying23 rfl inf3 rfl rfl ?_
    refine so_load rfl rfl rfl (by first | exact ld_own Tryz.underlying3 rfl (by repeat (first | exact List.Mem.head _ | apply List.Mem.tail)) (by first | exact cellsOf_get rfl | rfl) | exact ld_data Tryz.underlying3 rfl (by first | assumption | exact InA.add (by assumption) | exact InA.add (InA.add (by assumption))) (by assumption)) ?_
    refine so_bin rfl rfl rfl rfl (by first | exact bin_eql_t (by first | rfl | assumption | omega) | exact bin_eql_f (by first | rfl | assumption | omega)) ?_
    refine so_then ?_
    refine sx_false rfl ?_
    refine sx_skip ?_
    refine sk_then ?_
    refine sx_seq ?_
    refine sx_seq ?_
    refine sx_region (E := E) ?_
    refine so_fieldO (o' := 0) rfl rfl rfl Tryz.underlying23 rfl inf3 rfl rfl ?_
    refine so_load rfl rfl rfl (by first | exact ld_own Tryz.underlying3 rfl (by repeat (first | exact List.Mem.head _ | apply List.Mem.tail)) (by first | exact cellsOf_get rfl | rfl) | exact ld_data Tryz.underlying3 rfl (by first | assumption | exact InA.add (by assumption) | exact InA.add (InA.add (by assumption))) (by assumption)) ?_
    refine so_bin rfl rfl rfl rfl (by first | exact bin_lss_t (by omega) | exact bin_lss_f (by omega)) ?_
    refine so_move rfl rfl rfl ?_
    first | refine so_fieldO (o' := 0) rfl rfl rfl Tryz.underlying23 rfl inf3 rfl rfl ?_ | refine so_skip rfl rfl rfl ?_
    first | refine so_load rfl rfl rfl (by first | exact ld_own Tryz.underlying3 rfl (by repeat (first | exact List.Mem.head _ | apply List.Mem.tail)) (by first | exact cellsOf_get rfl | rfl) | exact ld_data Tryz.underlying3 rfl (by first | assumption | exact InA.add (by assumption) | exact InA.add (InA.add (by assumption))) (by assumption)) ?_ | refine so_skip rfl rfl rfl ?_
    first | refine so_bin rfl rfl rfl rfl (by first | exact bin_gtr_t (by omega) | exact bin_gtr_f (by omega)) ?_ | refine so_skip rfl rfl rfl ?_
    first | refine so_pick_t rfl rfl rfl rfl ?_ | refine so_pick_f rfl rfl rfl rfl ?_
    refine so_then ?_
    refine sx_false rfl ?_
    refine sx_skip ?_
    refine sk_then ?_
    refine sx_seq ?_
    refine sx_region (E := E) ?_
    refine so_buildSlice (out := [.string ⟨#[105, 110, 118, 97, 108, 105, 100]⟩, .string ⟨#[110, 111, 116, 32, 114, 101, 115, 116, 111, 114, 101, 100]⟩, .string ⟨#[110, 111, 116, 32, 114, 101, 99, 111, 118, 101, 114, 101, 100]⟩, .string ⟨#[119, 114, 111, 110, 103, 32, 116, 105, 108, 101]⟩]) rfl rfl (fun h => nomatch h) (by repeat (first | exact Opps.nil | apply Opps.cons rfl)) Tryz.underlying28 inf9 rfl rfl (by kernel_rfl) rfl rfl ?_
    intro N19
    refine so_assign rfl rfl rfl ?_
    refine so_then ?_
    refine sx_seq ?_
    refine sx_draw (E := E) mixed [2, 15] _ (List.Sublist.refl _) (by kernel_rfl) (by kernel_rfl) (by decide) ?_
    refine so_fieldO (o' := 1) rfl rfl rfl Tryz.underlying23 rfl inf3 rfl rfl ?_
    refine so_load rfl rfl rfl (by first | exact ld_own Tryz.underlying3 rfl (by repeat (first | exact List.Mem.head _ | apply List.Mem.tail)) (by first | exact cellsOf_get rfl | rfl) | exact ld_data Tryz.underlying3 rfl (by first | assumption | exact InA.add (by assumption) | exact InA.add (InA.add (by assumption))) (by assumption)) ?_
    refine so_call rfl rfl (fun _ => (by repeat (first | exact List.Mem.head _ | apply List.Mem.tail))) rfl has7 (by repeat (first | exact Opvs.nil | apply Opvs.cons rfl)) (fun H hH => itoa_ok (hT.at hH.w0) hd) ?_
    refine so_bin rfl rfl rfl rfl (by first | exact bin_sadd (by simp only [cat_size, size_mk, List.length_cons, List.length_nil]; omega) | exact bin_incr (by omega) | exact bin_add (wrap64 (by omega) (by omega)) | exact bin_add rfl) ?_
    refine so_bin rfl rfl rfl rfl (by first | exact bin_sadd (by simp only [cat_size, size_mk, List.length_cons, List.length_nil]; omega) | exact bin_incr (by omega) | exact bin_add (wrap64 (by omega) (by omega)) | exact bin_add rfl) ?_
    refine so_move rfl rfl rfl ?_
    refine so_fieldO (o' := 0) rfl rfl rfl Tryz.underlying23 rfl inf3 rfl rfl ?_
    refine so_load rfl rfl rfl (by first | exact ld_own Tryz.underlying3 rfl (by repeat (first | exact List.Mem.head _ | apply List.Mem.tail)) (by first | exact cellsOf_get rfl | rfl) | exact ld_data Tryz.underlying3 rfl (by first | assumption | exact InA.add (by assumption) | exact InA.add (InA.add (by assumption))) (by assumption)) ?_
    refine so_bin rfl rfl rfl rfl (by first | exact bin_sub rfl | exact bin_decr (by omega) | exact bin_sub (wrap64 (by omega) (by omega)) | exact bin_sub rfl) ?_
    refine so_indexO (j := 1) (o' := 1) rfl rfl rfl rfl Tryz.underlying28 inf9 rfl (by decide) rfl ?_
    refine so_load rfl rfl rfl (by first | exact ld_own Tryz.underlying9 rfl (by repeat (first | exact List.Mem.head _ | apply List.Mem.tail)) (by first | exact cellsOf_get rfl | rfl) | exact ld_data Tryz.underlying9 rfl (by first | assumption | exact InA.add (by assumption) | exact InA.add (InA.add (by assumption))) (by assumption)) ?_
    refine so_bin rfl rfl rfl rfl (by first | exact bin_sadd (by simp only [cat_size, size_mk, List.length_cons, List.length_nil]; omega) | exact bin_incr (by omega) | exact bin_add (wrap64 (by omega) (by omega)) | exact bin_add rfl) ?_
    refine so_bin rfl rfl rfl rfl (by first | exact bin_sadd (by simp only [cat_size, size_mk, List.length_cons, List.length_nil]; omega) | exact bin_incr (by omega) | exact bin_add (wrap64 (by omega) (by omega)) | exact bin_add rfl) ?_
    refine so_fieldO (o' := 2) rfl rfl rfl Tryz.underlying23 rfl inf3 rfl rfl ?_
    refine so_load rfl rfl rfl (by first | exact ld_own Tryz.underlying3 rfl (by repeat (first | exact List.Mem.head _ | apply List.Mem.tail)) (by first | exact cellsOf_get rfl | rfl) | exact ld_data Tryz.underlying3 rfl (by first | assumption | exact InA.add (by assumption) | exact InA.add (InA.add (by assumption))) (by assumption)) ?_
    refine so_call rfl rfl (fun _ => (by repeat (first | exact List.Mem.head _ | apply List.Mem.tail))) rfl has7 (by repeat (first | exact Opvs.nil | apply Opvs.cons rfl)) (fun H hH => itoa_ok (hT.at hH.w0) hn) ?_
    refine so_bin rfl rfl rfl rfl (by first | exact bin_sadd (by simp only [cat_size, size_mk, List.length_cons, List.length_nil]; omega) | exact bin_incr (by omega) | exact bin_add (wrap64 (by omega) (by omega)) | exact bin_add rfl) ?_
    refine so_assign rfl rfl rfl ?_
    refine so_then ?_
    refine sx_ret ?_
    refine sk_return1 (.tmp rfl .nil) ?_
    exact fun H hH => ⟨by first | (rw [textB_2]; done) | (rw [textB_2]; rfl), hH.kept⟩
  · skip
    refine sx_region (E := E) ?_
    refine so_fieldO (o' := 0) rfl rfl rfl Tryz.underlying23 rfl inf3 rfl rfl ?_
    refine so_load rfl rfl rfl (by first | exact ld_own Tryz.underlying3 rfl (by repeat (first | exact List.Mem.head _ | apply List.Mem.tail)) (by first | exact cellsOf_get rfl | rfl) | exact ld_data Tryz.underlying3 rfl (by first | assumption | exact InA.add (by assumption) | exact InA.add (InA.add (by assumption))) (by assumption)) ?_
    refine so_bin rfl rfl rfl rfl (by first | exact bin_eql_t (by first | rfl | assumption | omega) | exact bin_eql_f (by first | rfl | assumption | omega)) ?_
    refine so_then ?_
    refine sx_false rfl ?_
    refine sx_skip ?_
    refine sk_then ?_
    refine sx_seq ?_
    refine sx_seq ?_
    refine sx_region (E := E) ?_
    refine so_fieldO (o' := 0) rfl rfl rfl Tryz.underlying23 rfl inf3 rfl rfl ?_
    refine so_load rfl rfl rfl (by first | exact ld_own Tryz.underlying3 rfl (by repeat (first | exact List.Mem.head _ | apply List.Mem.tail)) (by first | exact cellsOf_get rfl | rfl) | exact ld_data Tryz.underlying3 rfl (by first | assumption | exact InA.add (by assumption) | exact InA.add (InA.add (by assumption))) (by assumption)) ?_
    refine so_bin rfl rfl rfl rfl (by first | exact bin_lss_t (by omega) | exact bin_lss_f (by omega)) ?_
    refine so_move rfl rfl rfl ?_
    first | refine so_fieldO (o' := 0) rfl rfl rfl Tryz.underlying23 rfl inf3 rfl rfl ?_ | refine so_skip rfl rfl rfl ?_
    first | refine so_load rfl rfl rfl (by first | exact ld_own Tryz.underlying3 rfl (by repeat (first | exact List.Mem.head _ | apply List.Mem.tail)) (by first | exact cellsOf_get rfl | rfl) | exact ld_data Tryz.underlying3 rfl (by first | assumption | exact InA.add (by assumption) | exact InA.add (InA.add (by assumption))) (by assumption)) ?_ | refine so_skip rfl rfl rfl ?_
    first | refine so_bin rfl rfl rfl rfl (by first | exact bin_gtr_t (by omega) | exact bin_gtr_f (by omega)) ?_ | refine so_skip rfl rfl rfl ?_
    first | refine so_pick_t rfl rfl rfl rfl ?_ | refine so_pick_f rfl rfl rfl rfl ?_
    refine so_then ?_
    refine sx_false rfl ?_
    refine sx_skip ?_
    refine sk_then ?_
    refine sx_seq ?_
    refine sx_region (E := E) ?_
    refine so_buildSlice (out := [.string ⟨#[105, 110, 118, 97, 108, 105, 100]⟩, .string ⟨#[110, 111, 116, 32, 114, 101, 115, 116, 111, 114, 101, 100]⟩, .string ⟨#[110, 111, 116, 32, 114, 101, 99, 111, 118, 101, 114, 101, 100]⟩, .string ⟨#[119, 114, 111, 110, 103, 32, 116, 105, 108, 101]⟩]) rfl rfl (fun h => nomatch h) (by repeat (first | exact Opps.nil | apply Opps.cons rfl)) Tryz.underlying28 inf9 rfl rfl (by kernel_rfl) rfl rfl ?_
    intro N19
    refine so_assign rfl rfl rfl ?_
    refine so_then ?_
    refine sx_seq ?_
    refine sx_draw (E := E) mixed [2, 15] _ (List.Sublist.refl _) (by kernel_rfl) (by kernel_rfl) (by decide) ?_
    refine so_fieldO (o' := 1) rfl rfl rfl Tryz.underlying23 rfl inf3 rfl rfl ?_
    refine so_load rfl rfl rfl (by first | exact ld_own Tryz.underlying3 rfl (by repeat (first | exact List.Mem.head _ | apply List.Mem.tail)) (by first | exact cellsOf_get rfl | rfl) | exact ld_data Tryz.underlying3 rfl (by first | assumption | exact InA.add (by assumption) | exact InA.add (InA.add (by assumption))) (by assumption)) ?_
    refine so_call rfl rfl (fun _ => (by repeat (first | exact List.Mem.head _ | apply List.Mem.tail))) rfl has7 (by repeat (first | exact Opvs.nil | apply Opvs.cons rfl)) (fun H hH => itoa_ok (hT.at hH.w0) hd) ?_
    refine so_bin rfl rfl rfl rfl (by first | exact bin_sadd (by simp only [cat_size, size_mk, List.length_cons, List.length_nil]; omega) | exact bin_incr (by omega) | exact bin_add (wrap64 (by omega) (by omega)) | exact bin_add rfl) ?_
    refine so_bin rfl rfl rfl rfl (by first | exact bin_sadd (by simp only [cat_size, size_mk, List.length_cons, List.length_nil]; omega) | exact bin_incr (by omega) | exact bin_add (wrap64 (by omega) (by omega)) | exact bin_add rfl) ?_
    refine so_move rfl rfl rfl ?_
    refine so_fieldO (o' := 0) rfl rfl rfl Tryz.underlying23 rfl inf3 rfl rfl ?_
    refine so_load rfl rfl rfl (by first | exact ld_own Tryz.underlying3 rfl (by repeat (first | exact List.Mem.head _ | apply List.Mem.tail)) (by first | exact cellsOf_get rfl | rfl) | exact ld_data Tryz.underlying3 rfl (by first | assumption | exact InA.add (by assumption) | exact InA.add (InA.add (by assumption))) (by assumption)) ?_
    refine so_bin rfl rfl rfl rfl (by first | exact bin_sub rfl | exact bin_decr (by omega) | exact bin_sub (wrap64 (by omega) (by omega)) | exact bin_sub rfl) ?_
    refine so_indexO (j := 2) (o' := 2) rfl rfl rfl rfl Tryz.underlying28 inf9 rfl (by decide) rfl ?_
    refine so_load rfl rfl rfl (by first | exact ld_own Tryz.underlying9 rfl (by repeat (first | exact List.Mem.head _ | apply List.Mem.tail)) (by first | exact cellsOf_get rfl | rfl) | exact ld_data Tryz.underlying9 rfl (by first | assumption | exact InA.add (by assumption) | exact InA.add (InA.add (by assumption))) (by assumption)) ?_
    refine so_bin rfl rfl rfl rfl (by first | exact bin_sadd (by simp only [cat_size, size_mk, List.length_cons, List.length_nil]; omega) | exact bin_incr (by omega) | exact bin_add (wrap64 (by omega) (by omega)) | exact bin_add rfl) ?_
    refine so_bin rfl rfl rfl rfl (by first | exact bin_sadd (by simp only [cat_size, size_mk, List.length_cons, List.length_nil]; omega) | exact bin_incr (by omega) | exact bin_add (wrap64 (by omega) (by omega)) | exact bin_add rfl) ?_
    refine so_fieldO (o' := 2) rfl rfl rfl Tryz.underlying23 rfl inf3 rfl rfl ?_
    refine so_load rfl rfl rfl (by first | exact ld_own Tryz.underlying3 rfl (by repeat (first | exact List.Mem.head _ | apply List.Mem.tail)) (by first | exact cellsOf_get rfl | rfl) | exact ld_data Tryz.underlying3 rfl (by first | assumption | exact InA.add (by assumption) | exact InA.add (InA.add (by assumption))) (by assumption)) ?_
    refine so_call rfl rfl (fun _ => (by repeat (first | exact List.Mem.head _ | apply List.Mem.tail))) rfl has7 (by repeat (first | exact Opvs.nil | apply Opvs.cons rfl)) (fun H hH => itoa_ok (hT.at hH.w0) hn) ?_
    refine so_bin rfl rfl rfl rfl (by first | exact bin_sadd (by simp only [cat_size, size_mk, List.length_cons, List.length_nil]; omega) | exact bin_incr (by omega) | exact bin_add (wrap64 (by omega) (by omega)) | exact bin_add rfl) ?_
    refine so_assign rfl rfl rfl ?_
    refine so_then ?_
    refine sx_ret ?_
    refine sk_return1 (.tmp rfl .nil) ?_
    exact fun H hH => ⟨by first | (rw [textB_3]; done) | (rw [textB_3]; rfl), hH.kept⟩
  · skip
    refine sx_region (E := E) ?_
    refine so_fieldO (o' := 0) rfl rfl rfl Tryz.underlying23 rfl inf3 rfl rfl ?_
    refine so_load rfl rfl rfl (by first | exact ld_own Tryz.underlying3 rfl (by repeat (first | exact List.Mem.head _ | apply List.Mem.tail)) (by first | exact cellsOf_get rfl | rfl) | exact ld_data Tryz.underlying3 rfl (by first | assumption | exact InA.add (by assumption) | exact InA.add (InA.add (by assumption))) (by assumption)) ?_
    refine so_bin rfl rfl rfl rfl (by first | exact bin_eql_t (by first | rfl | assumption | omega) | exact bin_eql_f (by first | rfl | assumption | omega)) ?_
    refine so_then ?_
    refine sx_false rfl ?_
    refine sx_skip ?_
    refine sk_then ?_
    refine sx_seq ?_
    refine sx_seq ?_
    refine sx_region (E := E) ?_
    refine so_fieldO (o' := 0) rfl rfl rfl Tryz.underlying23 rfl inf3 rfl rfl ?_
    refine so_load rfl rfl rfl (by first | exact ld_own Tryz.underlying3 rfl (by repeat (first | exact List.Mem.head _ | apply List.Mem.tail)) (by first | exact cellsOf_get rfl | rfl) | exact ld_data Tryz.underlying3 rfl (by first | assumption | exact InA.add (by assumption) | exact InA.add (InA.add (by assumption))) (by assumption)) ?_
    refine so_bin rfl rfl rfl rfl (by first | exact bin_lss_t (by omega) | exact bin_lss_f (by omega)) ?_
    refine so_move rfl rfl rfl ?_
    first | refine so_fieldO (o' := 0) rfl rfl rfl Tryz.underlying23 rfl inf3 rfl rfl ?_ | refine so_skip rfl rfl rfl ?_
    first | refine so_load rfl rfl rfl (by first | exact ld_own Tryz.underlying3 rfl (by repeat (first | exact List.Mem.head _ | apply List.Mem.tail)) (by first | exact cellsOf_get rfl | rfl) | exact ld_data Tryz.underlying3 rfl (by first | assumption | exact InA.add (by assumption) | exact InA.add (InA.add (by assumption))) (by assumption)) ?_ | refine so_skip rfl rfl rfl ?_
    first | refine so_bin rfl rfl rfl rfl (by first | exact bin_gtr_t (by omega) | exact bin_gtr_f (by omega)) ?_ | refine so_skip rfl rfl rfl ?_
    first | refine so_pick_t rfl rfl rfl rfl ?_ | refine so_pick_f rfl rfl rfl rfl ?_
    refine so_then ?_
    refine sx_false rfl ?_
    refine sx_skip ?_
    refine sk_then ?_
    refine sx_seq ?_
    refine sx_region (E := E) ?_
    refine so_buildSlice (out := [.string ⟨#[105, 110, 118, 97, 108, 105, 100]⟩, .string ⟨#[110, 111, 116, 32, 114, 101, 115, 116, 111, 114, 101, 100]⟩, .string ⟨#[110, 111, 116, 32, 114, 101, 99, 111, 118, 101, 114, 101, 100]⟩, .string ⟨#[119, 114, 111, 110, 103, 32, 116, 105, 108, 101]⟩]) rfl rfl (fun h => nomatch h) (by repeat (first | exact Opps.nil | apply Opps.cons rfl)) Tryz.underlying28 inf9 rfl rfl (by kernel_rfl) rfl rfl ?_
    intro N19
    refine so_assign rfl rfl rfl ?_
    refine so_then ?_
    refine sx_seq ?_
    refine sx_draw (E := E) mixed [2, 15] _ (List.Sublist.refl _) (by kernel_rfl) (by kernel_rfl) (by decide) ?_
    refine so_fieldO (o' := 1) rfl rfl rfl Tryz.underlying23 rfl inf3 rfl rfl ?_
    refine so_load rfl rfl rfl (by first | exact ld_own Tryz.underlying3 rfl (by repeat (first | exact List.Mem.head _ | apply List.Mem.tail)) (by first | exact cellsOf_get rfl | rfl) | exact ld_data Tryz.underlying3 rfl (by first | assumption | exact InA.add (by assumption) | exact InA.add (InA.add (by assumption))) (by assumption)) ?_
    refine so_call rfl rfl (fun _ => (by repeat (first | exact List.Mem.head _ | apply List.Mem.tail))) rfl has7 (by repeat (first | exact Opvs.nil | apply Opvs.cons rfl)) (fun H hH => itoa_ok (hT.at hH.w0) hd) ?_
    refine so_bin rfl rfl rfl rfl (by first | exact bin_sadd (by simp only [cat_size, size_mk, List.length_cons, List.length_nil]; omega) | exact bin_incr (by omega) | exact bin_add (wrap64 (by omega) (by omega)) | exact bin_add rfl) ?_
    refine so_bin rfl rfl rfl rfl (by first | exact bin_sadd (by simp only [cat_size, size_mk, List.length_cons, List.length_nil]; omega) | exact bin_incr (by omega) | exact bin_add (wrap64 (by omega) (by omega)) | exact bin_add rfl) ?_
    refine so_move rfl rfl rfl ?_
    refine so_fieldO (o' := 0) rfl rfl rfl Tryz.underlying23 rfl inf3 rfl rfl ?_
    refine so_load rfl rfl rfl (by first | exact ld_own Tryz.underlying3 rfl (by repeat (first | exact List.Mem.head _ | apply List.Mem.tail)) (by first | exact cellsOf_get rfl | rfl) | exact ld_data Tryz.underlying3 rfl (by first | assumption | exact InA.add (by assumption) | exact InA.add (InA.add (by assumption))) (by assumption)) ?_
    refine so_bin rfl rfl rfl rfl (by first | exact bin_sub rfl | exact bin_decr (by omega) | exact bin_sub (wrap64 (by omega) (by omega)) | exact bin_sub rfl) ?_
    refine so_indexO (j := 3) (o' := 3) rfl rfl rfl rfl Tryz.underlying28 inf9 rfl (by decide) rfl ?_
    refine so_load rfl rfl rfl (by first | exact ld_own Tryz.underlying9 rfl (by repeat (first | exact List.Mem.head _ | apply List.Mem.tail)) (by first | exact cellsOf_get rfl | rfl) | exact ld_data Tryz.underlying9 rfl (by first | assumption | exact InA.add (by assumption) | exact InA.add (InA.add (by assumption))) (by assumption)) ?_
    refine so_bin rfl rfl rfl rfl (by first | exact bin_sadd (by simp only [cat_size, size_mk, List.length_cons, List.length_nil]; omega) | exact bin_incr (by omega) | exact bin_add (wrap64 (by omega) (by omega)) | exact bin_add rfl) ?_
    refine so_bin rfl rfl rfl rfl (by first | exact bin_sadd (by simp only [cat_size, size_mk, List.length_cons, List.length_nil]; omega) | exact bin_incr (by omega) | exact bin_add (wrap64 (by omega) (by omega)) | exact bin_add rfl) ?_
    refine so_fieldO (o' := 2) rfl rfl rfl Tryz.underlying23 rfl inf3 rfl rfl ?_
    refine so_load rfl rfl rfl (by first | exact ld_own Tryz.underlying3 rfl (by repeat (first | exact List.Mem.head _ | apply List.Mem.tail)) (by first | exact cellsOf_get rfl | rfl) | exact ld_data Tryz.underlying3 rfl (by first | assumption | exact InA.add (by assumption) | exact InA.add (InA.add (by assumption))) (by assumption)) ?_
    refine so_call rfl rfl (fun _ => (by repeat (first | exact List.Mem.head _ | apply List.Mem.tail))) rfl has7 (by repeat (first | exact Opvs.nil | apply Opvs.cons rfl)) (fun H hH => itoa_ok (hT.at hH.w0) hn) ?_
    refine so_bin rfl rfl rfl rfl (by first | exact bin_sadd (by simp only [cat_size, size_mk, List.length_cons, List.length_nil]; omega) | exact bin_incr (by omega) | exact bin_add (wrap64 (by omega) (by omega)) | exact bin_add rfl) ?_
    refine so_assign rfl rfl rfl ?_
    refine so_then ?_
    refine sx_ret ?_
    refine sk_return1 (.tmp rfl .nil) ?_
    exact fun H hH => ⟨by first | (rw [textB_4]; done) | (rw [textB_4]; rfl), hH.kept⟩
  · skip
    refine sx_region (E := E) ?_
    refine so_fieldO (o' := 0) rfl rfl rfl Tryz.underlying23 rfl inf3 rfl rfl ?_
    refine so_load rfl rfl rfl (by first | exact ld_own Tryz.underlying3 rfl (by repeat (first | exact List.Mem.head _ | apply List.Mem.tail)) (by first | exact cellsOf_get rfl | rfl) | exact ld_data Tryz.underlying3 rfl (by first | assumption | exact InA.add (by assumption) | exact InA.add (InA.add (by assumption))) (by assumption)) ?_
    refine so_bin rfl rfl rfl rfl (by first | exact bin_eql_t (by first | rfl | assumption | omega) | exact bin_eql_f (by first | rfl | assumption | omega)) ?_
    refine so_then ?_
    refine sx_true rfl ?_
    refine sx_seq ?_
    refine sx_region (E := E) ?_
    refine so_fieldO (o' := 2) rfl rfl rfl Tryz.underlying23 rfl inf3 rfl rfl ?_
    refine so_load rfl rfl rfl (by first | exact ld_own Tryz.underlying3 rfl (by repeat (first | exact List.Mem.head _ | apply List.Mem.tail)) (by first | exact cellsOf_get rfl | rfl) | exact ld_data Tryz.underlying3 rfl (by first | assumption | exact InA.add (by assumption) | exact InA.add (InA.add (by assumption))) (by assumption)) ?_
    refine so_call rfl rfl (fun h => nomatch h) rfl has7 (by repeat (first | exact Opvs.nil | apply Opvs.cons rfl)) (fun H hH => itoa_ok (hT.at hH.w0) hn) ?_
    refine so_bin rfl rfl rfl rfl (by first | exact bin_sadd (by simp only [cat_size, size_mk, List.length_cons, List.length_nil]; omega) | exact bin_incr (by omega) | exact bin_add (wrap64 (by omega) (by omega)) | exact bin_add rfl) ?_
    refine so_assign rfl rfl rfl ?_
    refine so_then ?_
    refine sx_ret ?_
    refine sk_then_ret ?_
    refine sk_return1 (.tmp rfl .nil) ?_
    exact fun H hH => ⟨by first | (rw [textB_5]; done) | (rw [textB_5]; rfl), hH.kept⟩
  · skip
    refine sx_region (E := E) ?_
    refine so_fieldO (o' := 0) rfl rfl rfl Tryz.underlying23 rfl inf3 rfl rfl ?_
    refine so_load rfl rfl rfl (by first | exact ld_own Tryz.underlying3 rfl (by repeat (first | exact List.Mem.head _ | apply List.Mem.tail)) (by first | exact cellsOf_get rfl | rfl) | exact ld_data Tryz.underlying3 rfl (by first | assumption | exact InA.add (by assumption) | exact InA.add (InA.add (by assumption))) (by assumption)) ?_
    refine so_bin rfl rfl rfl rfl (by first | exact bin_eql_t (by first | rfl | assumption | omega) | exact bin_eql_f (by first | rfl | assumption | omega)) ?_
    refine so_then ?_
    refine sx_false rfl ?_
    refine sx_skip ?_
    refine sk_then ?_
    refine sx_seq ?_
    refine sx_seq ?_
    refine sx_region (E := E) ?_
    refine so_fieldO (o' := 0) rfl rfl rfl Tryz.underlying23 rfl inf3 rfl rfl ?_
    refine so_load rfl rfl rfl (by first | exact ld_own Tryz.underlying3 rfl (by repeat (first | exact List.Mem.head _ | apply List.Mem.tail)) (by first | exact cellsOf_get rfl | rfl) | exact ld_data Tryz.underlying3 rfl (by first | assumption | exact InA.add (by assumption) | exact InA.add (InA.add (by assumption))) (by assumption)) ?_
    refine so_bin rfl rfl rfl rfl (by first | exact bin_lss_t (by omega) | exact bin_lss_f (by omega)) ?_
    refine so_move rfl rfl rfl ?_
    first | refine so_fieldO (o' := 0) rfl rfl rfl Tryz.underlying23 rfl inf3 rfl rfl ?_ | refine so_skip rfl rfl rfl ?_
    first | refine so_load rfl rfl rfl (by first | exact ld_own Tryz.underlying3 rfl (by repeat (first | exact List.Mem.head _ | apply List.Mem.tail)) (by first | exact cellsOf_get rfl | rfl) | exact ld_data Tryz.underlying3 rfl (by first | assumption | exact InA.add (by assumption) | exact InA.add (InA.add (by assumption))) (by assumption)) ?_ | refine so_skip rfl rfl rfl ?_
    first | refine so_bin rfl rfl rfl rfl (by first | exact bin_gtr_t (by omega) | exact bin_gtr_f (by omega)) ?_ | refine so_skip rfl rfl rfl ?_
    first | refine so_pick_t rfl rfl rfl rfl ?_ | refine so_pick_f rfl rfl rfl rfl ?_
    refine so_then ?_
    refine sx_true rfl ?_
    refine sx_seq ?_
    refine sx_region (E := E) ?_
    refine so_assign rfl rfl rfl ?_
    refine so_then ?_
    refine sx_ret ?_
    refine sk_then_ret ?_
    refine sk_return1 (.tmp rfl .nil) ?_
    exact fun H hH => ⟨by rw [textB_0 _ _ (.inl hk)], hH.kept⟩
  · skip
    refine sx_region (E := E) ?_
    refine so_fieldO (o' := 0) rfl rfl rfl Tryz.underlying23 rfl inf3 rfl rfl ?_
    refine so_load rfl rfl rfl (by first | exact ld_own Tryz.underlying3 rfl (by repeat (first | exact List.Mem.head _ | apply List.Mem.tail)) (by first | exact cellsOf_get rfl | rfl) | exact ld_data Tryz.underlying3 rfl (by first | assumption | exact InA.add (by assumption) | exact InA.add (InA.add (by assumption))) (by assumption)) ?_
    refine so_bin rfl rfl rfl rfl (by first | exact bin_eql_t (by first | rfl | assumption | omega) | exact bin_eql_f (by first | rfl | assumption | omega)) ?_
    refine so_then ?_
    refine sx_false rfl ?_
    refine sx_skip ?_
    refine sk_then ?_
    refine sx_seq ?_
    refine sx_seq ?_
    refine sx_region (E := E) ?_
    refine so_fieldO (o' := 0) rfl rfl rfl Tryz.underlying23 rfl inf3 rfl rfl ?_
    refine so_load rfl rfl rfl (by first | exact ld_own Tryz.underlying3 rfl (by repeat (first | exact List.Mem.head _ | apply List.Mem.tail)) (by first | exact cellsOf_get rfl | rfl) | exact ld_data Tryz.underlying3 rfl (by first | assumption | exact InA.add (by assumption) | exact InA.add (InA.add (by assumption))) (by assumption)) ?_
    refine so_bin rfl rfl rfl rfl (by first | exact bin_lss_t (by omega) | exact bin_lss_f (by omega)) ?_
    refine so_move rfl rfl rfl ?_
    first | refine so_fieldO (o' := 0) rfl rfl rfl Tryz.underlying23 rfl inf3 rfl rfl ?_ | refine so_skip rfl rfl rfl ?_
    first | refine so_load rfl rfl rfl (by first | exact ld_own Tryz.underlying3 rfl (by repeat (first | exact List.Mem.head _ | apply List.Mem.tail)) (by first | exact cellsOf_get rfl | rfl) | exact ld_data Tryz.underlying3 rfl (by first | assumption | exact InA.add (by assumption) | exact InA.add (InA.add (by assumption))) (by assumption)) ?_ | refine so_skip rfl rfl rfl ?_
    first | refine so_bin rfl rfl rfl rfl (by first | exact bin_gtr_t (by omega) | exact bin_gtr_f (by omega)) ?_ | refine so_skip rfl rfl rfl ?_
    first | refine so_pick_t rfl rfl rfl rfl ?_ | refine so_pick_f rfl rfl rfl rfl ?_
    refine so_then ?_
    refine sx_true rfl ?_
    refine sx_seq ?_
    refine sx_region (E := E) ?_
    refine so_assign rfl rfl rfl ?_
    refine so_then ?_
    refine sx_ret ?_
    refine sk_then_ret ?_
    refine sk_return1 (.tmp rfl .nil) ?_
    exact fun H hH => ⟨by rw [textB_0 _ _ (.inr hk)], hH.kept⟩

theorem auditTexts_ok {S : AH} (hT : Tab S) {k d n : Int} (hd : (Lit.int .i64 d).wf = true) (hn : (Lit.int .i64 n).wf = true) : XCall Tryz.prog 3 [.agg ⟨[.int .i64 k, .int .i64 d, .int .i64 n]⟩] S fun v H' => v = .bool true ∧ Kept S.nx S H' := by
  refine x_enter (E := E) (n := 11) (rs := [.tmp 2]) (l := [(0, _)]) (fn_own Tryz.func3 rfl rfl rfl) (A0 := fun _ => False) (fun j h => h.elim) rfl ?_
  refine sx_seq ?_
  refine sx_region (E := E) ?_
  refine so_boxA rfl rfl (fun h => nomatch h) rfl ?_
  intro N1
  refine so_assign rfl rfl rfl ?_
  refine so_then ?_
  refine sx_seq ?_
  refine sx_draw (E := E) mixed [1, 3, 6] _ (List.Sublist.refl _) (by kernel_rfl) (by kernel_rfl) (by decide) ?_
  refine so_load rfl rfl rfl (by first | exact ld_ownA Tryz.underlying23 rfl inf23 rfl (by repeat (first | exact List.Mem.head _ | apply List.Mem.tail)) (by first | exact cellsOf_le rfl | exact Nat.le_of_ble_eq_true rfl | decide | omega) (by first | exact cellsOf_all | exact take_all rfl | exact cellsOf_part rfl | rfl) | exact ld_dataA Tryz.underlying23 rfl inf23 rfl (by first | assumption | exact InA.add (by assumption) | exact InA.add (InA.add (by assumption))) (by assumption)) ?_
  refine so_call rfl rfl (fun _ => (by repeat (first | exact List.Mem.head _ | apply List.Mem.tail))) rfl has4 (by repeat (first | exact Opvs.nil | apply Opvs.cons rfl)) (fun H hH => text_ok (hT.at hH.w0) hd hn) ?_
  refine so_load rfl rfl rfl (by first | exact ld_ownA Tryz.underlying23 rfl inf23 rfl (by repeat (first | exact List.Mem.head _ | apply List.Mem.tail)) (by first | exact cellsOf_le rfl | exact Nat.le_of_ble_eq_true rfl | decide | omega) (by first | exact cellsOf_all | exact take_all rfl | exact cellsOf_part rfl | rfl) | exact ld_dataA Tryz.underlying23 rfl inf23 rfl (by first | assumption | exact InA.add (by assumption) | exact InA.add (InA.add (by assumption))) (by assumption)) ?_
  refine so_call rfl rfl (fun _ => (by repeat (first | exact List.Mem.head _ | apply List.Mem.tail))) rfl has5 (by repeat (first | exact Opvs.nil | apply Opvs.cons rfl)) (fun H hH => rtext_ok (hT.at hH.w0) hd hn) ?_
  refine so_bin rfl rfl rfl rfl (by first | exact bin_seql_t rfl | exact bin_seql_t (by first | rfl | assumption | decide) | exact bin_seql_f (by first | rfl | assumption | decide)) ?_
  refine so_move rfl rfl rfl ?_
  first | refine so_call rfl rfl (fun _ => (by repeat (first | exact List.Mem.head _ | apply List.Mem.tail))) rfl has6 (by repeat (first | exact Opvs.nil | apply Opvs.cons rfl)) (fun H hH => awake_ok H) ?_ | refine so_skip rfl rfl rfl ?_
  first | refine so_pick_t rfl rfl rfl rfl ?_ | refine so_pick_f rfl rfl rfl rfl ?_
  refine so_assign rfl rfl rfl ?_
  refine so_then ?_
  refine sx_ret ?_
  refine sk_return1 (.tmp rfl .nil) ?_
  exact fun H hH => ⟨rfl, hH.kept⟩

end Go.Proofs.YtpfgpjopjadmiaaGreatDoor
