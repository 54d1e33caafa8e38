/-
  Walks, laid by program.
-/
import Derived.Test.YtljakaaebljiiaaGreatDoorB6
set_option linter.unusedVariables false
set_option linter.unusedSimpArgs false
set_option maxRecDepth 100000
namespace Go.Proofs.YtljakaaebljiiaaGreatDoor
open Go Go.AM
theorem clone21_ok {S : AH} {A : Nat → Prop} (hA : ∀ j, A j → j < S.nx) {x : Value} {l : List (List CT)} (hx : CellA A S (.row 32 k35) x (.row l)) : XCall Tryz.prog 21 [x] S fun u H' => Kept S.nx S H' ∧ Cloned A S k35 l u H' S.nx := by
  obtain ⟨l2, ax, cx, e2, rfl, rx⟩ := hx.rowD
  cases e2
  have hb := rx.len
  have hb2 := rx.bytes
  refine x_enter (E := E) (n := 8) (rs := [.tmp 2]) (l := [(0, _)]) (fn_own Tryz.func21 rfl rfl rfl) hA rfl ?_
  refine sx_seq ?_
  refine sx_region (E := E) ?_
  refine so_assign rfl rfl rfl ?_
  refine so_then ?_
  refine sx_seq ?_
  refine sx_seq ?_
  rcases ax with _ | p
  · skip
    refine sx_region (E := E) ?_
    refine so_move rfl rfl rfl ?_
    refine so_bin rfl rfl rfl rfl (by first | exact bin_slnil_t Tryz.underlying25 | exact bin_slnil_f Tryz.underlying25) ?_
    refine so_then ?_
    refine sx_true rfl ?_
    refine sx_seq ?_
    refine sx_region (E := E) ?_
    refine so_assign rfl rfl rfl ?_
    refine so_then ?_
    refine sx_ret ?_
    refine sk_then_ret ?_
    refine sk_return1 (.tmp rfl .nil) ?_
    exact fun H hH => ⟨hH.kept, .inl ⟨rfl, List.eq_nil_of_length_eq_zero (by have := rx.nil rfl; have := rx.le; omega)⟩⟩
  · skip
    obtain ⟨cells, hcl, hln, hce⟩ := rx.whole l.length (Nat.le_refl _)
    have hip := rx.inA p rfl
    refine sx_region (E := E) ?_
    refine so_move rfl rfl rfl ?_
    refine so_bin rfl rfl rfl rfl (by first | exact bin_slnil_t Tryz.underlying25 | exact bin_slnil_f Tryz.underlying25) ?_
    refine so_then ?_
    refine sx_false rfl ?_
    refine sx_skip ?_
    refine sk_then ?_
    refine sx_seq ?_
    rcases l with _ | ⟨c0, l⟩
    · skip
      refine sx_region (E := E) ?_
      refine so_buildSlice (out := []) rfl rfl (fun h => nomatch h) (by repeat (first | exact Opps.nil | apply Opps.cons rfl)) Tryz.underlying25 inf35 rfl rfl (by kernel_rfl) rfl rfl ?_
      intro N5
      refine so_move rfl rfl rfl ?_
      first | refine so_app0 rfl rfl (fun h => nomatch h) rfl rfl rfl rfl rfl Tryz.underlying25 Tryz.underlying25 rfl inf35 rfl (by decide) (first_data (m := 0) hip (by rw [Nat.zero_mul]; rfl)) (Nat.le_refl _) ?_ | (refine so_appNew (m := (c0 :: l).length) (bt := 32) rfl rfl (fun h => nomatch h) rfl rfl rfl rfl rfl Tryz.underlying25 Tryz.underlying25 rfl inf35 rfl rfl (by decide) rfl (by simp) (first_data hip hcl) (.inr ⟨N5, rfl, List.Mem.head _, rfl⟩) (roomB_of (by omega)) (by omega) (List.nil_append _) (Nat.zero_add _) ?_; intro M)
      refine so_assign rfl rfl rfl ?_
      refine so_then ?_
      refine sx_ret ?_
      refine sk_return1 (.tmp rfl .nil) ?_
      intro H hH
      obtain ⟨h1, h2, h3, h4⟩ := hH.own _ (List.Mem.head _)
      exact ⟨hH.kept, .inr ⟨N5, [], true, rfl, h1, h2, h3, rfl, rfl, fun i c hi => by simp at hi⟩⟩
    · skip
      refine sx_region (E := E) ?_
      refine so_buildSlice (out := []) rfl rfl (fun h => nomatch h) (by repeat (first | exact Opps.nil | apply Opps.cons rfl)) Tryz.underlying25 inf35 rfl rfl (by kernel_rfl) rfl rfl ?_
      intro N5
      refine so_move rfl rfl rfl ?_
      first | refine so_app0 rfl rfl (fun h => nomatch h) rfl rfl rfl rfl rfl Tryz.underlying25 Tryz.underlying25 rfl inf35 rfl (by decide) (first_data (m := 0) hip (by rw [Nat.zero_mul]; rfl)) (Nat.le_refl _) ?_ | (refine so_appNew (m := (c0 :: l).length) (bt := 32) rfl rfl (fun h => nomatch h) rfl rfl rfl rfl rfl Tryz.underlying25 Tryz.underlying25 rfl inf35 rfl rfl (by decide) rfl (by simp) (first_data hip hcl) (.inr ⟨N5, rfl, List.Mem.head _, rfl⟩) (roomB_of (by omega)) (by omega) (List.nil_append _) (Nat.zero_add _) ?_; intro M)
      refine so_assign rfl rfl rfl ?_
      refine so_then ?_
      refine sx_ret ?_
      refine sk_return1 (.tmp rfl .nil) ?_
      intro H hH
      obtain ⟨h1, h2, h3, h4⟩ := hH.own _ (List.Mem.head _)
      exact ⟨hH.kept, .inr ⟨M, cells, false, rfl, h1, h2, h3, hln, rows_one hln (by decide) (fun i hi => CellsA.one (hce i _ hi (List.getElem?_eq_getElem hi))), fun i c hi => hce i c (lt_of_getElem? hi) hi⟩⟩

end Go.Proofs.YtljakaaebljiiaaGreatDoor
