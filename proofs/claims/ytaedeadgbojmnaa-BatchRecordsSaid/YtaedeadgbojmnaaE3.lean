/-
  Proved here: for every list of edits and every list of lists of binds that a program can hold, the law BatchRecords returns true and does not panic (Rows.BatchRecordsSaid).
-/
import Derived.Test.YtaedeadgbojmnaaE1
import Derived.Test.YtaedeadgbojmnaaF5
set_option linter.unusedVariables false
set_option linter.unusedSimpArgs false
set_option maxRecDepth 100000
namespace Go.Proofs.Ytaedeadgbojmnaa
open Go Go.AM Go.ChangeShapes Go.WideShapes Go.ChangeAt Go.RowKit

theorem records_post {T : Type} {enc : TypeId × Value → T} {W W' : World} {args : Array Value} {ds gs : List (DataW T)} {before : List MemPlace} (hW : DataW.Whole enc Try.prog Try.f4.params.toList Rows.batchRecordsSpec.vars false W args.toList ds gs before) (bel : Below W.heap.size W W') :
    Rows.batchRecordsSpec.post enc Try.prog Try.f4 false true false false W args (.bool true) W' :=
  law_post (tb := 4) laidOut (by kernel_rfl) Try.underlying4 rfl (by
    intro t ht
    rw [Try.params4] at ht
    simp only [List.mem_cons, List.not_mem_nil, or_false] at ht
    rcases ht with rfl | rfl
    · exact ⟨by kernel_rfl, of_decide_eq_true (by kernel_rfl)⟩
    · exact ⟨by kernel_rfl, of_decide_eq_true (by kernel_rfl)⟩) (by
    intro ds hd
    have h2 : ds.length = 2 := hd.trans (by kernel_rfl)
    match ds, h2 with
    | [a, b], _ => exact ⟨rfl, rfl, rfl⟩) hW bel

theorem records_lifted (os : Os) (started : os.Started) (H : Type) (enc : TypeId × Value → H) :
    ReturnsInHanded {} Try.checked os 4 .any (Rows.batchRecordsSpec.pre6 enc Try.prog Try.f4 Rows.batchRecordsRow.domain false) (Rows.batchRecordsSpec.post enc Try.prog Try.f4 false true false false) := by
  refine returnsInHanded_of_change_sized (C := Try.checked) own started (by kernel_rfl) Try.func4
    (ChangeSpec.witness6 (enc := enc) (C := Try.checked) false ⟨#[], #[.slice none 0 0, .slice none 0 0], []⟩ 12 (by kernel_rfl) (by kernel_rfl) (by kernel_rfl) (by kernel_rfl)) ?_
  intro W base args ds gs before hval0 hW _ hz _
  have hval : ∀ (j : Nat) t v, Try.f4.params[j]? = some t → args[j]? = some v → Value.okWide Try.prog W .any base t v := hval0
  have hz' : (DataW.weightsEach Try.prog (Try.f4.params.toList ++ Rows.batchRecordsSpec.plain.varTypes Try.prog) (ds ++ gs)).all (· ≤ reachBytes) = true := hz
  have hW' := hW
  obtain ⟨p, q, hA0, hV, rfl, hfz, hnd⟩ := hW
  have hA : DataW.TrodAll enc Try.prog W 0 (fun _ => true) true Try.f4.params.toList args.toList ds p := hA0
  rw [Try.params4] at hA hval hz'
  obtain ⟨v0, vs0, d0, ds0, p0, q0, hargs, rfl, rfl, h0, r0⟩ := trodAll_cons hA
  obtain ⟨v1, vs1, d1, ds1, p1, q1, rfl, rfl, rfl, h1, r1⟩ := trodAll_cons r0
  obtain ⟨rfl, rfl, rfl⟩ := trodAll_nil r1
  obtain rfl : args = #[v0, v1] := by cases args; simp_all
  obtain ⟨z0, z1⟩ := weights_two hz'
  obtain ⟨k, hk⟩ := in_row Try.underlying59 kds59 (hval 0 59 v0 rfl rfl) h0 z0
  obtain ⟨l, hl⟩ := in_row Try.underlying60 kds60 (hval 1 60 v1 rfl rfl) h1 z1
  have hx := batchRecords_ok (S := Go.AM.start W) (A := fun _ => False) (fun _ h => h.elim) hk hl
  refine (x_top (args := [v0, v1]) hx rfl).mono fun e W' ⟨he, bel⟩ => ?_
  subst he
  exact ⟨_, rfl, records_post hW' bel⟩

theorem batchRecords_holds : Rows.BatchRecordsSaid :=
  OpenClaim.holds_of_wide 4 Try.f4 rfl rfl rfl rfl rfl rfl rfl ⟨rfl, rfl, rfl, rfl, rfl⟩ rfl rfl rfl rfl rfl (by kernel_rfl) Try.func4 (by kernel_rfl)
    (of_decide_eq_true (by kernel_rfl)) (by unfold Func.isWrapper; first | (rw [if_pos (by decide +kernel)]; kernel_rfl) | (rw [if_neg (by decide +kernel)]; exact ⟨rfl, rfl⟩))
    (fun os started H enc _ => records_lifted os started H enc)
end Go.Proofs.Ytaedeadgbojmnaa
