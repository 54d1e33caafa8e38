/-
  Proved here: for every action, every list of arguments and every other argument that a program can hold, the law BatchArgs returns true and does not panic (Rows.BatchArgsSaid).
-/
import Derived.Test.YtaedeadgbojmnaaE1
import Derived.Test.YtaedeadgbojmnaaH1
set_option linter.unusedVariables false
set_option linter.unusedSimpArgs false
set_option maxRecDepth 100000
namespace Go.Proofs.Ytaedeadgbojmnaa
open Go Go.AM Go.ChangeShapes Go.WideShapes Go.ChangeAt Go.RowKit

theorem kds73 : kdsT Try.prog 12 73 = some k73 := by kernel_rfl
theorem weights_three {T : Type} {P : Program} {t u v : TypeId} {ts : List TypeId} {d e f : DataW T} {ds : List (DataW T)} (h : (DataW.weightsEach P (t :: u :: v :: ts) (d :: e :: f :: ds)).all (· ≤ reachBytes) = true) : (∀ w ∈ d.weights P t, w ≤ reachBytes) ∧ (∀ w ∈ e.weights P u, w ≤ reachBytes) ∧ ∀ w ∈ f.weights P v, w ≤ reachBytes := by
  simp only [DataW.weightsEach, List.all_append, Bool.and_eq_true, List.all_eq_true, decide_eq_true_eq] at h
  exact ⟨h.1, h.2.1, h.2.2.1⟩
/-- an argument that came in -/
theorem in_arg {T : Type} {enc : TypeId × Value → T} {W : World} {v : Value} {d : DataW T} {p : List MemPlace} (h : DataW.Trod enc Try.prog W 0 (fun _ => true) true 73 v d p) (hw : ∀ w ∈ d.weights Try.prog 73, w ≤ reachBytes) :
    ∃ u n, ext v = .agg ⟨[.string u, .int .i64 n]⟩ ∧ u.size ≤ maxLen ∧ (Lit.int .i64 n).wf = true := by
  obtain ⟨fuel, h⟩ := h
  obtain ⟨c, hc⟩ := trod_cells 12 _ _ _ _ _ kds73 h hw
  have hl := hc.len.1
  rw [extL_length] at hl
  obtain ⟨cs, rfl, e2⟩ := agg_of hl (show k73.length ≠ 1 by decide)
  rw [e2] at hc
  obtain ⟨u, n, e, _, hu, hn⟩ := arg2 hc
  exact ⟨u, n, by simp only [ext]; rw [e], hu, hn⟩

theorem args_post {T : Type} {enc : TypeId × Value → T} {W W' : World} {args : Array Value} {ds gs : List (DataW T)} {before : List MemPlace} (hW : DataW.Whole enc Try.prog Try.f6.params.toList Rows.batchArgsSpec.vars false W args.toList ds gs before) (bel : Below W.heap.size W W') :
    Rows.batchArgsSpec.post enc Try.prog Try.f6 false true false false W args (.bool true) W' :=
  law_post (tb := 4) laidOut (by kernel_rfl) Try.underlying4 rfl (by
    intro t ht
    rw [Try.params6] at ht
    simp only [List.mem_cons, List.not_mem_nil, or_false] at ht
    rcases ht with rfl | rfl | rfl
    · exact ⟨by kernel_rfl, of_decide_eq_true (by kernel_rfl)⟩
    · exact ⟨by kernel_rfl, of_decide_eq_true (by kernel_rfl)⟩
    · exact ⟨by kernel_rfl, of_decide_eq_true (by kernel_rfl)⟩) (by
    intro ds hd
    have h2 : ds.length = 3 := hd.trans (by kernel_rfl)
    match ds, h2 with
    | [a, b, c], _ => exact ⟨rfl, rfl, rfl⟩) hW bel

theorem args_lifted (os : Os) (started : os.Started) (H : Type) (enc : TypeId × Value → H) :
    ReturnsInHanded {} Try.checked os 6 .any (Rows.batchArgsSpec.pre6 enc Try.prog Try.f6 Rows.batchArgsRow.domain false) (Rows.batchArgsSpec.post enc Try.prog Try.f6 false true false false) := by
  refine returnsInHanded_of_change_sized (C := Try.checked) own started (by kernel_rfl) Try.func6
    (ChangeSpec.witness6 (enc := enc) (C := Try.checked) false ⟨#[], #[.agg ⟨(.int .i64 0 :: .int .i64 0 :: .int .i64 0 :: .int .i64 0 :: .int .i64 0 :: .int .i64 0 :: .string ⟨#[]⟩ :: .string ⟨#[]⟩ :: .int .i64 0 :: .int .i64 0 :: .int .i64 0 :: .string ⟨#[]⟩ :: .bool false :: .bool false :: .bool false :: .int .i64 0 :: .int .i64 0 :: .int .i64 0 :: .int .i64 0 :: .slice none 0 0 :: .int .i64 0 :: .int .i64 0 :: .int .i64 0 :: .int .i64 0 :: .int .i64 0 :: .int .i64 0 :: .int .i64 0 :: .int .i64 0 :: .int .i64 0 :: .slice none 0 0 :: .int .i64 0 :: .int .i64 0 :: .int .i64 0 :: .int .i64 0 :: .int .i64 0 :: .slice none 0 0 :: .int .i64 0 :: .slice none 0 0 :: .slice none 0 0 :: .int .i64 0 :: .int .i64 0 :: .int .i64 0 :: .int .i64 0 :: .string ⟨#[]⟩ :: .int .i64 0 :: .int .i64 0 :: .int .i64 0 :: .int .i64 0 :: .int .i64 0 :: .int .i64 0 :: .slice none 0 0 :: .int .i64 0 :: .int .i64 0 :: .slice none 0 0 :: .int .i64 0 :: .int .i64 0 :: .slice none 0 0 :: .int .i64 0 :: .int .i64 0 :: .int .i64 0 :: .int .i64 0 :: .int .i64 0 :: .int .i64 0 :: .int .i64 0 :: .int .i64 0 :: .int .i64 0 :: .int .i64 0 :: .int .i64 0 :: .int .i64 0 :: .int .i64 0 :: .int .i64 0 :: .slice none 0 0 :: .bool false :: .slice none 0 0 :: .int .i64 0 :: .int .i64 0 :: .int .i64 0 :: .int .i64 0 :: .int .i64 0 :: .int .i64 0 :: .int .i64 0 :: .int .i64 0 :: .int .i64 0 :: .int .i64 0 :: .slice none 0 0 :: [])⟩, .slice none 0 0, .agg ⟨[.string ⟨#[]⟩, .int .i64 0]⟩], []⟩ 12 (by kernel_rfl) (by kernel_rfl) (by kernel_rfl) (by kernel_rfl)) ?_
  intro W base args ds gs before hval0 hW _ hz _
  have hval : ∀ (j : Nat) t v, Try.f6.params[j]? = some t → args[j]? = some v → Value.okWide Try.prog W .any base t v := hval0
  have hz' : (DataW.weightsEach Try.prog (Try.f6.params.toList ++ Rows.batchArgsSpec.plain.varTypes Try.prog) (ds ++ gs)).all (· ≤ reachBytes) = true := hz
  have hW' := hW
  obtain ⟨p, q, hA0, hV, rfl, hfz, hnd⟩ := hW
  have hA : DataW.TrodAll enc Try.prog W 0 (fun _ => true) true Try.f6.params.toList args.toList ds p := hA0
  rw [Try.params6] at hA hval hz'
  obtain ⟨v0, vs0, d0, ds0, p0, q0, hargs, rfl, rfl, h0, r0⟩ := trodAll_cons hA
  obtain ⟨v1, vs1, d1, ds1, p1, q1, rfl, rfl, rfl, h1, r1⟩ := trodAll_cons r0
  obtain ⟨v2, vs2, d2, ds2, p2, q2, rfl, rfl, rfl, h2, r2⟩ := trodAll_cons r1
  obtain ⟨rfl, rfl, rfl⟩ := trodAll_nil r2
  obtain rfl : args = #[v0, v1, v2] := by cases args; simp_all
  obtain ⟨z0, z1, z2⟩ := weights_three hz'
  obtain ⟨x, c, ev, px⟩ := in_action h0 z0
  obtain ⟨l, hl⟩ := in_row Try.underlying52 kds52 (hval 1 52 v1 rfl rfl) h1 z1
  obtain ⟨u, n, eo, hu, hn⟩ := in_arg h2 z2
  have hx := batchArgs_ok (S := Go.AM.start W) (A := fun _ => False) (fun _ h => h.elim) px hl hu hn
  rw [← ev, ← eo] at hx
  refine (x_top (args := [v0, v1, v2]) hx rfl).mono fun e W' ⟨he, bel⟩ => ?_
  subst he
  exact ⟨_, rfl, args_post hW' bel⟩

theorem batchArgs_holds : Rows.BatchArgsSaid :=
  OpenClaim.holds_of_wide 6 Try.f6 rfl rfl rfl rfl rfl rfl rfl ⟨rfl, rfl, rfl, rfl, rfl⟩ rfl rfl rfl rfl rfl (by kernel_rfl) Try.func6 (by kernel_rfl)
    (of_decide_eq_true (by kernel_rfl)) (by unfold Func.isWrapper; first | (rw [if_pos (by decide +kernel)]; kernel_rfl) | (rw [if_neg (by decide +kernel)]; exact ⟨rfl, rfl⟩))
    (fun os started H enc _ => args_lifted os started H enc)
end Go.Proofs.Ytaedeadgbojmnaa
