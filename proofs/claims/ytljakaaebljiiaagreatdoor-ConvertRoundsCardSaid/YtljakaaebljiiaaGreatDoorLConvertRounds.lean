/-
  Proved here: for every image and every depth that a program can hold, the law ConvertRounds returns true and does not panic, in a program whose listed variables are as its text lays them (Rows.ConvertRoundsCardSaid).
-/
import Derived.Test.YtljakaaebljiiaaGreatDoorE1
import Derived.Test.YtljakaaebljiiaaGreatDoorE2
import Derived.Test.YtljakaaebljiiaaGreatDoorT1
import Derived.Test.YtljakaaebljiiaaGreatDoorF4
set_option linter.unusedVariables false
set_option linter.unusedSimpArgs false
set_option maxRecDepth 100000
namespace Go.Proofs.YtljakaaebljiiaaGreatDoor
open Go Go.AM Go.ChangeShapes Go.WideShapes Go.ChangeAt Go.RowKit

theorem convertRounds_post {T : Type} {enc : TypeId × Value → T} {W W' : World} {args : Array Value} {ds gs : List (DataW T)} {before : List MemPlace} (hW : DataW.Whole enc Tryz.prog Tryz.f4.params.toList Rows.convertRoundsSpec.vars false W args.toList ds gs before) (bel : Below W.heap.size W W') :
    Rows.convertRoundsSpec.post enc Tryz.prog Tryz.f4 false true false false W args (.bool true) W' :=
  law_post (tb := 4) laidOut (by kernel_rfl) Tryz.underlying4 rfl (by
    intro t ht
    rw [Tryz.params4] at ht
    simp only [List.mem_cons, List.not_mem_nil, or_false] at ht
    rcases ht with rfl | rfl
    · exact ⟨by kernel_rfl, of_decide_eq_true (by kernel_rfl)⟩
    · exact ⟨by kernel_rfl, of_decide_eq_true (by kernel_rfl)⟩) (by
    intro ds hd
    have h2 : ds.length = 2 := hd.trans (by kernel_rfl)
    match ds, h2 with
    | [a, b], _ => exact ⟨rfl, rfl, rfl⟩) hW bel

theorem convertRounds_lifted (os : Os) (started : os.Started) (H : Type) (enc : TypeId × Value → H) :
    ReturnsInHanded {} Tryz.checked os 4 .any (fun w args => (Rows.convertRoundsSpec.pre enc Tryz.prog Tryz.f4 Rows.convertRoundsRow.domain false w args ∧ laidMetH Tryz.prog laid6 w) ∧ sizedMet enc Tryz.prog Tryz.f4 (OpenSpec.ofChange Rows.convertRoundsSpec) false w args)
      (Rows.convertRoundsSpec.post enc Tryz.prog Tryz.f4 false true false false) := by
  refine returnsInHanded_of_change_and (C := Tryz.checked) (X := fun w _ => laidMetH Tryz.prog laid6 w) (fun _ _ _ hh h => h.of_heap hh) own started (by kernel_rfl) Tryz.func4
    (ChangeSpec.witness_shaped (enc := enc) (C := Tryz.checked) (os := os) (X := fun w _ => laidMetH Tryz.prog laid6 w) false (World.laidAll Tryz.prog os laid6) #[.agg #[.int .i64 0, .int .i64 0, .slice none 0 0], .int .i64 0] 8 (World.laidAll_os _ _ _)
      (wit_shape os _) (by kernel_rfl) (by kernel_rfl) (by kernel_rfl) (wit_laid os _)) ?_
  intro W base args ds gs before hval0 hW _ hz _ _
  have hval : ∀ (j : Nat) t v, Tryz.f4.params[j]? = some t → args[j]? = some v → Value.okWide Tryz.prog W .any base t v := hval0
  have hz' : (DataW.weightsEach Tryz.prog (Tryz.f4.params.toList ++ Rows.convertRoundsSpec.plain.varTypes Tryz.prog) (ds ++ gs)).all (· ≤ reachBytes) = true := hz
  have hW' := hW
  obtain ⟨p, q, hA0, hV, rfl, hfz, hnd⟩ := hW
  have hA : DataW.TrodAll enc Tryz.prog W 0 (fun _ => true) true Tryz.f4.params.toList args.toList ds p := hA0
  rw [Tryz.params4] at hA hval hz'
  obtain ⟨v0, vs0, d0, ds0, p0, q0, hargs, rfl, rfl, h0, r0⟩ := trodAll_cons hA
  obtain ⟨v1, vs1, d1, ds1, p1, q1, rfl, rfl, rfl, h1, r1⟩ := trodAll_cons r0
  obtain ⟨rfl, rfl, rfl⟩ := trodAll_nil r1
  obtain rfl : args = #[v0, v1] := by cases args; simp_all
  obtain ⟨z0, z1⟩ := weights_two hz'
  obtain ⟨xs, c, ex, hxs⟩ := in_struct kds27 (by decide) h0 z0
  obtain ⟨w, h, x, l, rfl, hx0⟩ := img3c hxs
  obtain ⟨d, rfl⟩ := okWide_int Tryz.underlying3 (hval 1 3 v1 rfl rfl)
  have hx := convertRounds_ok (S := Go.AM.start W) (A := fun _ => False) (fun _ h => h.elim) hx0 (w := w) (h := h) (d := d)
  rw [← ex] at hx
  refine (x_top (args := [v0, .int .i64 d]) hx rfl).mono fun e W' ⟨he, bel⟩ => ?_
  subst he
  exact ⟨_, rfl, convertRounds_post hW' bel⟩

theorem convertRounds_row : Rows.ConvertRoundsSaid :=
  OpenClaim.holds_of_wide 4 Tryz.f4 rfl rfl rfl rfl rfl rfl rfl ⟨rfl, rfl, rfl, rfl, rfl⟩ rfl rfl rfl rfl rfl (by as_aux_lemma => kernel_rfl) Tryz.func4 convertRounds_facts
    (of_decide_eq_true (by as_aux_lemma => kernel_rfl)) (by unfold Func.isWrapper; first | (rw [if_pos (by decide +kernel)]; as_aux_lemma => kernel_rfl) | (rw [if_neg (by decide +kernel)]; exact ⟨rfl, rfl⟩))
    (fun os started H enc _ => convertRounds_lifted os started H enc)
theorem convertRounds_fnamed : Tryz.prog.funcNamed Rows.convertRoundsRow.func = some 4 := by kernel_rfl
set_option maxHeartbeats 4000000 in
theorem convertRounds_holds : Rows.ConvertRoundsCardSaid :=
  Claim7.holds_tied_plain_at .later [] [.data, .data, .listed, .pinned, .data, .data, .data, .data, .data] true (true, "2a1282f7419a245aa36eee7ff0c0d3345b3f83d2721c919e37e8a0b1f0c66dcd") false
    convertRounds_row (fun _ h => by cases h) (by as_aux_lemma => kernel_rfl) (fun _ h => by cases h) convertRounds_row_tie rfl ⟨rfl, rfl⟩ (by as_aux_lemma => kernel_rfl) rfl
    (fun f fn hf hfn => by
      obtain rfl : f = 4 := Option.some.inj ((show Tryz.prog.funcNamed Rows.convertRoundsRow.func = some 4 from convertRounds_fnamed).symm.trans hf) |>.symm
      obtain rfl : fn = Tryz.f4 := (Option.some.inj (Tryz.func4.symm.trans hfn)).symm
      exact ⟨by as_aux_lemma => kernel_rfl, fun j t ht => by
        rw [Tryz.params4] at ht
        have hm : t ∈ [27, 3] := by simpa using Array.mem_of_getElem? ht
        have hall : ([27, 3].all fun u => !Tryz.prog.wantsStandIn u) = true := by as_aux_lemma => kernel_rfl
        exact (show Tryz.prog.wantsStandIn t = false by simpa using List.all_eq_true.1 hall t hm)⟩)
    (goesBy_none rfl)
end Go.Proofs.YtljakaaebljiiaaGreatDoor
