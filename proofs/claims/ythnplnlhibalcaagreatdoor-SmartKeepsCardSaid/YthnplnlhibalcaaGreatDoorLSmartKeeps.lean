/-
  Proved here: for every library, every file and every name that a program can hold, the law SmartKeeps returns true and does not panic, in a program whose listed variables are as its text lays them (Rows.SmartKeepsCardSaid).
-/
import Derived.Test.YthnplnlhibalcaaGreatDoorE1
import Derived.Test.YthnplnlhibalcaaGreatDoorB10
import Derived.Test.YthnplnlhibalcaaGreatDoorT1
import Derived.Test.YthnplnlhibalcaaGreatDoorF5
set_option linter.unusedVariables false
set_option linter.unusedSimpArgs false
set_option maxRecDepth 100000
namespace Go.Proofs.YthnplnlhibalcaaGreatDoor
open Go Go.AM Go.ChangeShapes Go.WideShapes Go.ChangeAt Go.RowKit

theorem smartKeeps_post {T : Type} {enc : TypeId × Value → T} {W W' : World} {args : Array Value} {ds gs : List (DataW T)} {before : List MemPlace} (hW : DataW.Whole enc Tryz.prog Tryz.f5.params.toList Rows.smartKeepsSpec.vars false W args.toList ds gs before) (bel : Below W.heap.size W W') :
    Rows.smartKeepsSpec.post enc Tryz.prog Tryz.f5 false true false false W args (.bool true) W' :=
  law_post (tb := 4) laidOut (by kernel_rfl) Tryz.underlying4 rfl (by
    intro t ht
    rw [Tryz.params5] at ht
    simp only [List.mem_cons, List.not_mem_nil, or_false] at ht
    rcases ht with rfl | rfl | rfl
    · exact ⟨by kernel_rfl, of_decide_eq_true (by kernel_rfl)⟩
    · exact ⟨by kernel_rfl, of_decide_eq_true (by kernel_rfl)⟩
    · exact ⟨by kernel_rfl, of_decide_eq_true (by kernel_rfl)⟩) (by
    intro ds hd
    have h2 : ds.length = 3 := hd.trans (by kernel_rfl)
    match ds, h2 with
    | [a, b, c], _ => exact ⟨rfl, rfl, rfl⟩) hW bel

theorem smartKeeps_lifted (os : Os) (started : os.Started) (H : Type) (enc : TypeId × Value → H) :
    ReturnsInHanded {} Tryz.checked os 5 .any (fun w args => (Rows.smartKeepsSpec.pre enc Tryz.prog Tryz.f5 Rows.smartKeepsRow.domain false w args ∧ laidMetH Tryz.prog laid6 w) ∧ sizedMet enc Tryz.prog Tryz.f5 (OpenSpec.ofChange Rows.smartKeepsSpec) false w args)
      (Rows.smartKeepsSpec.post enc Tryz.prog Tryz.f5 false true false false) := by
  refine returnsInHanded_of_change_and (C := Tryz.checked) (X := fun w _ => laidMetH Tryz.prog laid6 w) (fun _ _ _ hh h => h.of_heap hh) own started (by kernel_rfl) Tryz.func5
    (ChangeSpec.witness_shaped (enc := enc) (C := Tryz.checked) (os := os) (X := fun w _ => laidMetH Tryz.prog laid6 w) false (World.laidAll Tryz.prog os laid6) #[.slice none 0 0, .agg #[.string ⟨#[]⟩, .int .i64 0, .string ⟨#[]⟩], .string ⟨#[]⟩] 8 (World.laidAll_os _ _ _)
      (wit_shape os _) (by kernel_rfl) (by kernel_rfl) (by kernel_rfl) (wit_laid os _)) ?_
  intro W base args ds gs before hval0 hW _ hz _ _
  have hval : ∀ (j : Nat) t v, Tryz.f5.params[j]? = some t → args[j]? = some v → Value.okWide Tryz.prog W .any base t v := hval0
  have hz' : (DataW.weightsEach Tryz.prog (Tryz.f5.params.toList ++ Rows.smartKeepsSpec.plain.varTypes Tryz.prog) (ds ++ gs)).all (· ≤ reachBytes) = true := hz
  have hW' := hW
  obtain ⟨p, q, hA0, hV, rfl, hfz, hnd⟩ := hW
  have hA : DataW.TrodAll enc Tryz.prog W 0 (fun _ => true) true Tryz.f5.params.toList args.toList ds p := hA0
  rw [Tryz.params5] at hA hval hz'
  obtain ⟨v0, vs0, d0, ds0, p0, q0, hargs, rfl, rfl, h0, r0⟩ := trodAll_cons hA
  obtain ⟨v1, vs1, d1, ds1, p1, q1, rfl, rfl, rfl, h1, r1⟩ := trodAll_cons r0
  obtain ⟨v2, vs2, d2, ds2, p2, q2, rfl, rfl, rfl, h2, r2⟩ := trodAll_cons r1
  obtain ⟨rfl, rfl, rfl⟩ := trodAll_nil r2
  obtain rfl : args = #[v0, v1, v2] := by cases args; simp_all
  obtain ⟨z0, z1⟩ := weights_two hz'
  obtain ⟨l, hl⟩ := in_row Tryz.underlying22 kds22 (hval 0 22 v0 rfl rfl) h0 z0
  obtain ⟨xs, c, ex, hxs⟩ := in_struct kds24 (by decide) h1 z1
  obtain ⟨u, n, p, rfl, _, hu, hn, hp⟩ := file3 hxs
  obtain ⟨other, rfl⟩ := okWide_string Tryz.underlying9 (hval 2 9 v2 rfl rfl)
  have hx := smartKeeps_ok (S := Go.AM.start W) (A := fun _ => False) (fun _ h => h.elim) hl hu hn hp other
  rw [← ex] at hx
  refine (x_top (args := [v0, v1, .string other]) hx rfl).mono fun e W' ⟨he, bel⟩ => ?_
  subst he
  exact ⟨_, rfl, smartKeeps_post hW' bel⟩

theorem smartKeeps_row : Rows.SmartKeepsSaid :=
  OpenClaim.holds_of_wide 5 Tryz.f5 rfl rfl rfl rfl rfl rfl rfl ⟨rfl, rfl, rfl, rfl, rfl⟩ rfl rfl rfl rfl rfl (by as_aux_lemma => kernel_rfl) Tryz.func5 smartKeeps_facts
    (of_decide_eq_true (by as_aux_lemma => kernel_rfl)) (by unfold Func.isWrapper; first | (rw [if_pos (by decide +kernel)]; as_aux_lemma => kernel_rfl) | (rw [if_neg (by decide +kernel)]; exact ⟨rfl, rfl⟩))
    (fun os started H enc _ => smartKeeps_lifted os started H enc)
theorem smartKeeps_named : Tryz.prog.funcNamed Rows.smartKeepsRow.func = some 5 := by kernel_rfl
set_option maxHeartbeats 4000000 in
theorem smartKeeps_holds : Rows.SmartKeepsCardSaid :=
  Claim7.holds_tied_plain_at .later [] [.data, .data, .listed, .pinned, .data, .data] true (true, "98a13425b2a23abc597800481093d18ab88186e749a883d3f6aff8a3bd17d5b9") false
    smartKeeps_row (fun _ h => by cases h) (by as_aux_lemma => kernel_rfl) (fun _ h => by cases h) smartKeeps_row_tie rfl ⟨rfl, rfl⟩ (by as_aux_lemma => kernel_rfl) rfl
    (fun f fn hf hfn => by
      obtain rfl : f = 5 := Option.some.inj ((show Tryz.prog.funcNamed Rows.smartKeepsRow.func = some 5 from smartKeeps_named).symm.trans hf) |>.symm
      obtain rfl : fn = Tryz.f5 := (Option.some.inj (Tryz.func5.symm.trans hfn)).symm
      exact ⟨by as_aux_lemma => kernel_rfl, fun j t ht => by
        rw [Tryz.params5] at ht
        have hm : t ∈ [22, 24, 9] := by simpa using Array.mem_of_getElem? ht
        have hall : ([22, 24, 9].all fun u => !Tryz.prog.wantsStandIn u) = true := by as_aux_lemma => kernel_rfl
        exact (show Tryz.prog.wantsStandIn t = false by simpa using List.all_eq_true.1 hall t hm)⟩)
    (goesBy_none rfl)
end Go.Proofs.YthnplnlhibalcaaGreatDoor
