/-
  Proved here: for every document that a program can hold, the law ConvertNative returns true and does not panic, in a program whose listed variables are as its text lays them (Rows.ConvertNativeCardSaid).
-/
import Derived.Test.YtlikijmihbgloaaGreatDoorE1
import Derived.Test.YtlikijmihbgloaaGreatDoorX
import Derived.Test.YtlikijmihbgloaaGreatDoorT1
import Derived.Test.YtlikijmihbgloaaGreatDoorF3
set_option linter.unusedVariables false
set_option linter.unusedSimpArgs false
set_option maxRecDepth 100000
namespace Go.Proofs.YtlikijmihbgloaaGreatDoor
open Go Go.AM Go.ChangeShapes Go.WideShapes Go.ChangeAt Go.RowKit

theorem qU {T : Type} {enc : TypeId × Value → T} {W W' : World} {args : Array Value} {ds gs : List (DataW T)} {before : List MemPlace} (hW : DataW.Whole enc Tryz.prog Tryz.f3.params.toList Rows.convertNativeSpec.vars false W args.toList ds gs before) (bel : Below W.heap.size W W') :
    Rows.convertNativeSpec.post enc Tryz.prog Tryz.f3 false true false false W args (.bool true) W' :=
  aTh (tb := 4) laidOut (by kernel_rfl) Tryz.underlying4 rfl (by
    intro t ht
    rw [Tryz.params3] at ht
    simp only [List.mem_cons, List.not_mem_nil, or_false] at ht
    rcases ht with rfl
    · exact ⟨by kernel_rfl, of_decide_eq_true (by kernel_rfl)⟩) (by
    intro ds hd
    have h2 : ds.length = 1 := hd.trans (by kernel_rfl)
    match ds, h2 with
    | [a], _ => exact ⟨rfl, rfl, rfl⟩) hW bel

theorem nJ (os : Os) (started : os.Started) (H : Type) (enc : TypeId × Value → H) :
    ReturnsInHanded {} Tryz.checked os 3 .any (fun w args => (Rows.convertNativeSpec.pre enc Tryz.prog Tryz.f3 Rows.convertNativeRow.domain false w args ∧ laidMetH Tryz.prog laid6 w) ∧ sizedMet enc Tryz.prog Tryz.f3 (OpenSpec.ofChange Rows.convertNativeSpec) false w args)
      (Rows.convertNativeSpec.post enc Tryz.prog Tryz.f3 false true false false) := by
  refine returnsInHanded_of_change_and (C := Tryz.checked) (X := fun w _ => laidMetH Tryz.prog laid6 w) (fun _ _ _ hh h => h.of_heap hh) own started (by kernel_rfl) Tryz.func3
    (ChangeSpec.witness_shaped (enc := enc) (C := Tryz.checked) (os := os) (X := fun w _ => laidMetH Tryz.prog laid6 w) false (World.laidAll Tryz.prog os laid6) #[.agg #[.int .i64 0, .int .i64 0, .int .i64 0, .slice none 0 0, .int .i64 0, .int .i64 0, .int .i64 0, .slice none 0 0, .slice none 0 0, .slice none 0 0]] 8 (World.laidAll_os _ _ _)
      (aNq os _) (by kernel_rfl) (by kernel_rfl) (by kernel_rfl) (aSi os _)) ?_
  intro W base args ds gs before fi hW _ hz fj _
  have sd : ∀ (j : Nat) t v, Tryz.f3.params[j]? = some t → args[j]? = some v → Value.okWide Tryz.prog W .any base t v := fi
  have xy : (DataW.weightsEach Tryz.prog (Tryz.f3.params.toList ++ Rows.convertNativeSpec.plain.varTypes Tryz.prog) (ds ++ gs)).all (· ≤ reachBytes) = true := hz
  have fv := hW
  obtain ⟨p, q, hA0, hV, rfl, dg, pp⟩ := hW
  have hA : DataW.TrodAll enc Tryz.prog W 0 (fun _ => true) true Tryz.f3.params.toList args.toList ds p := hA0
  rw [Tryz.params3] at hA sd xy
  obtain ⟨v0, vs0, d0, ds0, p0, q0, qh, rfl, rfl, h0, r0⟩ := trodAll_cons hA
  obtain ⟨rfl, rfl, rfl⟩ := trodAll_nil r0
  obtain rfl : args = #[v0] := by cases args; simp_all
  have z0 := aDy xy
  obtain ⟨xs, c, ex, hxs⟩ := aNd kds29 (by decide) h0 z0
  have hx := tL (aZi fj) hxs
  rw [← ex] at hx
  refine (x_top (args := [v0]) hx rfl).mono fun e W' ⟨he, bel⟩ => ?_
  subst he
  exact ⟨_, rfl, qU fv bel⟩

theorem rM : Rows.ConvertNativeSaid :=
  OpenClaim.holds_of_wide 3 Tryz.f3 rfl rfl rfl rfl rfl rfl rfl ⟨rfl, rfl, rfl, rfl, rfl⟩ rfl rfl rfl rfl rfl (by as_aux_lemma => kernel_rfl) Tryz.func3 pL
    (of_decide_eq_true (by as_aux_lemma => kernel_rfl)) (by unfold Func.isWrapper; first | (rw [if_pos (by decide +kernel)]; as_aux_lemma => kernel_rfl) | (rw [if_neg (by decide +kernel)]; exact ⟨rfl, rfl⟩))
    (fun os started H enc _ => nJ os started H enc)
theorem oE : Tryz.prog.funcNamed Rows.convertNativeRow.func = some 3 := cJ bBr (by kernel_rfl) (by kernel_rfl) (by kernel_rfl)
set_option maxHeartbeats 4000000 in
theorem convertNative_holds : Rows.ConvertNativeCardSaid :=
  Claim7.holds_tied_plain_at .later [] [.data, .data, .listed, .pinned, .data, .data, .data, .data, .data] true (true, "a919c5a24032e7da0b2a2a49562cd20edae828840e675436d0f52f5467ca5317") false
    rM (fun _ h => by cases h) (by as_aux_lemma => kernel_rfl) (fun _ h => by cases h) mW rfl ⟨rfl, rfl⟩ (by as_aux_lemma => kernel_rfl) rfl
    (fun f fn hf d6 => by
      obtain rfl : f = 3 := Option.some.inj ((show Tryz.prog.funcNamed Rows.convertNativeRow.func = some 3 from oE).symm.trans hf) |>.symm
      obtain rfl : fn = Tryz.f3 := (Option.some.inj (Tryz.func3.symm.trans d6)).symm
      exact ⟨by as_aux_lemma => kernel_rfl, fun j t ht => by
        rw [Tryz.params3] at ht
        have hm : t ∈ [29] := by simpa using Array.mem_of_getElem? ht
        have qv : ([29].all fun u => !Tryz.prog.wantsStandIn u) = true := by as_aux_lemma => kernel_rfl
        exact (show Tryz.prog.wantsStandIn t = false by simpa using List.all_eq_true.1 qv t hm)⟩)
    (aFb rfl)
end Go.Proofs.YtlikijmihbgloaaGreatDoor
