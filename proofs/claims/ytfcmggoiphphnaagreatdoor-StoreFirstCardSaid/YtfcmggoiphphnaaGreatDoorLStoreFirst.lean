/-
  Proved here: for every document and every number of bytes that a program can hold, the law StoreFirst returns true and does not panic, in a program whose listed variables are as its text lays them (Rows.StoreFirstCardSaid).
-/
import Derived.Test.YtfcmggoiphphnaaGreatDoorE1
import Derived.Test.YtfcmggoiphphnaaGreatDoorX
import Derived.Test.YtfcmggoiphphnaaGreatDoorT1
import Derived.Test.YtfcmggoiphphnaaGreatDoorF3
set_option linter.unusedVariables false
set_option linter.unusedSimpArgs false
set_option maxRecDepth 100000
namespace Go.Proofs.YtfcmggoiphphnaaGreatDoor
open Go Go.AM Go.ChangeShapes Go.WideShapes Go.ChangeAt Go.RowKit

theorem uJ {T : Type} {enc : TypeId × Value → T} {W W' : World} {args : Array Value} {ds gs : List (DataW T)} {before : List MemPlace} (hW : DataW.Whole enc Tryz.prog Tryz.f3.params.toList Rows.storeFirstSpec.vars false W args.toList ds gs before) (bel : Below W.heap.size W W') :
    Rows.storeFirstSpec.post enc Tryz.prog Tryz.f3 false true false false W args (.bool true) W' :=
  aRo (tb := 4) laidOut (by kernel_rfl) Tryz.underlying4 rfl (by
    intro t ht
    rw [Tryz.params3] at ht
    simp only [List.mem_cons, List.not_mem_nil, or_false] at ht
    rcases ht with rfl | rfl
    all_goals exact ⟨by kernel_rfl, of_decide_eq_true (by kernel_rfl)⟩) (by
    intro ds hd
    have h2 : ds.length = 2 := hd.trans (by kernel_rfl)
    match ds, h2 with
    | [a, b], _ => exact ⟨rfl, rfl, rfl⟩) hW bel

theorem qM (os : Os) (started : os.Started) (H : Type) (enc : TypeId × Value → H) :
    ReturnsInHanded {} Tryz.checked os 3 .any (fun w args => (Rows.storeFirstSpec.pre enc Tryz.prog Tryz.f3 Rows.storeFirstRow.domain false w args ∧ laidMetH Tryz.prog laid6 w) ∧ sizedMet enc Tryz.prog Tryz.f3 (OpenSpec.ofChange Rows.storeFirstSpec) false w args)
      (Rows.storeFirstSpec.post enc Tryz.prog Tryz.f3 false true false false) := by
  refine returnsInHanded_of_change_and (C := Tryz.checked) (X := fun w _ => laidMetH Tryz.prog laid6 w) (fun _ _ _ hh h => h.of_heap hh) own started (by kernel_rfl) Tryz.func3
    (ChangeSpec.witness_shaped (enc := enc) (C := Tryz.checked) (os := os) (X := fun w _ => laidMetH Tryz.prog laid6 w) false (World.laidAll Tryz.prog os laid6) #[.agg #[.int .i64 0, .int .i64 0, .int .i64 0, .slice none 0 0, .int .i64 0, .int .i64 0, .int .i64 0, .slice none 0 0, .slice none 0 0, .slice none 0 0], .int .u16 0] 8 (World.laidAll_os _ _ _)
      (aNg os _) (by kernel_rfl) (by kernel_rfl) (by kernel_rfl) (aWc os _)) ?_
  intro W base args ds gs before j8 hW _ hz j9 _
  have vi : ∀ (j : Nat) t v, Tryz.f3.params[j]? = some t → args[j]? = some v → Value.okWide Tryz.prog W .any base t v := j8
  have xm : (DataW.weightsEach Tryz.prog (Tryz.f3.params.toList ++ Rows.storeFirstSpec.plain.varTypes Tryz.prog) (ds ++ gs)).all (· ≤ reachBytes) = true := hz
  have gu := hW
  obtain ⟨p, q, hA0, hV, rfl, fj, pr⟩ := hW
  have hA : DataW.TrodAll enc Tryz.prog W 0 (fun _ => true) true Tryz.f3.params.toList args.toList ds p := hA0
  rw [Tryz.params3] at hA vi xm
  obtain ⟨v0, vs0, d0, ds0, p0, q0, qj, rfl, rfl, h0, r0⟩ := trodAll_cons hA
  obtain ⟨v1, vs1, d1, ds1, p1, q1, rfl, rfl, rfl, h1, r1⟩ := trodAll_cons r0
  obtain ⟨rfl, rfl, rfl⟩ := trodAll_nil r1
  obtain rfl : args = #[v0, v1] := by cases args; simp_all
  obtain ⟨z0, z1⟩ := aFk xm
  obtain ⟨xs, c, ex, hxs⟩ := aNo kds29 (by decide) h0 z0
  obtain ⟨n, rfl⟩ := Go.WideShapes.okWide_int Tryz.underlying30 (vi 1 30 v1 rfl rfl)
  have hn : (Lit.int .u16 n).wf = true := bFi h1 z1
  have hx := yQ (bCi j9) hxs hn
  rw [← ex] at hx
  refine (x_top (args := [v0, .int .u16 n]) hx rfl).mono fun e W' ⟨he, bel⟩ => ?_
  subst he
  exact ⟨_, rfl, uJ gu bel⟩

theorem vF : Rows.StoreFirstSaid :=
  OpenClaim.holds_of_wide 3 Tryz.f3 rfl rfl rfl rfl rfl rfl rfl ⟨rfl, rfl, rfl, rfl, rfl⟩ rfl rfl rfl rfl rfl (by as_aux_lemma => kernel_rfl) Tryz.func3 tK
    (of_decide_eq_true (by as_aux_lemma => kernel_rfl)) (by unfold Func.isWrapper; first | (rw [if_pos (by decide +kernel)]; as_aux_lemma => kernel_rfl) | (rw [if_neg (by decide +kernel)]; exact ⟨rfl, rfl⟩))
    (fun os started H enc _ => qM os started H enc)
theorem rJ : Tryz.prog.funcNamed Rows.storeFirstRow.func = some 3 := aPl
set_option maxHeartbeats 4000000 in
theorem storeFirst_holds : Rows.StoreFirstCardSaid :=
  Claim7.holds_tied_plain_at .later [] [.data, .data, .listed, .pinned, .data, .data] true (true, "2dcd600a10c93895078becb6bbcb52ebb5cb3cdd01f4471c9fdeaa9f776ef1c1") false
    vF (fun _ h => by cases h) (by as_aux_lemma => kernel_rfl) (fun _ h => by cases h) pV rfl ⟨rfl, rfl⟩ (by as_aux_lemma => kernel_rfl) rfl
    (fun f fn hf db => by
      obtain rfl : f = 3 := Option.some.inj ((show Tryz.prog.funcNamed Rows.storeFirstRow.func = some 3 from rJ).symm.trans hf) |>.symm
      obtain rfl : fn = Tryz.f3 := (Option.some.inj (Tryz.func3.symm.trans db)).symm
      exact ⟨by as_aux_lemma => kernel_rfl, fun j t ht => by
        rw [Tryz.params3] at ht
        have hm : t ∈ [29, 30] := by simpa using Array.mem_of_getElem? ht
        have zh : ([29, 30].all fun u => !Tryz.prog.wantsStandIn u) = true := by as_aux_lemma => kernel_rfl
        exact (show Tryz.prog.wantsStandIn t = false by simpa using List.all_eq_true.1 zh t hm)⟩)
    (aFg rfl)
end Go.Proofs.YtfcmggoiphphnaaGreatDoor
