/-
  DERIVED. MADE BY PROGRAM (an AI agent of the authors' house's tools/great-walk3.mjs) off yteklajiaicmogaagreatdoor.cut.gsa: THE TIE AT unicode/utf8.acceptRanges, imageeditor/num.sines, imageeditor/adjust.factors, strings.asciiSpace, unicode.White_Space: PAID BY A WALK OF 'gosem.cut.vars', the frame a variable; not by the kernel's run. The pattern and its lessons: GREAT.tables/000.READ-ME.md.
-/
import Derived.Test.YteklajiaicmogaaGreatDoorHd1
import Derived.Great.CaseRows
import Derived.Great.LaidInts
import Derived.Great.ByCallsLater
import Derived.Lib.LaidU8
import Derived.Lib.LaidRTabT
import Derived.WalkKit
namespace Go.Proofs.YteklajiaicmogaaGreatDoor.Great
open Go.Great Go.Lib
set_option linter.unusedVariables false

def z8 : List Int := [0, 1608, 3216, 4821, 6424, 8022, 9616, 11204, 12785, 14359, 15924, 17479, 19024, 20557, 22078, 23586, 25080, 26558, 28020, 29466, 30893, 32303, 33692, 35062, 36410, 37736, 39040, 40320, 41576, 42806, 44011, 45190, 46341, 47464, 48559, 49624, 50660, 51665, 52639, 53581, 54491, 55368, 56212, 57022, 57798, 58538, 59244, 59914, 60547, 61145, 61705, 62228, 62714, 63162, 63572, 63944, 64277, 64571, 64827, 65043, 65220, 65358, 65457, 65516, 65536]
def z7 : List Int := [65536, 68438, 71468, 74632, 77936, 81386, 84990, 88752, 92682, 96785, 101070, 105545, 110218, 115098, 120194, 125515]
def z0 : List Int := [0, 0, 0, 0, 0, 0, 0, 0, 0, 1, 1, 1, 1, 1, 0, 0, 0, 0, 0, 0, 0, 0, 0, 0, 0, 0, 0, 0, 0, 0, 0, 0, 1, 0, 0, 0, 0, 0, 0, 0, 0, 0, 0, 0, 0, 0, 0, 0, 0, 0, 0, 0, 0, 0, 0, 0, 0, 0, 0, 0, 0, 0, 0, 0, 0, 0, 0, 0, 0, 0, 0, 0, 0, 0, 0, 0, 0, 0, 0, 0, 0, 0, 0, 0, 0, 0, 0, 0, 0, 0, 0, 0, 0, 0, 0, 0, 0, 0, 0, 0, 0, 0, 0, 0, 0, 0, 0, 0, 0, 0, 0, 0, 0, 0, 0, 0, 0, 0, 0, 0, 0, 0, 0, 0, 0, 0, 0, 0, 0, 0, 0, 0, 0, 0, 0, 0, 0, 0, 0, 0, 0, 0, 0, 0, 0, 0, 0, 0, 0, 0, 0, 0, 0, 0, 0, 0, 0, 0, 0, 0, 0, 0, 0, 0, 0, 0, 0, 0, 0, 0, 0, 0, 0, 0, 0, 0, 0, 0, 0, 0, 0, 0, 0, 0, 0, 0, 0, 0, 0, 0, 0, 0, 0, 0, 0, 0, 0, 0, 0, 0, 0, 0, 0, 0, 0, 0, 0, 0, 0, 0, 0, 0, 0, 0, 0, 0, 0, 0, 0, 0, 0, 0, 0, 0, 0, 0, 0, 0, 0, 0, 0, 0, 0, 0, 0, 0, 0, 0, 0, 0, 0, 0, 0, 0, 0, 0, 0, 0, 0, 0, 0, 0, 0, 0, 0, 0]
set_option maxHeartbeats 4000000 in
def T9 : RTab := { r16 := #[(9, 13, 1), (32, 133, 101), (160, 5760, 5600), (8192, 8202, 1), (8232, 8233, 1), (8239, 8287, 48), (12288, 12288, 1)], r32 := #[], off := 2 }


def yX : Array Value := #[.int .u8 128, .int .u8 191, .int .u8 160, .int .u8 191, .int .u8 128, .int .u8 159, .int .u8 144, .int .u8 191, .int .u8 128, .int .u8 143, .int .u8 0, .int .u8 0, .int .u8 0, .int .u8 0, .int .u8 0, .int .u8 0, .int .u8 0, .int .u8 0, .int .u8 0, .int .u8 0, .int .u8 0, .int .u8 0, .int .u8 0, .int .u8 0, .int .u8 0, .int .u8 0, .int .u8 0, .int .u8 0, .int .u8 0, .int .u8 0, .int .u8 0, .int .u8 0]
def aBy (w : World) (g : Nat) : Array Value := match w.heap[g]? with | some (.cells c _ _) => c | _ => #[]
def aHp (w : World) (g : Nat) : Value := (aBy w g).getD 0 undef
abbrev ints (k : IntKind) (zs : List Int) : DataW Unit := .slice (zs.map fun n => .lit (.int k n)) []
def laidAll : List (String × DataW Unit) := [("unicode/utf8.acceptRanges", Lib.acceptData), ("imageeditor/num.sines", Lib.tabData .i64 z8), ("imageeditor/adjust.factors", Lib.tabData .i64 z7), ("strings.asciiSpace", Lib.tabData .u8 z0)] ++ ([("unicode.White_Space", rtabData T9)])
theorem aEm : varsId Tryz.prog = 609 := by unfold varsId; rw [zB]; rfl
/-- No handle stands in the list: 'laidMetH' is 'laidMet'. -/
theorem aPu (w : World) (h : laidMet Tryz.prog laidAll w) : laidMetH Tryz.prog laidAll w := by
  have e : (laidAll.filter fun x => x.2.handleName?.isSome) = [] := by kernel_rfl
  unfold laidMetH
  rw [e]
  exact h
theorem fits (k : IntKind) (zs : List Int) (h : (zs.all fun n => (Lit.int k n).wf) = true) : ∀ n ∈ zs, (Lit.int k n).wf = true := fun n hn => List.all_eq_true.1 h n hn

/-- The guide's nine facts on unicode's types ('RTypes') and eight on cells ('RExtra'), at this dump's numbers. -/
def rho : Shelf.Ren := ⟨id, fun | 3 => 3 | 49 => 542 | 51 => 117 | 141 => 506 | 193 => 538 | 194 => 539 | 196 => 541 | 198 => 544 | 201 => 547 | x => x, id⟩
theorem rty : RTypes Tryz.prog rho := ⟨by kernel_rfl, by kernel_rfl, by kernel_rfl, by kernel_rfl, by kernel_rfl, by kernel_rfl, by kernel_rfl, by kernel_rfl, by kernel_rfl⟩
theorem rex : RExtra Tryz.prog rho := ⟨by kernel_rfl, by kernel_rfl, by kernel_rfl, by kernel_rfl, by kernel_rfl, by kernel_rfl, by kernel_rfl, by kernel_rfl⟩

attribute [local irreducible] wpList Code.wp varsStart aBy aHp yX z8 z7 z0

set_option linter.unusedSimpArgs false in
set_option maxRecDepth 1000000 in
set_option maxHeartbeats 4000000 in
theorem tie : Tryz.prog.laidByTextLater laidAll [.data, .data, .data, .data, .listed] true :=
  Program.laidByTextLater_by_calls (by rw [Go.AM.aUc vR]; as_aux_lemma => kernel_rfl) (by rw [Go.AM.aUc vR]; as_aux_lemma => kernel_rfl) (by rw [Go.AM.aUc vR]; as_aux_lemma => kernel_rfl) (by simp only [Go.AM.aLg aKw]; as_aux_lemma => kernel_rfl) (by rw [zB]; rfl) (by rw [aEm]; unfold varsNamedLaterB; simp only [Go.AM.aAj aKw]; as_aux_lemma => kernel_rfl) (by rw [aEm]; as_aux_lemma => kernel_rfl) fun os tape => by
    have e : varsId Tryz.prog = 609 := aEm
    rw [e]
    refine calls_of_wp Tryz.func609 rfl ?_
    refine wp_anyFrame 20 (by as_aux_lemma => kernel_rfl) rfl fun a0 hs0 hd0 => ?_
    -- utf8.go:100: unicode/utf8.acceptRanges
    apply wp_seq_k; intro K0 hK0
    apply wp_region_lit
    refine wpList_buildTo rfl 571 _ rfl (some 0) rfl #[.int .u8 128, .int .u8 191] (by as_aux_lemma => kernel_rfl) ?_
    refine wpList_buildTo rfl 571 _ rfl (some 1) rfl #[.int .u8 160, .int .u8 191] (by as_aux_lemma => kernel_rfl) ?_
    refine wpList_buildTo rfl 571 _ rfl (some 2) rfl #[.int .u8 128, .int .u8 159] (by as_aux_lemma => kernel_rfl) ?_
    refine wpList_buildTo rfl 571 _ rfl (some 3) rfl #[.int .u8 144, .int .u8 191] (by as_aux_lemma => kernel_rfl) ?_
    refine wpList_buildTo rfl 571 _ rfl (some 4) rfl #[.int .u8 128, .int .u8 143] (by as_aux_lemma => kernel_rfl) ?_
    refine wpList_buildTo rfl 572 _ rfl (some 5) rfl yX ?_ ?_
    · simp only [List.map_toArray, List.map_cons, List.map_nil]
      rw [Act.eval_put_ne _ _ _ _ (by decide), Act.eval_put_ne _ _ _ _ (by decide), Act.eval_put_ne _ _ _ _ (by decide), Act.eval_put_ne _ _ _ _ (by decide), Act.eval_put_same _ 0 _ (by simp only [Act.size_put, hs0]; omega), Act.eval_put_ne _ _ _ _ (by decide), Act.eval_put_ne _ _ _ _ (by decide), Act.eval_put_ne _ _ _ _ (by decide), Act.eval_put_same _ 1 _ (by simp only [Act.size_put, hs0]; omega), Act.eval_put_ne _ _ _ _ (by decide), Act.eval_put_ne _ _ _ _ (by decide), Act.eval_put_same _ 2 _ (by simp only [Act.size_put, hs0]; omega), Act.eval_put_ne _ _ _ _ (by decide), Act.eval_put_same _ 3 _ (by simp only [Act.size_put, hs0]; omega), Act.eval_put_same _ 4 _ (by simp only [Act.size_put, hs0]; omega)]
      as_aux_lemma => kernel_rfl
    refine wpList_store_rowTo rfl 572 _ _ rfl rfl 6 yX rfl (Act.eval_put_same _ 5 _ (by simp only [Act.size_put, hs0]; omega)) 572 (aBy (varsStart Tryz.prog os tape) 6) (by as_aux_lemma => kernel_rfl) (by as_aux_lemma => kernel_rfl) (by as_aux_lemma => kernel_rfl) (by as_aux_lemma => kernel_rfl) ?_
    apply wpList_nil
    refine hK0 _ _ ?_
    refine wp_anyFrame 20 (by simp only [Act.size_put, hs0]) (by simp only [Act.defers_put', hd0]) fun a1 hs1 hd1 => ?_
    clear hK0 K0
    -- num.go:22: imageeditor/num.sines
    apply wp_seq_k; intro K1 hK1
    apply wp_region_lit
    refine wpList_buildFlatArrTo rfl 576 3 65 _ rfl .i64 z8 (some 6) rfl (by as_aux_lemma => kernel_rfl) (by as_aux_lemma => kernel_rfl) (by as_aux_lemma => kernel_rfl) (by as_aux_lemma => kernel_rfl) ?_
    refine wpList_store_rowTo rfl 576 _ _ rfl rfl 8 (z8.map (Value.int .i64)).toArray rfl (Act.eval_put_same _ 6 _ (by simp only [Act.size_put, hs1]; omega)) 576 (aBy (varsStart Tryz.prog os tape) 8) (by as_aux_lemma => kernel_rfl) (by as_aux_lemma => kernel_rfl) (by as_aux_lemma => kernel_rfl) (by as_aux_lemma => kernel_rfl) ?_
    apply wpList_nil
    refine hK1 _ _ ?_
    refine wp_anyFrame 20 (by simp only [Act.size_put, hs1]) (by simp only [Act.defers_put', hd1]) fun a2 hs2 hd2 => ?_
    clear hK1 K1
    -- adjust.go:13: imageeditor/adjust.factors
    apply wp_seq_k; intro K2 hK2
    apply wp_region_lit
    refine wpList_buildFlatArrTo rfl 573 3 16 _ rfl .i64 z7 (some 7) rfl (by as_aux_lemma => kernel_rfl) (by as_aux_lemma => kernel_rfl) (by as_aux_lemma => kernel_rfl) (by as_aux_lemma => kernel_rfl) ?_
    refine wpList_store_rowTo rfl 573 _ _ rfl rfl 7 (z7.map (Value.int .i64)).toArray rfl (Act.eval_put_same _ 7 _ (by simp only [Act.size_put, hs2]; omega)) 573 (aBy (varsStart Tryz.prog os tape) 7) (by as_aux_lemma => kernel_rfl) (by as_aux_lemma => kernel_rfl) (by as_aux_lemma => kernel_rfl) (by as_aux_lemma => kernel_rfl) ?_
    apply wpList_nil
    refine hK2 _ _ ?_
    refine wp_anyFrame 20 (by simp only [Act.size_put, hs2]) (by simp only [Act.defers_put', hd2]) fun a3 hs3 hd3 => ?_
    clear hK2 K2
    -- tables.go:9029: unicode._White_Space
    apply wp_seq_k; intro K3 hK3
    apply wp_region_lit
    refine wpList_splitAt 7 (rgOps 544 "tables.go:9029" .u16 8 T9.r16.toList) (by as_aux_lemma => kernel_rfl) ?_
    refine wpList_rgs 544 "tables.go:9029" .u16 (fun _ _ _ => by as_aux_lemma => kernel_rfl) T9.r16.toList 8 _ (by simp only [Act.size_put, hs3]; exact Nat.le_of_ble_eq_true (by as_aux_lemma => kernel_rfl)) fun b3 hb3 hbd3 hev3 _ => ?_
    refine wpList_buildRgs rfl 538 544 _ .u16 T9.r16 rfl 8 ((varsStart Tryz.prog os tape).heap.size + 0) (by as_aux_lemma => kernel_rfl) (some 15) rfl (by as_aux_lemma => kernel_rfl) (by as_aux_lemma => kernel_rfl) (by as_aux_lemma => kernel_rfl) (by decide) (by decide) (by as_aux_lemma => kernel_rfl) hev3 ?_
    refine wpList_buildTo rfl 541 _ rfl (some 16) rfl #[.slice (some ⟨(varsStart Tryz.prog os tape).heap.size + 0, 0, none⟩) T9.r16.size T9.r16.size, .slice none 0 0, .int .i64 T9.off] ?_ ?_
    · simp only [List.map_toArray, List.map_cons, List.map_nil]
      rw [Act.eval_put_same _ 15 _ (by simp only [Act.size_put, hb3, hs3]; omega)]
      as_aux_lemma => kernel_rfl
    refine wpList_boxTo rfl 541 _ rfl (some 17) rfl ((varsStart Tryz.prog os tape).heap.size + 1) (by as_aux_lemma => kernel_rfl) #[.slice (some ⟨(varsStart Tryz.prog os tape).heap.size + 0, 0, none⟩) T9.r16.size T9.r16.size, .slice none 0 0, .int .i64 T9.off] (by rw [Act.eval_put_same _ 16 _ (by simp only [Act.size_put, hb3, hs3]; omega)]; rfl) ?_
    refine wpList_store_oneTo rfl 506 _ _ rfl rfl 9 (.pointer (some ⟨(varsStart Tryz.prog os tape).heap.size + 1, 0, none⟩)) rfl (Act.eval_put_same _ 17 _ (by simp only [Act.size_put, hb3, hs3]; omega)) rfl 506 (aHp (varsStart Tryz.prog os tape) 9) (by as_aux_lemma => kernel_rfl) (by as_aux_lemma => kernel_rfl) ?_
    apply wpList_nil
    refine hK3 _ _ ?_
    refine wp_anyFrame 20 (by simp only [Act.size_put, hb3, hs3]) (by simp only [Act.defers_put', hbd3, hd3]) fun a4 hs4 hd4 => ?_
    clear hK3 K3
    -- tables.go:9082: unicode.White_Space
    apply wp_seq_k; intro K4 hK4
    apply wp_region_lit
    refine wpList_readTo rfl (some 18) rfl (.pointer (some ⟨(varsStart Tryz.prog os tape).heap.size + 1, 0, none⟩)) (by as_aux_lemma => kernel_rfl) ?_
    refine wpList_store_oneTo rfl 506 _ _ rfl rfl 1 (.pointer (some ⟨(varsStart Tryz.prog os tape).heap.size + 1, 0, none⟩)) rfl (Act.eval_put_same _ 18 _ (by simp only [Act.size_put, hs4]; omega)) rfl 506 (aHp (varsStart Tryz.prog os tape) 1) (by as_aux_lemma => kernel_rfl) (by as_aux_lemma => kernel_rfl) ?_
    apply wpList_nil
    refine hK4 _ _ ?_
    refine wp_anyFrame 20 (by simp only [Act.size_put, hs4]) (by simp only [Act.defers_put', hd4]) fun a5 hs5 hd5 => ?_
    clear hK4 K4
    -- strings.go:358: strings.asciiSpace
    apply wp_region_lit
    refine wpList_buildTo rfl 454 _ rfl (some 19) rfl (z0.map (Value.int .u8)).toArray (by as_aux_lemma => kernel_rfl) ?_
    refine wpList_store_rowTo rfl 454 _ _ rfl rfl 0 (z0.map (Value.int .u8)).toArray rfl (Act.eval_put_same _ 19 _ (by simp only [Act.size_put, hs5]; omega)) 454 (aBy (varsStart Tryz.prog os tape) 0) (by as_aux_lemma => kernel_rfl) (by as_aux_lemma => kernel_rfl) (by as_aux_lemma => kernel_rfl) (by as_aux_lemma => kernel_rfl) ?_
    apply wpList_nil
    refine bodyPost_end0 rfl (by simp only [Act.defers_put', hd5]) ?_
    refine ⟨⟨_, rfl⟩, aPu _ (laidMet_memory (LaidIn.met (B := [6, 8, 7, 0] ++ ([1, (varsStart Tryz.prog os tape).heap.size + 1, (varsStart Tryz.prog os tape).heap.size + 0])) ?_))⟩
    unfold laidAll
    refine LaidIn.append (B := [6, 8, 7, 0]) (LaidIn.of_run [6, 8, 7, 0] 10 (by as_aux_lemma => kernel_rfl) (by as_aux_lemma => kernel_rfl) (by as_aux_lemma => kernel_rfl) (by as_aux_lemma => kernel_rfl)) ?_ (by as_aux_lemma => kernel_rfl)
    exact (laidIn_rtab16T (ρ := rho) rty rex (name := "unicode.White_Space") (g := 1) (by as_aux_lemma => kernel_rfl) (by as_aux_lemma => kernel_rfl) T9 ((varsStart Tryz.prog os tape).heap.size + 1) ((varsStart Tryz.prog os tape).heap.size + 0) 544 (by as_aux_lemma => kernel_rfl) (by as_aux_lemma => kernel_rfl) (by as_aux_lemma => kernel_rfl) (by as_aux_lemma => kernel_rfl) (by decide) (by decide) (of_decide_eq_true (by as_aux_lemma => kernel_rfl)))

end Go.Proofs.YteklajiaicmogaaGreatDoor.Great
