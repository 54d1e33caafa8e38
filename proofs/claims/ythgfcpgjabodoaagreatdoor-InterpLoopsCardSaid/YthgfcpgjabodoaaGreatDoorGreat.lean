/-
  DERIVED. MADE BY PROGRAM (an AI agent of the authors' house's tools/great-walk3.mjs) off ythgfcpgjabodoaagreatdoor.cut.gsa: THE TIE AT math/bits.deBruijn32tab, math/bits.deBruijn64tab, internal/strconv.uint64pow10, unicode/utf8.acceptRanges, imageeditor/num.sines, imageeditor/blend.names, imageeditor/adjust.factors, strconv.ErrRange, strconv.ErrSyntax, strings.asciiSpace, unicode.White_Space: PAID BY A WALK OF 'gosem.cut.vars', the frame a variable; not by the kernel's run. The pattern and its lessons: GREAT.tables/000.READ-ME.md.
-/
import Derived.Test.YthgfcpgjabodoaaGreatDoorHd1
import Derived.Great.CaseRows
import Derived.Great.LaidInts
import Derived.Great.ByCallsLater
import Derived.Lib.LaidU8
import Derived.Lib.LaidRTabT
import Derived.WalkKit
namespace Go.Proofs.YthgfcpgjabodoaaGreatDoor.Great
open Go.Great Go.Lib
set_option linter.unusedVariables false

def z1 : List Int := [0, 1, 28, 2, 29, 14, 24, 3, 30, 22, 20, 15, 25, 17, 4, 8, 31, 27, 13, 23, 21, 19, 16, 7, 26, 12, 18, 6, 11, 5, 10, 9]
def z2 : List Int := [0, 1, 56, 2, 57, 49, 28, 3, 61, 58, 42, 50, 38, 29, 17, 4, 62, 47, 59, 36, 45, 43, 51, 22, 53, 39, 33, 30, 24, 18, 12, 5, 63, 55, 48, 27, 60, 41, 37, 16, 46, 35, 44, 21, 52, 32, 23, 11, 54, 26, 40, 15, 34, 20, 31, 10, 25, 14, 19, 9, 13, 8, 7, 6]
def z0 : List Int := [1, 10, 100, 1000, 10000, 100000, 1000000, 10000000, 100000000, 1000000000, 10000000000, 100000000000, 1000000000000, 10000000000000, 100000000000000, 1000000000000000, 10000000000000000, 100000000000000000, 1000000000000000000, 10000000000000000000]
def z11 : List Int := [0, 1608, 3216, 4821, 6424, 8022, 9616, 11204, 12785, 14359, 15924, 17479, 19024, 20557, 22078, 23586, 25080, 26558, 28020, 29466, 30893, 32303, 33692, 35062, 36410, 37736, 39040, 40320, 41576, 42806, 44011, 45190, 46341, 47464, 48559, 49624, 50660, 51665, 52639, 53581, 54491, 55368, 56212, 57022, 57798, 58538, 59244, 59914, 60547, 61145, 61705, 62228, 62714, 63162, 63572, 63944, 64277, 64571, 64827, 65043, 65220, 65358, 65457, 65516, 65536]
def z14 : List Int := [65536, 68438, 71468, 74632, 77936, 81386, 84990, 88752, 92682, 96785, 101070, 105545, 110218, 115098, 120194, 125515]
def z3 : List Int := [0, 0, 0, 0, 0, 0, 0, 0, 0, 1, 1, 1, 1, 1, 0, 0, 0, 0, 0, 0, 0, 0, 0, 0, 0, 0, 0, 0, 0, 0, 0, 0, 1, 0, 0, 0, 0, 0, 0, 0, 0, 0, 0, 0, 0, 0, 0, 0, 0, 0, 0, 0, 0, 0, 0, 0, 0, 0, 0, 0, 0, 0, 0, 0, 0, 0, 0, 0, 0, 0, 0, 0, 0, 0, 0, 0, 0, 0, 0, 0, 0, 0, 0, 0, 0, 0, 0, 0, 0, 0, 0, 0, 0, 0, 0, 0, 0, 0, 0, 0, 0, 0, 0, 0, 0, 0, 0, 0, 0, 0, 0, 0, 0, 0, 0, 0, 0, 0, 0, 0, 0, 0, 0, 0, 0, 0, 0, 0, 0, 0, 0, 0, 0, 0, 0, 0, 0, 0, 0, 0, 0, 0, 0, 0, 0, 0, 0, 0, 0, 0, 0, 0, 0, 0, 0, 0, 0, 0, 0, 0, 0, 0, 0, 0, 0, 0, 0, 0, 0, 0, 0, 0, 0, 0, 0, 0, 0, 0, 0, 0, 0, 0, 0, 0, 0, 0, 0, 0, 0, 0, 0, 0, 0, 0, 0, 0, 0, 0, 0, 0, 0, 0, 0, 0, 0, 0, 0, 0, 0, 0, 0, 0, 0, 0, 0, 0, 0, 0, 0, 0, 0, 0, 0, 0, 0, 0, 0, 0, 0, 0, 0, 0, 0, 0, 0, 0, 0, 0, 0, 0, 0, 0, 0, 0, 0, 0, 0, 0, 0, 0, 0, 0, 0, 0, 0, 0]
set_option maxHeartbeats 4000000 in
def T15 : RTab := { r16 := #[(9, 13, 1), (32, 133, 101), (160, 5760, 5600), (8192, 8202, 1), (8232, 8233, 1), (8239, 8287, 48), (12288, 12288, 1)], r32 := #[], off := 2 }

noncomputable def c10 (n0 : Nat) : Array Value := (Tryz.prog.built 404 [(0, (.string ⟨#[110, 111, 114, 109, 97, 108]⟩)), (1, (.string ⟨#[109, 117, 108, 116, 105, 112, 108, 121]⟩)), (2, (.string ⟨#[115, 99, 114, 101, 101, 110]⟩)), (3, (.string ⟨#[111, 118, 101, 114, 108, 97, 121]⟩)), (4, (.string ⟨#[100, 97, 114, 107, 101, 110]⟩)), (5, (.string ⟨#[108, 105, 103, 104, 116, 101, 110]⟩)), (6, (.string ⟨#[100, 111, 100, 103, 101]⟩)), (7, (.string ⟨#[98, 117, 114, 110]⟩)), (8, (.string ⟨#[104, 97, 114, 100]⟩)), (9, (.string ⟨#[115, 111, 102, 116]⟩)), (10, (.string ⟨#[100, 105, 102, 102, 101, 114, 101, 110, 99, 101]⟩)), (11, (.string ⟨#[101, 120, 99, 108, 117, 115, 105, 111, 110]⟩)), (12, (.string ⟨#[97, 100, 100]⟩)), (13, (.string ⟨#[115, 117, 98, 116, 114, 97, 99, 116]⟩)), (14, (.string ⟨#[104, 117, 101]⟩)), (15, (.string ⟨#[115, 97, 116, 117, 114, 97, 116, 105, 111, 110]⟩)), (16, (.string ⟨#[99, 111, 108, 111, 114]⟩)), (17, (.string ⟨#[108, 117, 109, 105, 110, 111, 115, 105, 116, 121]⟩))]).getD #[]
def xC : Array Value := #[.int .u8 128, .int .u8 191, .int .u8 160, .int .u8 191, .int .u8 128, .int .u8 159, .int .u8 144, .int .u8 191, .int .u8 128, .int .u8 143, .int .u8 0, .int .u8 0, .int .u8 0, .int .u8 0, .int .u8 0, .int .u8 0, .int .u8 0, .int .u8 0, .int .u8 0, .int .u8 0, .int .u8 0, .int .u8 0, .int .u8 0, .int .u8 0, .int .u8 0, .int .u8 0, .int .u8 0, .int .u8 0, .int .u8 0, .int .u8 0, .int .u8 0, .int .u8 0]
def oJ (w : World) (g : Nat) : Array Value := match w.heap[g]? with | some (.cells c _ _) => c | _ => #[]
def vN (w : World) (g : Nat) : Value := (oJ w g).getD 0 undef
abbrev ints (k : IntKind) (zs : List Int) : DataW Unit := .slice (zs.map fun n => .lit (.int k n)) []
def laidAll : List (String × DataW Unit) := [("math/bits.deBruijn32tab", Lib.tabData .u8 z1), ("math/bits.deBruijn64tab", Lib.tabData .u8 z2), ("internal/strconv.uint64pow10", Lib.tabData .u64 z0), ("unicode/utf8.acceptRanges", Lib.acceptData), ("imageeditor/num.sines", Lib.tabData .i64 z11), ("imageeditor/blend.names", .agg [.lit (.string [110, 111, 114, 109, 97, 108]), .lit (.string [109, 117, 108, 116, 105, 112, 108, 121]), .lit (.string [115, 99, 114, 101, 101, 110]), .lit (.string [111, 118, 101, 114, 108, 97, 121]), .lit (.string [100, 97, 114, 107, 101, 110]), .lit (.string [108, 105, 103, 104, 116, 101, 110]), .lit (.string [100, 111, 100, 103, 101]), .lit (.string [98, 117, 114, 110]), .lit (.string [104, 97, 114, 100]), .lit (.string [115, 111, 102, 116]), .lit (.string [100, 105, 102, 102, 101, 114, 101, 110, 99, 101]), .lit (.string [101, 120, 99, 108, 117, 115, 105, 111, 110]), .lit (.string [97, 100, 100]), .lit (.string [115, 117, 98, 116, 114, 97, 99, 116]), .lit (.string [104, 117, 101]), .lit (.string [115, 97, 116, 117, 114, 97, 116, 105, 111, 110]), .lit (.string [99, 111, 108, 111, 114]), .lit (.string [108, 117, 109, 105, 110, 111, 115, 105, 116, 121])]), ("imageeditor/adjust.factors", Lib.tabData .i64 z14), ("strconv.ErrRange", .iface "*errors.errorString" (.ptr (.agg [.lit (.string [118, 97, 108, 117, 101, 32, 111, 117, 116, 32, 111, 102, 32, 114, 97, 110, 103, 101])]))), ("strconv.ErrSyntax", .iface "*errors.errorString" (.ptr (.agg [.lit (.string [105, 110, 118, 97, 108, 105, 100, 32, 115, 121, 110, 116, 97, 120])]))), ("strings.asciiSpace", Lib.tabData .u8 z3)] ++ ([("unicode.White_Space", rtabData T15)])
theorem aAq : varsId Tryz.prog = 645 := by unfold varsId; rw [wM]; rfl
/-- No handle stands in the list: 'laidMetH' is 'laidMet'. -/
theorem aLa (w : World) (h : laidMet Tryz.prog laidAll w) : laidMetH Tryz.prog laidAll w := by
  have e : (laidAll.filter fun x => x.2.handleName?.isSome) = [] := by kernel_rfl
  unfold laidMetH
  rw [e]
  exact h
theorem fits (k : IntKind) (zs : List Int) (h : (zs.all fun n => (Lit.int k n).wf) = true) : ∀ n ∈ zs, (Lit.int k n).wf = true := fun n hn => List.all_eq_true.1 h n hn

/-- errors.New, by its contract: a new block that holds the text; an interface value over a pointer to it. -/
theorem new_c (s : ByteArray) (w : World) : Calls Tryz.prog 327 #[.string s] w fun e w' => e = .returned (.iface 442 (.pointer (some ⟨w.heap.size, 0, none⟩))) ∧ w' = w.alloc (.cells #[.string s] 444) := by
  go_enter Tryz.func327, Tryz.ntmps327
  go_wp2
  go_ret
  exact ⟨rfl, rfl⟩
theorem aFz (s : ByteArray) (w : World) (N : Nat) (hN : w.heap.size = N) : Calls Tryz.prog 327 #[.string s] w fun e w' => e = .returned (.iface 442 (.pointer (some ⟨N, 0, none⟩))) ∧ w' = w.alloc (.cells #[.string s] 444) := by
  subst hN
  exact new_c s w

/-- The guide's nine facts on unicode's types ('RTypes') and eight on cells ('RExtra'), at this dump's numbers. -/
def rho : Shelf.Ren := ⟨id, fun | 3 => 3 | 49 => 389 | 51 => 185 | 141 => 353 | 193 => 385 | 194 => 386 | 196 => 388 | 198 => 391 | 201 => 394 | x => x, id⟩
theorem rty : RTypes Tryz.prog rho := ⟨by kernel_rfl, by kernel_rfl, by kernel_rfl, by kernel_rfl, by kernel_rfl, by kernel_rfl, by kernel_rfl, by kernel_rfl, by kernel_rfl⟩
theorem rex : RExtra Tryz.prog rho := ⟨by kernel_rfl, by kernel_rfl, by kernel_rfl, by kernel_rfl, by kernel_rfl, by kernel_rfl, by kernel_rfl, by kernel_rfl⟩

attribute [local irreducible] wpList Code.wp varsStart oJ vN xC z1 z2 z0 z11 z14 z3 c10

set_option linter.unusedSimpArgs false in
set_option maxRecDepth 1000000 in
set_option maxHeartbeats 4000000 in
theorem tie : Tryz.prog.laidByTextLater laidAll [.data, .data, .data, .data, .data, .data, .data, .sentinel, .sentinel, .data, .listed] true :=
  Program.laidByTextLater_by_calls (by rw [Go.AM.aPa rB]; as_aux_lemma => kernel_rfl) (by rw [Go.AM.aPa rB]; as_aux_lemma => kernel_rfl) (by rw [Go.AM.aPa rB]; as_aux_lemma => kernel_rfl) (by simp only [Go.AM.aGd aGb]; as_aux_lemma => kernel_rfl) (by rw [wM]; rfl) (by rw [aAq]; unfold varsNamedLaterB; simp only [Go.AM.vR aGb]; as_aux_lemma => kernel_rfl) (by rw [aAq]; as_aux_lemma => kernel_rfl) fun os tape => by
    have e : varsId Tryz.prog = 645 := aAq
    rw [e]
    refine calls_of_wp Tryz.func645 rfl ?_
    refine wp_anyFrame 26 (by as_aux_lemma => kernel_rfl) rfl fun a0 hs0 hd0 => ?_
    -- bits.go:44: math/bits.deBruijn32tab
    apply wp_seq_k; intro K0 hK0
    apply wp_region_lit
    refine wpList_buildFlatArrTo rfl 243 5 32 _ rfl .u8 z1 (some 0) rfl (by as_aux_lemma => kernel_rfl) (by as_aux_lemma => kernel_rfl) (by as_aux_lemma => kernel_rfl) (by as_aux_lemma => kernel_rfl) ?_
    refine wpList_store_rowTo rfl 243 _ _ rfl rfl 1 (z1.map (Value.int .u8)).toArray rfl (Act.eval_put_same _ 0 _ (by simp only [Act.size_put, hs0]; omega)) 243 (oJ (varsStart Tryz.prog os tape) 1) (by as_aux_lemma => kernel_rfl) (by as_aux_lemma => kernel_rfl) (by as_aux_lemma => kernel_rfl) (by as_aux_lemma => kernel_rfl) ?_
    apply wpList_nil
    refine hK0 _ _ ?_
    refine wp_anyFrame 26 (by simp only [Act.size_put, hs0]) (by simp only [Act.defers_put', hd0]) fun a1 hs1 hd1 => ?_
    clear hK0 K0
    -- bits.go:51: math/bits.deBruijn64tab
    apply wp_seq_k; intro K1 hK1
    apply wp_region_lit
    refine wpList_buildFlatArrTo rfl 244 5 64 _ rfl .u8 z2 (some 1) rfl (by as_aux_lemma => kernel_rfl) (by as_aux_lemma => kernel_rfl) (by as_aux_lemma => kernel_rfl) (by as_aux_lemma => kernel_rfl) ?_
    refine wpList_store_rowTo rfl 244 _ _ rfl rfl 2 (z2.map (Value.int .u8)).toArray rfl (Act.eval_put_same _ 1 _ (by simp only [Act.size_put, hs1]; omega)) 244 (oJ (varsStart Tryz.prog os tape) 2) (by as_aux_lemma => kernel_rfl) (by as_aux_lemma => kernel_rfl) (by as_aux_lemma => kernel_rfl) (by as_aux_lemma => kernel_rfl) ?_
    apply wpList_nil
    refine hK1 _ _ ?_
    refine wp_anyFrame 26 (by simp only [Act.size_put, hs1]) (by simp only [Act.defers_put', hd1]) fun a2 hs2 hd2 => ?_
    clear hK1 K1
    -- uscale.go:82: internal/strconv.uint64pow10
    apply wp_seq_k; intro K2 hK2
    apply wp_region_lit
    refine wpList_buildFlatArrTo rfl 184 144 20 _ rfl .u64 z0 (some 2) rfl (by as_aux_lemma => kernel_rfl) (by as_aux_lemma => kernel_rfl) (by as_aux_lemma => kernel_rfl) (by as_aux_lemma => kernel_rfl) ?_
    refine wpList_store_rowTo rfl 184 _ _ rfl rfl 0 (z0.map (Value.int .u64)).toArray rfl (Act.eval_put_same _ 2 _ (by simp only [Act.size_put, hs2]; omega)) 184 (oJ (varsStart Tryz.prog os tape) 0) (by as_aux_lemma => kernel_rfl) (by as_aux_lemma => kernel_rfl) (by as_aux_lemma => kernel_rfl) (by as_aux_lemma => kernel_rfl) ?_
    apply wpList_nil
    refine hK2 _ _ ?_
    refine wp_anyFrame 26 (by simp only [Act.size_put, hs2]) (by simp only [Act.defers_put', hd2]) fun a3 hs3 hd3 => ?_
    clear hK2 K2
    -- utf8.go:100: unicode/utf8.acceptRanges
    apply wp_seq_k; intro K3 hK3
    apply wp_region_lit
    refine wpList_buildTo rfl 468 _ rfl (some 3) rfl #[.int .u8 128, .int .u8 191] (by as_aux_lemma => kernel_rfl) ?_
    refine wpList_buildTo rfl 468 _ rfl (some 4) rfl #[.int .u8 160, .int .u8 191] (by as_aux_lemma => kernel_rfl) ?_
    refine wpList_buildTo rfl 468 _ rfl (some 5) rfl #[.int .u8 128, .int .u8 159] (by as_aux_lemma => kernel_rfl) ?_
    refine wpList_buildTo rfl 468 _ rfl (some 6) rfl #[.int .u8 144, .int .u8 191] (by as_aux_lemma => kernel_rfl) ?_
    refine wpList_buildTo rfl 468 _ rfl (some 7) rfl #[.int .u8 128, .int .u8 143] (by as_aux_lemma => kernel_rfl) ?_
    refine wpList_buildTo rfl 469 _ rfl (some 8) rfl xC ?_ ?_
    · simp only [List.map_toArray, List.map_cons, List.map_nil]
      rw [Act.eval_put_ne _ _ _ _ (by decide), Act.eval_put_ne _ _ _ _ (by decide), Act.eval_put_ne _ _ _ _ (by decide), Act.eval_put_ne _ _ _ _ (by decide), Act.eval_put_same _ 3 _ (by simp only [Act.size_put, hs3]; omega), Act.eval_put_ne _ _ _ _ (by decide), Act.eval_put_ne _ _ _ _ (by decide), Act.eval_put_ne _ _ _ _ (by decide), Act.eval_put_same _ 4 _ (by simp only [Act.size_put, hs3]; omega), Act.eval_put_ne _ _ _ _ (by decide), Act.eval_put_ne _ _ _ _ (by decide), Act.eval_put_same _ 5 _ (by simp only [Act.size_put, hs3]; omega), Act.eval_put_ne _ _ _ _ (by decide), Act.eval_put_same _ 6 _ (by simp only [Act.size_put, hs3]; omega), Act.eval_put_same _ 7 _ (by simp only [Act.size_put, hs3]; omega)]
      as_aux_lemma => kernel_rfl
    refine wpList_store_rowTo rfl 469 _ _ rfl rfl 10 xC rfl (Act.eval_put_same _ 8 _ (by simp only [Act.size_put, hs3]; omega)) 469 (oJ (varsStart Tryz.prog os tape) 10) (by as_aux_lemma => kernel_rfl) (by as_aux_lemma => kernel_rfl) (by as_aux_lemma => kernel_rfl) (by as_aux_lemma => kernel_rfl) ?_
    apply wpList_nil
    refine hK3 _ _ ?_
    refine wp_anyFrame 26 (by simp only [Act.size_put, hs3]) (by simp only [Act.defers_put', hd3]) fun a4 hs4 hd4 => ?_
    clear hK3 K3
    -- num.go:22: imageeditor/num.sines
    apply wp_seq_k; intro K4 hK4
    apply wp_region_lit
    refine wpList_buildFlatArrTo rfl 495 3 65 _ rfl .i64 z11 (some 9) rfl (by as_aux_lemma => kernel_rfl) (by as_aux_lemma => kernel_rfl) (by as_aux_lemma => kernel_rfl) (by as_aux_lemma => kernel_rfl) ?_
    refine wpList_store_rowTo rfl 495 _ _ rfl rfl 11 (z11.map (Value.int .i64)).toArray rfl (Act.eval_put_same _ 9 _ (by simp only [Act.size_put, hs4]; omega)) 495 (oJ (varsStart Tryz.prog os tape) 11) (by as_aux_lemma => kernel_rfl) (by as_aux_lemma => kernel_rfl) (by as_aux_lemma => kernel_rfl) (by as_aux_lemma => kernel_rfl) ?_
    apply wpList_nil
    refine hK4 _ _ ?_
    refine wp_anyFrame 26 (by simp only [Act.size_put, hs4]) (by simp only [Act.defers_put', hd4]) fun a5 hs5 hd5 => ?_
    clear hK4 K4
    -- blend.go:11: imageeditor/blend.names
    apply wp_seq_k; intro K5 hK5
    apply wp_region_lit
    refine wpList_buildTo rfl 404 _ rfl (some 10) rfl (c10 ((varsStart Tryz.prog os tape).heap.size)) ?_ ?_
    · simp only [List.map_toArray, List.map_cons, List.map_nil]
      as_aux_lemma => kernel_rfl
    refine wpList_store_rowTo rfl 404 _ _ rfl rfl 8 (c10 ((varsStart Tryz.prog os tape).heap.size)) rfl (Act.eval_put_same _ 10 _ (by simp only [Act.size_put, hs5]; omega)) 404 (oJ (varsStart Tryz.prog os tape) 8) (by as_aux_lemma => kernel_rfl) (by as_aux_lemma => kernel_rfl) (by as_aux_lemma => kernel_rfl) (by as_aux_lemma => kernel_rfl) ?_
    apply wpList_nil
    refine hK5 _ _ ?_
    refine wp_anyFrame 26 (by simp only [Act.size_put, hs5]) (by simp only [Act.defers_put', hd5]) fun a6 hs6 hd6 => ?_
    clear hK5 K5
    -- adjust.go:13: imageeditor/adjust.factors
    apply wp_seq_k; intro K6 hK6
    apply wp_region_lit
    refine wpList_buildFlatArrTo rfl 628 3 16 _ rfl .i64 z14 (some 11) rfl (by as_aux_lemma => kernel_rfl) (by as_aux_lemma => kernel_rfl) (by as_aux_lemma => kernel_rfl) (by as_aux_lemma => kernel_rfl) ?_
    refine wpList_store_rowTo rfl 628 _ _ rfl rfl 14 (z14.map (Value.int .i64)).toArray rfl (Act.eval_put_same _ 11 _ (by simp only [Act.size_put, hs6]; omega)) 628 (oJ (varsStart Tryz.prog os tape) 14) (by as_aux_lemma => kernel_rfl) (by as_aux_lemma => kernel_rfl) (by as_aux_lemma => kernel_rfl) (by as_aux_lemma => kernel_rfl) ?_
    apply wpList_nil
    refine hK6 _ _ ?_
    refine wp_anyFrame 26 (by simp only [Act.size_put, hs6]) (by simp only [Act.defers_put', hd6]) fun a7 hs7 hd7 => ?_
    clear hK6 K6
    -- number.go:246: strconv.ErrRange
    apply wp_seq_k; intro K7 hK7
    apply wp_region_lit
    refine wpList_callTo rfl (some 12) rfl 327 _ (by as_aux_lemma => kernel_rfl) _ _ (aFz ⟨#[118, 97, 108, 117, 101, 32, 111, 117, 116, 32, 111, 102, 32, 114, 97, 110, 103, 101]⟩ _ ((varsStart Tryz.prog os tape).heap.size + 0) (by as_aux_lemma => kernel_rfl)) ?_
    refine wpList_store_oneTo rfl 303 _ _ rfl rfl 7 (.iface 442 (.pointer (some ⟨(varsStart Tryz.prog os tape).heap.size + 0, 0, none⟩))) rfl (Act.eval_put_same _ 12 _ (by simp only [Act.size_put, hs7]; omega)) rfl 303 (vN (varsStart Tryz.prog os tape) 7) (by as_aux_lemma => kernel_rfl) (by as_aux_lemma => kernel_rfl) ?_
    apply wpList_nil
    refine hK7 _ _ ?_
    refine wp_anyFrame 26 (by simp only [Act.size_put, hs7]) (by simp only [Act.defers_put', hd7]) fun a8 hs8 hd8 => ?_
    clear hK7 K7
    -- number.go:249: strconv.ErrSyntax
    apply wp_seq_k; intro K8 hK8
    apply wp_region_lit
    refine wpList_callTo rfl (some 13) rfl 327 _ (by as_aux_lemma => kernel_rfl) _ _ (aFz ⟨#[105, 110, 118, 97, 108, 105, 100, 32, 115, 121, 110, 116, 97, 120]⟩ _ ((varsStart Tryz.prog os tape).heap.size + 1) (by as_aux_lemma => kernel_rfl)) ?_
    refine wpList_store_oneTo rfl 303 _ _ rfl rfl 6 (.iface 442 (.pointer (some ⟨(varsStart Tryz.prog os tape).heap.size + 1, 0, none⟩))) rfl (Act.eval_put_same _ 13 _ (by simp only [Act.size_put, hs8]; omega)) rfl 303 (vN (varsStart Tryz.prog os tape) 6) (by as_aux_lemma => kernel_rfl) (by as_aux_lemma => kernel_rfl) ?_
    apply wpList_nil
    refine hK8 _ _ ?_
    refine wp_anyFrame 26 (by simp only [Act.size_put, hs8]) (by simp only [Act.defers_put', hd8]) fun a9 hs9 hd9 => ?_
    clear hK8 K8
    -- tables.go:9029: unicode._White_Space
    apply wp_seq_k; intro K9 hK9
    apply wp_region_lit
    refine wpList_splitAt 7 (rgOps 391 "tables.go:9029" .u16 14 T15.r16.toList) (by as_aux_lemma => kernel_rfl) ?_
    refine wpList_rgs 391 "tables.go:9029" .u16 (fun _ _ _ => by as_aux_lemma => kernel_rfl) T15.r16.toList 14 _ (by simp only [Act.size_put, hs9]; exact Nat.le_of_ble_eq_true (by as_aux_lemma => kernel_rfl)) fun b9 hb9 hbd9 hev9 _ => ?_
    refine wpList_buildRgs rfl 385 391 _ .u16 T15.r16 rfl 14 ((varsStart Tryz.prog os tape).heap.size + 2) (by as_aux_lemma => kernel_rfl) (some 21) rfl (by as_aux_lemma => kernel_rfl) (by as_aux_lemma => kernel_rfl) (by as_aux_lemma => kernel_rfl) (by decide) (by decide) (by as_aux_lemma => kernel_rfl) hev9 ?_
    refine wpList_buildTo rfl 388 _ rfl (some 22) rfl #[.slice (some ⟨(varsStart Tryz.prog os tape).heap.size + 2, 0, none⟩) T15.r16.size T15.r16.size, .slice none 0 0, .int .i64 T15.off] ?_ ?_
    · simp only [List.map_toArray, List.map_cons, List.map_nil]
      rw [Act.eval_put_same _ 21 _ (by simp only [Act.size_put, hb9, hs9]; omega)]
      as_aux_lemma => kernel_rfl
    refine wpList_boxTo rfl 388 _ rfl (some 23) rfl ((varsStart Tryz.prog os tape).heap.size + 3) (by as_aux_lemma => kernel_rfl) #[.slice (some ⟨(varsStart Tryz.prog os tape).heap.size + 2, 0, none⟩) T15.r16.size T15.r16.size, .slice none 0 0, .int .i64 T15.off] (by rw [Act.eval_put_same _ 22 _ (by simp only [Act.size_put, hb9, hs9]; omega)]; rfl) ?_
    refine wpList_store_oneTo rfl 353 _ _ rfl rfl 15 (.pointer (some ⟨(varsStart Tryz.prog os tape).heap.size + 3, 0, none⟩)) rfl (Act.eval_put_same _ 23 _ (by simp only [Act.size_put, hb9, hs9]; omega)) rfl 353 (vN (varsStart Tryz.prog os tape) 15) (by as_aux_lemma => kernel_rfl) (by as_aux_lemma => kernel_rfl) ?_
    apply wpList_nil
    refine hK9 _ _ ?_
    refine wp_anyFrame 26 (by simp only [Act.size_put, hb9, hs9]) (by simp only [Act.defers_put', hbd9, hd9]) fun a10 hs10 hd10 => ?_
    clear hK9 K9
    -- tables.go:9082: unicode.White_Space
    apply wp_seq_k; intro K10 hK10
    apply wp_region_lit
    refine wpList_readTo rfl (some 24) rfl (.pointer (some ⟨(varsStart Tryz.prog os tape).heap.size + 3, 0, none⟩)) (by as_aux_lemma => kernel_rfl) ?_
    refine wpList_store_oneTo rfl 353 _ _ rfl rfl 5 (.pointer (some ⟨(varsStart Tryz.prog os tape).heap.size + 3, 0, none⟩)) rfl (Act.eval_put_same _ 24 _ (by simp only [Act.size_put, hs10]; omega)) rfl 353 (vN (varsStart Tryz.prog os tape) 5) (by as_aux_lemma => kernel_rfl) (by as_aux_lemma => kernel_rfl) ?_
    apply wpList_nil
    refine hK10 _ _ ?_
    refine wp_anyFrame 26 (by simp only [Act.size_put, hs10]) (by simp only [Act.defers_put', hd10]) fun a11 hs11 hd11 => ?_
    clear hK10 K10
    -- strings.go:358: strings.asciiSpace
    apply wp_region_lit
    refine wpList_buildTo rfl 332 _ rfl (some 25) rfl (z3.map (Value.int .u8)).toArray (by as_aux_lemma => kernel_rfl) ?_
    refine wpList_store_rowTo rfl 332 _ _ rfl rfl 3 (z3.map (Value.int .u8)).toArray rfl (Act.eval_put_same _ 25 _ (by simp only [Act.size_put, hs11]; omega)) 332 (oJ (varsStart Tryz.prog os tape) 3) (by as_aux_lemma => kernel_rfl) (by as_aux_lemma => kernel_rfl) (by as_aux_lemma => kernel_rfl) (by as_aux_lemma => kernel_rfl) ?_
    apply wpList_nil
    refine bodyPost_end0 rfl (by simp only [Act.defers_put', hd11]) ?_
    refine ⟨⟨_, rfl⟩, aLa _ (laidMet_memory (LaidIn.met (B := [1, 2, 0, 10, 11, 8, 14, 7, (varsStart Tryz.prog os tape).heap.size + 0, 6, (varsStart Tryz.prog os tape).heap.size + 1, 3] ++ ([5, (varsStart Tryz.prog os tape).heap.size + 3, (varsStart Tryz.prog os tape).heap.size + 2])) ?_))⟩
    unfold laidAll
    refine LaidIn.append (B := [1, 2, 0, 10, 11, 8, 14, 7, (varsStart Tryz.prog os tape).heap.size + 0, 6, (varsStart Tryz.prog os tape).heap.size + 1, 3]) (LaidIn.of_run [1, 2, 0, 10, 11, 8, 14, 7, (varsStart Tryz.prog os tape).heap.size + 0, 6, (varsStart Tryz.prog os tape).heap.size + 1, 3] 10 (by as_aux_lemma => kernel_rfl) (by as_aux_lemma => kernel_rfl) (by as_aux_lemma => kernel_rfl) (by as_aux_lemma => kernel_rfl)) ?_ (by as_aux_lemma => kernel_rfl)
    exact (laidIn_rtab16T (ρ := rho) rty rex (name := "unicode.White_Space") (g := 5) (by as_aux_lemma => kernel_rfl) (by as_aux_lemma => kernel_rfl) T15 ((varsStart Tryz.prog os tape).heap.size + 3) ((varsStart Tryz.prog os tape).heap.size + 2) 391 (by as_aux_lemma => kernel_rfl) (by as_aux_lemma => kernel_rfl) (by as_aux_lemma => kernel_rfl) (by as_aux_lemma => kernel_rfl) (by decide) (by decide) (of_decide_eq_true (by as_aux_lemma => kernel_rfl)))

end Go.Proofs.YthgfcpgjabodoaaGreatDoor.Great
