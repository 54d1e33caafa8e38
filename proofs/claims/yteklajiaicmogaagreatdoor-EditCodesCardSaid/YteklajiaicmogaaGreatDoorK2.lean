/-
  The walks through the codec, part 2.
-/
import Derived.Test.YteklajiaicmogaaGreatDoorK1
set_option linter.unusedVariables false
set_option linter.unusedSimpArgs false
set_option maxRecDepth 100000
namespace Go.Proofs.YteklajiaicmogaaGreatDoor
open Go Go.AM
theorem hY {S0 S : AH} {A : Nat → Prop} {ks : List Kd} {x : Nat → Value} {c : Nat → CT} (px : Pts A S0 ks x c) (js : List Nat) (hj : js.all (fun j => oW ks[j]?) = true) (h0 : js ≠ []) {K m : Nat} {ex : Bool} (hg : S.tr.get K = some (.cells (js.map fun k => Value.int .i64 (iv (c k))) 1 ex)) (hlt : K < S.nx) (hl : js.length ≤ 1000) (hm : m = js.length) : XCall Tryz.prog 75 [.slice (some ⟨2 * K + 1, 0, none⟩) m m] S fun v H' => v = .string ⟨⟨aA (js.map .i) c⟩⟩ ∧ Kept S.nx S H' := by
 rw [jM, ← lV]
 exact aIi (A := fun j => j < S.nx) (fun _ h => h) (rS (ns := js.map fun k => iv (c k)) (by rw [List.map_map]; rfl) hg hlt (yI px hj) (by rw [List.length_map]; exact hl) (by rw [List.length_map]; exact hm)) (by simp [hU, h0]) (by simp [hU]; omega)
theorem jK {S0 S : AH} {A : Nat → Prop} {ks : List Kd} {x : Nat → Value} {c : Nat → CT} (px : Pts A S0 ks x c) (js : List Nat) (hj : js.all (fun j => oW ks[j]?) = true) (h0 : js ≠ []) {K m : Nat} {ex : Bool} (hg : S.tr.get K = some (.cells (js.map fun k => Value.int .i64 (iv (c k))) 1 ex)) (hlt : K < S.nx) (hl : js.length ≤ 1000) (hm : m = js.length) : XCall Tryz.prog 37 [.slice (some ⟨2 * K + 1, 0, none⟩) m m] S fun v H' => v = .string ⟨⟨aA (js.map .i) c⟩⟩ ∧ Kept S.nx S H' := by
 rw [jM, ← lV]
 exact xU (A := fun j => j < S.nx) (fun _ h => h) (rS (ns := js.map fun k => iv (c k)) (by rw [List.map_map]; rfl) hg hlt (yI px hj) (by rw [List.length_map]; exact hl) (by rw [List.length_map]; exact hm)) (by simp [hU, h0]) (by simp [hU]; omega)
theorem aVg {S : AH} {n : Int} (hn : I64 n) {K : Nat} {ex : Bool} (hg : S.tr.get K = some (.cells [.int .i64 n] 1 ex)) (hlt : K < S.nx) : XCall Tryz.prog 37 [.slice (some ⟨2 * K + 1, 0, none⟩) 1 1] S fun v H' => v = .string ⟨⟨bO n⟩⟩ ∧ Kept S.nx S H' := by
 have e : bO n = eJ (hU [n]) := by simp [eJ, hU, gY]
 rw [e]
 exact xU (A := fun j => j < S.nx) (fun _ h => h) (rS (ns := [n]) rfl hg hlt (fun m hm => by rw [List.mem_singleton] at hm; subst hm; exact hn) (by simp) rfl) (by simp [hU]) (by simp [hU])
theorem aMx {S : AH} {c : Nat → CT} (js : List Nat) (h0 : js ≠ []) {K m : Nat} {ex : Bool} (hg : S.tr.get K = some (.cells (js.map fun k => Value.bool (bv (c k))) 1 ex)) (hlt : K < S.nx) (hl : js.length ≤ 1000) (hm : m = js.length) : XCall Tryz.prog 76 [.slice (some ⟨2 * K + 1, 0, none⟩) m m] S fun v H' => v = .string ⟨⟨aA (js.map .b) c⟩⟩ ∧ Kept S.nx S H' := by
 rw [wP, ← xM]
 exact aNw (A := fun j => j < S.nx) (fun _ h => h) (aLx (ns := js.map fun k => bv (c k)) (by rw [List.map_map]; rfl) hg hlt (by rw [List.length_map]; exact hl) (by rw [List.length_map]; exact hm)) (by simp [tM, h0]) (by simp [tM]; omega)
theorem aGv {S : AH} {A : Nat → Prop} (hA : ∀ j, A j → j < S.nx) {w h : Int} {f : Nat → Value} {l : List (List CT)} (h0 : f 0 = .int .i64 w) (h1 : f 1 = .int .i64 h) (hx : CellA A S (.row 8 [.int .i64]) (f 2) (.row l)) (hv : ckE iI w h l = 0) : XCall Tryz.prog 39 [.agg ⟨cellsOf 3 f⟩] S fun v H' => v = .string ⟨⟨qU w h l⟩⟩ ∧ Kept S.nx S H' := by
 rw [show cellsOf 3 f = [f 0, f 1, f 2] from rfl, h0, h1]
 exact aNz hA hx hv
theorem aCg {S : AH} {A : Nat → Prop} (hA : ∀ j, A j → j < S.nx) {w h : Int} {f : Nat → Value} {l : List (List CT)} (h0 : f 0 = .int .i64 w) (h1 : f 1 = .int .i64 h) (hx : CellA A S (.row 32 kP) (f 2) (.row l)) (hv : ckE kV w h l = 0) : XCall Tryz.prog 40 [.agg ⟨cellsOf 3 f⟩] S fun v H' => v = .string ⟨⟨qT w h l⟩⟩ ∧ Kept S.nx S H' := by
 rw [show cellsOf 3 f = [f 0, f 1, f 2] from rfl, h0, h1]
 exact aNb hA hx hv
end Go.Proofs.YteklajiaicmogaaGreatDoor
namespace Go.Proofs.YteklajiaicmogaaGreatDoor
open Go Go.AM
def kNode : List Kd := [.int .i64, .int .i64, .int .i64, .str, .bool, .bool, .bool, .int .i64, .int .i64, .int .i64, .int .i64, .row 8 [.int .i64], .int .i64, .int .i64, .int .i64, .int .i64, .int .i64, .int .i64, .int .i64, .int .i64, .int .i64, .row 32 [.int .i64, .int .i64, .int .i64, .int .i64], .int .i64, .int .i64, .int .i64, .int .i64, .int .i64, .row 8 [.int .i64], .int .i64, .row 40 [.int .i64, .int .i64, .int .i64, .int .i64, .int .i64], .row 56 [.int .i64, .int .i64, .int .i64, .int .i64, .int .i64, .int .i64, .int .i64], .int .i64, .int .i64, .int .i64, .int .i64, .str, .int .i64, .int .i64, .int .i64, .int .i64, .int .i64, .int .i64, .row 16 [.int .i64, .int .i64]]
def vF : List Kd := [.int .i64, .int .i64, .int .i64, .int .i64, .int .i64]
def aGi : List Kd := [.int .i64, .int .i64, .int .i64, .int .i64, .int .i64, .int .i64, .int .i64]
def stopIts : List Item := [.i 0, .i 1, .i 2, .i 3, .i 4]
def segIts : List Item := [.i 0, .i 1, .i 2, .i 3, .i 4, .i 5, .i 6]
def shapeIts : List Item := [.rows 29 stopIts, .rows 30 segIts]
set_option maxHeartbeats 2000000 in
theorem aLh {S : AH} {A : Nat → Prop} (hA : ∀ j, A j → j < S.nx) {x : Nat → Value} {c : Nat → CT} (px : Pts A S kNode x c) (hB : (aA shapeIts c).length ≤ 1073741824) : XCall Tryz.prog 78 [.agg ⟨cellsOf 43 x⟩] S fun v H' => v = .string ⟨⟨aA shapeIts c⟩⟩ ∧ Kept S.nx S H' := by
 obtain ⟨l29, a29, c29, e29, hx29, r29⟩ := (px 29 _ rfl).rowD
 obtain ⟨l30, a30, c30, e30, hx30, r30⟩ := (px 30 _ rfl).rowD
 have hv29 : rv (c 29) = l29 := by rw [e29]; rfl
 have hb29 := r29.len
 have hv30 : rv (c 30) = l30 := by rw [e30]; rfl
 have hb30 := r30.len
 refine bN (E := E) (n := 72) (rs := [.tmp 2]) (l := [(0, _)]) (aQ Tryz.func78 rfl rfl rfl) hA rfl ?_
 refine rB <| cZ rfl rfl nM rfl ?_
 intro N1
 refine oa rfl <| rC <| bR (cs := [.pointer none, .slice none 0 0]) rfl rfl nM mI rfl rfl ?_
 intro N3
 rw [uX]
 refine rC <| fo 29 V38 nX rfl <| lB rfl V32 hx29 ?_
 refine ll rfl V32 <| oc iZ oV (fun H hH => eA (n := l29.length) (by omega)) ?_
 refine ot (bld TB N3 0 ([])) (fun u Lo => u = .tuple ⟨[.int .i64 (((aF l29.length).length : Nat) : Int), .nilIface]⟩ ∧ ∃ M2, Lo = bld TB N3 M2 ([] ++ aF l29.length)) cW oV (fun H hH => cV (s := ⟨⟨aF l29.length⟩⟩) (cQ _) (by have := bU (n := l29.length) (by omega); show 0 + (aF l29.length).length ≤ _; omega) (hH.have fun p hp => by repeat (first | exact hp | exact List.mem_append_left _ hp | apply List.mem_cons_of_mem)) (hH.dist.sublist sW)) ?_
 rintro _ _ ⟨rfl, M2, rfl⟩
 rw [show [] ++ aF l29.length = aA (shapeIts.take 0) c ++ aF l29.length from (by simp [aA])]
 refine tq <| rB <| fo 29 V38 nX rfl <| lB rfl V32 hx29 ?_
 refine ll rfl V32 <| om rfl <| aB <| aK <| fZ (L' := bld TB N3 M2 (aA (shapeIts.take 0) c ++ aF l29.length ++ aL stopIts (l29.take 0)) ++ [(N1, .cells (cellsOf 43 x) (cI E 38) true)]) (by rw [show aA (shapeIts.take 0) c ++ aF l29.length ++ aL stopIts (l29.take 0) = aA (shapeIts.take 0) c ++ aF l29.length by simp [aL]]; try exact List.Perm.refl _) ?_
 refine bK (σ := Nat × Nat) (fun x => l29.length - x.2) (fun x => [(1, .pointer (some ⟨2 * N1 + 1, 0, none⟩)), (3, .pointer (some ⟨2 * N3 + 1, 0, none⟩)), (16, .slice a29 l29.length c29), (17, .int .i64 ((l29.length : Nat) : Int)), (18, .int .i64 ((x.2 : Nat) : Int))]) (fun _ => S) (fun _ => A) (fun z => bld TB N3 z.1 (aA (shapeIts.take 0) c ++ aF l29.length ++ aL stopIts (l29.take z.2)) ++ [(N1, .cells (cellsOf 43 x) (cI E 38) true)]) (fun x => x.2 ≤ l29.length) ((M2, 0)) ((Nat.zero_le _)) pK rfl rfl (List.Sublist.refl _) ?_
 intro st hJ2 t1
 obtain ⟨M1, k⟩ := st
 dsimp only at hJ2 ⊢
 refine aH ?_
 rcases Nat.lt_or_ge k l29.length with hk | hk
 ·obtain ⟨qS, usS, dS, rfl, ixS, hcS, lxS, kxS⟩ := r29.at' k hk
  obtain ⟨yS, eS, rfl, rfl, pyS⟩ := kxS.fn (n := 5) rfl
  refine rA <| ob rfl (by exact aX (by omega)) ?_
  refine tq <| aO rfl <| aJ <| aD <| aH <| aK <| rB <| bH rfl rfl rfl rfl V32 lP rfl (by omega) ?_
  refine aV rfl rfl rfl (by exact cS rR rfl lP rfl (InA.add ixS) lxS) ?_
  refine bR (cs := (.int .i64 0 :: .int .i64 0 :: .int .i64 0 :: .int .i64 0 :: .int .i64 0 :: [])) rfl rfl nM lP rfl rfl ?_
  intro N5
  refine bX rfl nM rfl rfl lP (by exact aU _ _) (CellsA.one kxS) uP (by exact cF rfl) (by exact cH rfl rfl) nM ?_
  refine rD <| fo 0 rR aI rfl <| lB rfl V3 (bG pyS rfl) ?_
  refine fo 1 rR bL rfl <| fo 1 V31 aI rfl <| lB rfl V3 (bG pyS rfl) ?_
  refine fo 1 rR bL rfl <| fo 2 V31 aI rfl <| lB rfl V3 (bG pyS rfl) ?_
  refine fo 1 rR bL rfl <| fo 3 V31 aI rfl <| lB rfl V3 (bG pyS rfl) ?_
  refine fo 1 rR bL rfl <| fo 4 V31 aI rfl <| lB rfl V3 (bG pyS rfl) ?_
  refine aM (out := [0, 1, 2, 3, 4].map fun k => Value.int .i64 (iv (eS k))) rfl rfl nM oP V22 aI rfl rfl (by kernel_rfl) rfl rfl ?_
  intro N36
  refine oc oI oV (fun H hH => hY (ex := true) pyS [0, 1, 2, 3, 4] rfl (by simp) (hH.own (N36, _) mA).1 (hH.own (N36, _) mA).2.2.1 (by simp) rfl) ?_
  refine ot (bld TB N3 M1 (aA (shapeIts.take 0) c ++ aF l29.length ++ aL stopIts (l29.take k))) (fun u Lo => u = .tuple ⟨[.int .i64 (((aA ([0, 1, 2, 3, 4].map .i) eS).length : Nat) : Int), .nilIface]⟩ ∧ ∃ M2, Lo = bld TB N3 M2 (aA (shapeIts.take 0) c ++ aF l29.length ++ aL stopIts (l29.take k) ++ aA ([0, 1, 2, 3, 4].map .i) eS)) cW oV (fun H hH => cV (s := ⟨⟨aA ([0, 1, 2, 3, 4].map .i) eS⟩⟩) (cJ _) (fits (by rw [← dO (n := 5) [0, 1, 2, 3, 4] rfl]; exact fG (s2 := []) (r1 := [.rows 30 segIts]) (l1 := []) rfl hv29 hcS rfl) hB) (hH.have fun p hp => by repeat (first | exact hp | exact List.mem_append_left _ hp | apply List.mem_cons_of_mem)) (hH.dist.sublist sW)) ?_
  rintro _ _ ⟨rfl, M2, rfl⟩
  rw [show aA (shapeIts.take 0) c ++ aF l29.length ++ aL stopIts (l29.take k) ++ aA ([0, 1, 2, 3, 4].map .i) eS = aA (shapeIts.take 0) c ++ aF l29.length ++ aL stopIts (l29.take (k + 1)) from (by rw [← dO (n := 5) [0, 1, 2, 3, 4] rfl, List.append_assoc]; exact congrArg _ (dN hcS))]
  refine aZ <| bA <| aD <| rA <| ob rfl (by exact aY (by omega)) ?_
  refine om rfl <| aZ ?_
  refine rd' (M2, k + 1) (show l29.length - (k + 1) < l29.length - k by omega) (show k + 1 ≤ l29.length by omega)
 ·obtain rfl : k = l29.length := by omega
  rw [iB (l3 := shapeIts.take 1) hv29 rfl]
  refine rA <| ob rfl (by exact aW (by omega)) ?_
  refine tq <| aG rfl <| bJ <| aR <| aS <| aN <| aD <| rB <| fo 30 V38 lN rfl <| lB rfl V33 hx30 ?_
  refine ll rfl V33 <| oc iZ oV (fun H hH => eA (n := l30.length) (by omega)) ?_
  refine ot (bld TB N3 M1 (aA (shapeIts.take 1) c)) (fun u Lo => u = .tuple ⟨[.int .i64 (((aF l30.length).length : Nat) : Int), .nilIface]⟩ ∧ ∃ M2, Lo = bld TB N3 M2 (aA (shapeIts.take 1) c ++ aF l30.length)) cW oV (fun H hH => cV (s := ⟨⟨aF l30.length⟩⟩) (cQ _) (fits (gN (r1 := []) rfl hv30) hB) (hH.have fun p hp => by repeat (first | exact hp | exact List.mem_append_left _ hp | apply List.mem_cons_of_mem)) (hH.dist.sublist sW)) ?_
  rintro _ _ ⟨rfl, M2, rfl⟩
  refine tq <| rB <| fo 30 V38 lN rfl <| lB rfl V33 hx30 ?_
  refine ll rfl V33 <| om rfl <| aB <| aK <| fZ (L' := bld TB N3 M2 (aA (shapeIts.take 1) c ++ aF l30.length ++ aL segIts (l30.take 0)) ++ [(N1, .cells (cellsOf 43 x) (cI E 38) true)]) (by rw [show aA (shapeIts.take 1) c ++ aF l30.length ++ aL segIts (l30.take 0) = aA (shapeIts.take 1) c ++ aF l30.length by simp [aL]]; try exact List.Perm.refl _) ?_
  refine bK (σ := Nat × Nat) (fun x => l30.length - x.2) (fun x => [(3, .pointer (some ⟨2 * N3 + 1, 0, none⟩)), (46, .slice a30 l30.length c30), (47, .int .i64 ((l30.length : Nat) : Int)), (48, .int .i64 ((x.2 : Nat) : Int))]) (fun _ => S) (fun _ => A) (fun x => bld TB N3 x.1 (aA (shapeIts.take 1) c ++ aF l30.length ++ aL segIts (l30.take x.2))) (fun x => x.2 ≤ l30.length) ((M2, 0)) ((Nat.zero_le _)) pK rfl rfl (List.sublist_append_left _ _) ?_
  intro st hJ2 t2
  obtain ⟨M1, k⟩ := st
  dsimp only at hJ2 ⊢
  refine aH ?_
  rcases Nat.lt_or_ge k l30.length with hk | hk
  ·obtain ⟨qG, usG, dG, rfl, ixG, hcG, lxG, kxG⟩ := r30.at' k hk
   obtain ⟨yG, eG, rfl, rfl, pyG⟩ := kxG.fn (n := 7) rfl
   refine rA <| ob rfl (by exact aX (by omega)) ?_
   refine tq <| aO rfl <| aJ <| aD <| aH <| aK <| rB <| bH rfl rfl rfl rfl V33 iE rfl (by omega) ?_
   refine aV rfl rfl rfl (by exact cS oG rfl iE rfl (InA.add ixG) lxG) ?_
   refine bR (cs := (.int .i64 0 :: .int .i64 0 :: .int .i64 0 :: .int .i64 0 :: .int .i64 0 :: .int .i64 0 :: .int .i64 0 :: [])) rfl rfl nM iE rfl rfl ?_
   intro N7
   refine bX rfl nM rfl rfl iE (by exact aU _ _) (CellsA.one kxG) uP (by exact cF rfl) (by exact cH rfl rfl) nM ?_
   refine rC <| fo 0 oG aI rfl <| lB rfl V3 (bG pyG rfl) ?_
   refine aM (out := [0].map fun k => Value.int .i64 (iv (eG k))) rfl rfl nM oP V22 aI rfl rfl (by kernel_rfl) rfl rfl ?_
   intro N54
   refine oc oI oV (fun H hH => hY (ex := true) pyG [0] rfl (by simp) (hH.own (N54, _) mA).1 (hH.own (N54, _) mA).2.2.1 (by simp) rfl) ?_
   refine ot (bld TB N3 M1 (aA (shapeIts.take 1) c ++ aF l30.length ++ aL segIts (l30.take k))) (fun u Lo => u = .tuple ⟨[.int .i64 (((aA ([0].map .i) eG).length : Nat) : Int), .nilIface]⟩ ∧ ∃ M2, Lo = bld TB N3 M2 (aA (shapeIts.take 1) c ++ aF l30.length ++ aL segIts (l30.take k) ++ aA ([0].map .i) eG)) cW oV (fun H hH => cV (s := ⟨⟨aA ([0].map .i) eG⟩⟩) (cJ _) (fits (by rw [← dO (n := 7) [0] rfl]; exact (fG (r1 := []) (l1 := shapeIts.take 1) (s1 := ([0, 1, 2, 3, 4, 5, 6].take 1).map .i) (s2 := [1, 2, 3, 4, 5, 6].map .i) rfl hv30 hcG rfl)) hB) (hH.have fun p hp => by repeat (first | exact hp | exact List.mem_append_left _ hp | apply List.mem_cons_of_mem)) (hH.dist.sublist sW)) ?_
   rintro _ _ ⟨rfl, M2, rfl⟩
   rw [show aA (shapeIts.take 1) c ++ aF l30.length ++ aL segIts (l30.take k) ++ aA ([0].map .i) eG = aA (shapeIts.take 1) c ++ aF l30.length ++ aL segIts (l30.take k) ++ aA (([0, 1, 2, 3, 4, 5, 6].take (1 + 2 * 0)).map .i) eG from rfl]
   refine rC <| fo 1 oG lF rfl <| lC rfl tD lF ?_
   refine om rfl <| aB <| aK ?_
   refine bK (σ := Nat × Nat) (fun x => 3 - x.2) (fun x => [(3, .pointer (some ⟨2 * N3 + 1, 0, none⟩)), (46, .slice (some qG) l30.length c30), (47, .int .i64 ((l30.length : Nat) : Int)), (48, .int .i64 ((k : Nat) : Int)), (58, .agg ⟨cellsOf 6 fun i => yG (1 + i)⟩), (59, .int .i64 ((x.2 : Nat) : Int))]) (fun _ => S) (fun _ => A) (fun x => bld TB N3 x.1 (aA (shapeIts.take 1) c ++ aF l30.length ++ aL segIts (l30.take k) ++ aA (([0, 1, 2, 3, 4, 5, 6].take (1 + 2 * x.2)).map .i) eG)) (fun x => x.2 ≤ 3) ((M2, 0)) ((Nat.zero_le _)) pK rfl rfl sU ?_
   intro st hJ2 t3
   obtain ⟨M3, j⟩ := st
   dsimp only at hJ2 ⊢
   refine aH ?_
   rcases (show j = 0 ∨ j = 1 ∨ j = 2 ∨ j = 3 by omega) with rfl | rfl | rfl | rfl
   ·refine rA <| ob rfl (by exact aX (by omega)) ?_
    refine tq <| aO rfl <| aJ <| aD <| aH <| aK <| rB <| aDa (cs := cellsOf 6 fun i => yG (1 + i)) (j := 0) (u := .agg ⟨[.int .i64 (iv (eG 1)), .int .i64 (iv (eG 2))]⟩) rfl rfl rfl rfl tD eB (by decide) ((show apart E 44 (cellsOf 6 fun i => yG (1 + i)) 0 = some (.agg ⟨[yG 1, yG 2]⟩) by kernel_rfl).trans (by rw [bG pyG (i := 1) rfl, bG pyG (i := 2) rfl])) ?_
    refine bR (cs := (.int .i64 0 :: .int .i64 0 :: [])) rfl rfl nM eB rfl rfl ?_
    intro N9
    refine bX rfl nM rfl rfl eB (by rfl) rfl uP (by exact fS rfl) (by exact Nat.le_of_ble_eq_true rfl) nM ?_
    refine rD <| fo 0 V44 aI rfl <| lG rfl V3 ?_
    refine fo 1 V44 aI rfl <| lG rfl V3 ?_
    refine aM (out := [1, 2].map fun k => Value.int .i64 (iv (eG k))) rfl rfl nM oP V22 aI rfl rfl (by kernel_rfl) rfl rfl ?_
    intro N66
    refine oc oI oV (fun H hH => hY (ex := true) pyG [1, 2] rfl (by simp) (hH.own (N66, _) mA).1 (hH.own (N66, _) mA).2.2.1 (by simp) rfl) ?_
    refine ot (bld TB N3 M3 (aA (shapeIts.take 1) c ++ aF l30.length ++ aL segIts (l30.take k) ++ aA (([0, 1, 2, 3, 4, 5, 6].take (1 + 2 * 0)).map .i) eG)) (fun u Lo => u = .tuple ⟨[.int .i64 (((aA ([1, 2].map .i) eG).length : Nat) : Int), .nilIface]⟩ ∧ ∃ M2, Lo = bld TB N3 M2 (aA (shapeIts.take 1) c ++ aF l30.length ++ aL segIts (l30.take k) ++ aA (([0, 1, 2, 3, 4, 5, 6].take (1 + 2 * 0)).map .i) eG ++ aA ([1, 2].map .i) eG)) cW oV (fun H hH => cV (s := ⟨⟨aA ([1, 2].map .i) eG⟩⟩) (cJ _) (fits (by rw [List.append_assoc, bT (l3 := ([0, 1, 2, 3, 4, 5, 6].take (1 + 2 * 1)).map .i) rfl, ← dO (n := 7) _ rfl]; exact (fG (r1 := []) (l1 := shapeIts.take 1) (s1 := ([0, 1, 2, 3, 4, 5, 6].take (1 + 2 * 1)).map .i) (s2 := ([0, 1, 2, 3, 4, 5, 6].drop (1 + 2 * 1)).map .i) rfl hv30 hcG rfl)) hB) (hH.have fun p hp => by repeat (first | exact hp | exact List.mem_append_left _ hp | apply List.mem_cons_of_mem)) (hH.dist.sublist sW)) ?_
    rintro _ _ ⟨rfl, M2, rfl⟩
    rw [show aA (shapeIts.take 1) c ++ aF l30.length ++ aL segIts (l30.take k) ++ aA (([0, 1, 2, 3, 4, 5, 6].take (1 + 2 * 0)).map .i) eG ++ aA ([1, 2].map .i) eG = aA (shapeIts.take 1) c ++ aF l30.length ++ aL segIts (l30.take k) ++ aA (([0, 1, 2, 3, 4, 5, 6].take (1 + 2 * 1)).map .i) eG from (by rw [List.append_assoc, bT (l3 := ([0, 1, 2, 3, 4, 5, 6].take (1 + 2 * 1)).map .i) rfl])]
    refine aZ <| bA <| aD <| rA <| ob rfl (by exact aY (by omega)) ?_
    refine om rfl <| aZ ?_
    refine rd' (M2, 1) (show 3 - 1 < 3 - 0 by omega) (show 1 ≤ 3 by omega)
   ·refine rA <| ob rfl (by exact aX (by omega)) ?_
    refine tq <| aO rfl <| aJ <| aD <| aH <| aK <| rB <| aDa (cs := cellsOf 6 fun i => yG (1 + i)) (j := 1) (u := .agg ⟨[.int .i64 (iv (eG 3)), .int .i64 (iv (eG 4))]⟩) rfl rfl rfl rfl tD eB (by decide) ((show apart E 44 (cellsOf 6 fun i => yG (1 + i)) 2 = some (.agg ⟨[yG 3, yG 4]⟩) by kernel_rfl).trans (by rw [bG pyG (i := 3) rfl, bG pyG (i := 4) rfl])) ?_
    refine bR (cs := (.int .i64 0 :: .int .i64 0 :: [])) rfl rfl nM eB rfl rfl ?_
    intro N9
    refine bX rfl nM rfl rfl eB (by rfl) rfl uP (by exact fS rfl) (by exact Nat.le_of_ble_eq_true rfl) nM ?_
    refine rD <| fo 0 V44 aI rfl <| lG rfl V3 ?_
    refine fo 1 V44 aI rfl <| lG rfl V3 ?_
    refine aM (out := [3, 4].map fun k => Value.int .i64 (iv (eG k))) rfl rfl nM oP V22 aI rfl rfl (by kernel_rfl) rfl rfl ?_
    intro N66
    refine oc oI oV (fun H hH => hY (ex := true) pyG [3, 4] rfl (by simp) (hH.own (N66, _) mA).1 (hH.own (N66, _) mA).2.2.1 (by simp) rfl) ?_
    refine ot (bld TB N3 M3 (aA (shapeIts.take 1) c ++ aF l30.length ++ aL segIts (l30.take k) ++ aA (([0, 1, 2, 3, 4, 5, 6].take (1 + 2 * 1)).map .i) eG)) (fun u Lo => u = .tuple ⟨[.int .i64 (((aA ([3, 4].map .i) eG).length : Nat) : Int), .nilIface]⟩ ∧ ∃ M2, Lo = bld TB N3 M2 (aA (shapeIts.take 1) c ++ aF l30.length ++ aL segIts (l30.take k) ++ aA (([0, 1, 2, 3, 4, 5, 6].take (1 + 2 * 1)).map .i) eG ++ aA ([3, 4].map .i) eG)) cW oV (fun H hH => cV (s := ⟨⟨aA ([3, 4].map .i) eG⟩⟩) (cJ _) (fits (by rw [List.append_assoc, bT (l3 := ([0, 1, 2, 3, 4, 5, 6].take (1 + 2 * 2)).map .i) rfl, ← dO (n := 7) _ rfl]; exact (fG (r1 := []) (l1 := shapeIts.take 1) (s1 := ([0, 1, 2, 3, 4, 5, 6].take (1 + 2 * 2)).map .i) (s2 := ([0, 1, 2, 3, 4, 5, 6].drop (1 + 2 * 2)).map .i) rfl hv30 hcG rfl)) hB) (hH.have fun p hp => by repeat (first | exact hp | exact List.mem_append_left _ hp | apply List.mem_cons_of_mem)) (hH.dist.sublist sW)) ?_
    rintro _ _ ⟨rfl, M2, rfl⟩
    rw [show aA (shapeIts.take 1) c ++ aF l30.length ++ aL segIts (l30.take k) ++ aA (([0, 1, 2, 3, 4, 5, 6].take (1 + 2 * 1)).map .i) eG ++ aA ([3, 4].map .i) eG = aA (shapeIts.take 1) c ++ aF l30.length ++ aL segIts (l30.take k) ++ aA (([0, 1, 2, 3, 4, 5, 6].take (1 + 2 * 2)).map .i) eG from (by rw [List.append_assoc, bT (l3 := ([0, 1, 2, 3, 4, 5, 6].take (1 + 2 * 2)).map .i) rfl])]
    refine aZ <| bA <| aD <| rA <| ob rfl (by exact aY (by omega)) ?_
    refine om rfl <| aZ ?_
    refine rd' (M2, 2) (show 3 - 2 < 3 - 1 by omega) (show 2 ≤ 3 by omega)
   ·refine rA <| ob rfl (by exact aX (by omega)) ?_
    refine tq <| aO rfl <| aJ <| aD <| aH <| aK <| rB <| aDa (cs := cellsOf 6 fun i => yG (1 + i)) (j := 2) (u := .agg ⟨[.int .i64 (iv (eG 5)), .int .i64 (iv (eG 6))]⟩) rfl rfl rfl rfl tD eB (by decide) ((show apart E 44 (cellsOf 6 fun i => yG (1 + i)) 4 = some (.agg ⟨[yG 5, yG 6]⟩) by kernel_rfl).trans (by rw [bG pyG (i := 5) rfl, bG pyG (i := 6) rfl])) ?_
    refine bR (cs := (.int .i64 0 :: .int .i64 0 :: [])) rfl rfl nM eB rfl rfl ?_
    intro N9
    refine bX rfl nM rfl rfl eB (by rfl) rfl uP (by exact fS rfl) (by exact Nat.le_of_ble_eq_true rfl) nM ?_
    refine rD <| fo 0 V44 aI rfl <| lG rfl V3 ?_
    refine fo 1 V44 aI rfl <| lG rfl V3 ?_
    refine aM (out := [5, 6].map fun k => Value.int .i64 (iv (eG k))) rfl rfl nM oP V22 aI rfl rfl (by kernel_rfl) rfl rfl ?_
    intro N66
    refine oc oI oV (fun H hH => hY (ex := true) pyG [5, 6] rfl (by simp) (hH.own (N66, _) mA).1 (hH.own (N66, _) mA).2.2.1 (by simp) rfl) ?_
    refine ot (bld TB N3 M3 (aA (shapeIts.take 1) c ++ aF l30.length ++ aL segIts (l30.take k) ++ aA (([0, 1, 2, 3, 4, 5, 6].take (1 + 2 * 2)).map .i) eG)) (fun u Lo => u = .tuple ⟨[.int .i64 (((aA ([5, 6].map .i) eG).length : Nat) : Int), .nilIface]⟩ ∧ ∃ M2, Lo = bld TB N3 M2 (aA (shapeIts.take 1) c ++ aF l30.length ++ aL segIts (l30.take k) ++ aA (([0, 1, 2, 3, 4, 5, 6].take (1 + 2 * 2)).map .i) eG ++ aA ([5, 6].map .i) eG)) cW oV (fun H hH => cV (s := ⟨⟨aA ([5, 6].map .i) eG⟩⟩) (cJ _) (fits (by rw [List.append_assoc, bT (l3 := ([0, 1, 2, 3, 4, 5, 6].take (1 + 2 * 3)).map .i) rfl, ← dO (n := 7) _ rfl]; exact (fG (r1 := []) (l1 := shapeIts.take 1) (s1 := ([0, 1, 2, 3, 4, 5, 6].take (1 + 2 * 3)).map .i) (s2 := ([0, 1, 2, 3, 4, 5, 6].drop (1 + 2 * 3)).map .i) rfl hv30 hcG rfl)) hB) (hH.have fun p hp => by repeat (first | exact hp | exact List.mem_append_left _ hp | apply List.mem_cons_of_mem)) (hH.dist.sublist sW)) ?_
    rintro _ _ ⟨rfl, M2, rfl⟩
    rw [show aA (shapeIts.take 1) c ++ aF l30.length ++ aL segIts (l30.take k) ++ aA (([0, 1, 2, 3, 4, 5, 6].take (1 + 2 * 2)).map .i) eG ++ aA ([5, 6].map .i) eG = aA (shapeIts.take 1) c ++ aF l30.length ++ aL segIts (l30.take k) ++ aA (([0, 1, 2, 3, 4, 5, 6].take (1 + 2 * 3)).map .i) eG from (by rw [List.append_assoc, bT (l3 := ([0, 1, 2, 3, 4, 5, 6].take (1 + 2 * 3)).map .i) rfl])]
    refine aZ <| bA <| aD <| rA <| ob rfl (by exact aY (by omega)) ?_
    refine om rfl <| aZ ?_
    refine rd' (M2, 3) (show 3 - 3 < 3 - 2 by omega) (show 3 ≤ 3 by omega)
   ·rw [show aA (shapeIts.take 1) c ++ aF l30.length ++ aL segIts (l30.take k) ++ aA (([0, 1, 2, 3, 4, 5, 6].take (1 + 2 * 3)).map .i) eG = aA (shapeIts.take 1) c ++ aF l30.length ++ aL segIts (l30.take (k + 1)) by rw [← dO (n := 7) _ rfl, List.append_assoc]; exact congrArg _ (dN hcG)]
    refine rA <| ob rfl (by exact aW (by omega)) ?_
    refine tq <| aG rfl <| bJ <| aR <| aS <| aN <| bA <| aD <| rA <| ob rfl (by exact aY (by omega)) ?_
    refine om rfl <| aZ ?_
    refine rd' (M3, k + 1) (show l30.length - (k + 1) < l30.length - k by omega) (show k + 1 ≤ l30.length by omega)
  ·obtain rfl : k = l30.length := by omega
   rw [iB (l3 := shapeIts) hv30 rfl]
   refine rA <| ob rfl (by exact aW (by omega)) ?_
   refine tq <| aG rfl <| bJ <| aR <| aS <| aN <| aD <| rB <| ot (bld TB N3 M1 (aA shapeIts c)) (fun u Lo => u = .string ⟨⟨aA shapeIts c⟩⟩) tF oV (fun H hH => tL (cJ _) (by omega) (hH.have fun p hp => by repeat (first | exact hp | exact List.mem_append_left _ hp | apply List.mem_cons_of_mem)) (hH.dist.sublist sW)) ?_
   rintro _ _ rfl
   refine oa rfl <| aB <| aT <| aE (.tmp rfl .nil) ?_
   exact fun H hH => ⟨rfl, hH.kept⟩
end Go.Proofs.YteklajiaicmogaaGreatDoor
namespace Go.Proofs.YteklajiaicmogaaGreatDoor
open Go Go.AM
theorem aFb {c : Nat → CT} {k B : Nat} (h : (bB (.ints k) c).length ≤ B) (hB : B ≤ 1073741824) : (rv (c k)).length ≤ 1073741824 := by
 rw [bB, List.length_append] at h
 have h2 : ∀ l : List (List CT), l.length ≤ (eJ l).length := fun l => by
  induction l with
  | nil => simp
  | cons a l ih =>
   have := List.length_pos_iff.2 (mF (gY a))
   simp only [eJ, List.flatMap_cons, List.length_append, List.length_cons] at ih ⊢
   omega
 have := h2 (rv (c k)); omega
def ptIts : List Item := [.i 0, .i 1]
def nodeIts : List Item := [.i 0, .i 1, .i 2, .t 3, .b 4, .b 5, .b 6, .i 7, .i 8, .msk 9, .i 12, .i 13, .i 14, .i 15, .i 16, .i 17, .i 18, .img 19, .i 22, .i 23, .i 24, .i 25, .i 26, .ints 27, .i 28, .rows 29 stopIts, .rows 30 segIts, .i 31, .i 32, .i 33, .i 34, .t 35, .i 36, .i 37, .i 38, .i 39, .i 40, .i 41, .rows 42 ptIts]
set_option maxHeartbeats 4000000 in
theorem aNr {S : AH} {A : Nat → Prop} (hA : ∀ j, A j → j < S.nx) {x : Nat → Value} {c : Nat → CT} (px : Pts A S kNode x c) (hm9 : ckE iI (iv (c 9)) (iv (c 10)) (rv (c 11)) = 0) (hm19 : ckE kV (iv (c 19)) (iv (c 20)) (rv (c 21)) = 0) (hB : (aA nodeIts c).length ≤ 1073741824) : XCall Tryz.prog 38 [.agg ⟨cellsOf 43 x⟩] S fun v H' => v = .string ⟨⟨aA nodeIts c⟩⟩ ∧ Kept S.nx S H' := by
 obtain ⟨l42, a42, c42, e42, hx42, r42⟩ := (px 42 _ rfl).rowD
 have hv42 : rv (c 42) = l42 := by rw [e42]; rfl
 have hb42 := r42.len
 refine bN (E := E) (n := 151) (rs := [.tmp 2]) (l := [(0, _)]) (aQ Tryz.func38 rfl rfl rfl) hA rfl ?_
 refine rB <| cZ rfl rfl nM rfl ?_
 intro N1
 refine oa rfl <| rC <| bR (cs := [.pointer none, .slice none 0 0]) rfl rfl nM mI rfl rfl ?_
 intro N3
 rw [uX]
 refine rC <| fo 0 V38 aI rfl <| lB rfl V3 (bG px (i := 0) rfl) ?_
 refine fo 1 V38 aI rfl <| lB rfl V3 (bG px (i := 1) rfl) ?_
 refine fo 2 V38 aI rfl <| lB rfl V3 (bG px (i := 2) rfl) ?_
 refine aM (out := [0, 1, 2].map fun k => Value.int .i64 (iv (c k))) rfl rfl nM oP V22 aI rfl rfl (by kernel_rfl) rfl rfl ?_
 intro N12
 refine oc oI oV (fun H hH => hY (ex := true) px [0, 1, 2] rfl (by simp) (hH.own (N12, _) mA).1 (hH.own (N12, _) mA).2.2.1 (by simp) rfl) ?_
 refine ot (bld TB N3 0 ([])) (fun u Lo => u = .tuple ⟨[.int .i64 (((aA ([0, 1, 2].map .i) c).length : Nat) : Int), .nilIface]⟩ ∧ ∃ M2, Lo = bld TB N3 M2 ([] ++ aA ([0, 1, 2].map .i) c)) cW oV (fun H hH => cV (s := ⟨⟨aA ([0, 1, 2].map .i) c⟩⟩) (cJ _) (fits (w := []) (by rw [List.nil_append]; exact mG (its := nodeIts) (c := c) 3) hB) (hH.have fun p hp => by repeat (first | exact hp | exact List.mem_append_left _ hp | apply List.mem_cons_of_mem)) (hH.dist.sublist sW)) ?_
 rintro _ _ ⟨rfl, M2, rfl⟩
 rw [show [] ++ aA ([0, 1, 2].map .i) c = aA (nodeIts.take 3) c from (by rw [List.nil_append]; rfl)]
 refine eU gO nM ?_
 refine rC <| fo 3 V38 gJ rfl <| lB rfl V9 (tA px (i := 3) rfl) ?_
 refine oc aGs oV (fun H hH => vQ (s := ⟨⟨tv (c 3)⟩⟩) (by have := uR (c := c) (its := nodeIts) (a := .t 3) (by simp [nodeIts]); rw [bB, fJ, List.length_append] at this; show (tv (c 3)).length ≤ _; omega)) ?_
 refine ot (bld TB N3 M2 (aA (nodeIts.take 3) c)) (fun u Lo => u = .tuple ⟨[.int .i64 (((bB (.t 3) c).length : Nat) : Int), .nilIface]⟩ ∧ ∃ M2, Lo = bld TB N3 M2 (aA (nodeIts.take 3) c ++ bB (.t 3) c)) cW oV (fun H hH => cV (s := ⟨⟨bB (.t 3) c⟩⟩) (jS _ _) (fits (cA (l1 := nodeIts.take 3) (a := .t 3) 4 rfl) hB) (hH.have fun p hp => by repeat (first | exact hp | exact List.mem_append_left _ hp | apply List.mem_cons_of_mem)) (hH.dist.sublist sW)) ?_
 rintro _ _ ⟨rfl, M2, rfl⟩
 rw [show aA (nodeIts.take 3) c ++ bB (.t 3) c = aA (nodeIts.take 4) c from bC rfl]
 refine rC <| fo 4 V38 lR rfl <| lB rfl V4 (aBs px (i := 4) rfl) ?_
 refine fo 5 V38 lR rfl <| lB rfl V4 (aBs px (i := 5) rfl) ?_
 refine fo 6 V38 lR rfl <| lB rfl V4 (aBs px (i := 6) rfl) ?_
 refine aM (out := [4, 5, 6].map fun k => Value.bool (bv (c k))) rfl rfl nM oP aXa lR rfl rfl (by kernel_rfl) rfl rfl ?_
 intro N25
 refine oc has76 oV (fun H hH => aMx (c := c) (ex := true) [4, 5, 6] (by simp) (hH.own (N25, _) mA).1 (hH.own (N25, _) mA).2.2.1 (by simp) rfl) ?_
 refine ot (bld TB N3 M2 (aA (nodeIts.take 4) c)) (fun u Lo => u = .tuple ⟨[.int .i64 (((aA ([4, 5, 6].map .b) c).length : Nat) : Int), .nilIface]⟩ ∧ ∃ M2, Lo = bld TB N3 M2 (aA (nodeIts.take 4) c ++ aA ([4, 5, 6].map .b) c)) cW oV (fun H hH => cV (s := ⟨⟨aA ([4, 5, 6].map .b) c⟩⟩) (cJ _) (fits (fA (l1 := nodeIts.take 4) (l2 := [4, 5, 6].map .b) 7 rfl) hB) (hH.have fun p hp => by repeat (first | exact hp | exact List.mem_append_left _ hp | apply List.mem_cons_of_mem)) (hH.dist.sublist sW)) ?_
 rintro _ _ ⟨rfl, M2, rfl⟩
 rw [show aA (nodeIts.take 4) c ++ aA ([4, 5, 6].map .b) c = aA (nodeIts.take 7) c from bT rfl]
 refine eU gO nM ?_
 refine rC <| fo 7 V38 aI rfl <| lB rfl V3 (bG px (i := 7) rfl) ?_
 refine fo 8 V38 aI rfl <| lB rfl V3 (bG px (i := 8) rfl) ?_
 refine aM (out := [7, 8].map fun k => Value.int .i64 (iv (c k))) rfl rfl nM oP V22 aI rfl rfl (by kernel_rfl) rfl rfl ?_
 intro N32
 refine oc oI oV (fun H hH => hY (ex := true) px [7, 8] rfl (by simp) (hH.own (N32, _) mA).1 (hH.own (N32, _) mA).2.2.1 (by simp) rfl) ?_
 refine ot (bld TB N3 M2 (aA (nodeIts.take 7) c)) (fun u Lo => u = .tuple ⟨[.int .i64 (((aA ([7, 8].map .i) c).length : Nat) : Int), .nilIface]⟩ ∧ ∃ M2, Lo = bld TB N3 M2 (aA (nodeIts.take 7) c ++ aA ([7, 8].map .i) c)) cW oV (fun H hH => cV (s := ⟨⟨aA ([7, 8].map .i) c⟩⟩) (cJ _) (fits (fA (l1 := nodeIts.take 7) (l2 := [7, 8].map .i) 9 rfl) hB) (hH.have fun p hp => by repeat (first | exact hp | exact List.mem_append_left _ hp | apply List.mem_cons_of_mem)) (hH.dist.sublist sW)) ?_
 rintro _ _ ⟨rfl, M2, rfl⟩
 rw [show aA (nodeIts.take 7) c ++ aA ([7, 8].map .i) c = aA (nodeIts.take 9) c from bT rfl]
 refine eU gO nM ?_
 refine rC <| fo 9 V38 fI rfl <| lC rfl V24 fI ?_
 refine oc aVr oV (fun H hH => aGv (f := fun i => x (9 + i)) hH.lt (bG px (i := 9) rfl) (bG px (i := 10) rfl) (CellA.gr hH.gr _ (x 11) _ (kY px (i := 11) rfl)) hm9) ?_
 refine ot (bld TB N3 M2 (aA (nodeIts.take 9) c)) (fun u Lo => u = .tuple ⟨[.int .i64 (((bB (.msk 9) c).length : Nat) : Int), .nilIface]⟩ ∧ ∃ M2, Lo = bld TB N3 M2 (aA (nodeIts.take 9) c ++ bB (.msk 9) c)) cW oV (fun H hH => cV (s := ⟨⟨bB (.msk 9) c⟩⟩) (jS _ _) (fits (cA (l1 := nodeIts.take 9) (a := .msk 9) 10 rfl) hB) (hH.have fun p hp => by repeat (first | exact hp | exact List.mem_append_left _ hp | apply List.mem_cons_of_mem)) (hH.dist.sublist sW)) ?_
 rintro _ _ ⟨rfl, M2, rfl⟩
 rw [show aA (nodeIts.take 9) c ++ bB (.msk 9) c = aA (nodeIts.take 10) c from bC rfl]
 refine rC <| fo 12 V38 jN rfl <| fo 12 V26 aI rfl <| lB rfl V3 (bG px (i := 12) rfl) ?_
 refine fo 12 V38 jN rfl <| fo 13 V26 aI rfl <| lB rfl V3 (bG px (i := 13) rfl) ?_
 refine fo 12 V38 jN rfl <| fo 14 V26 aI rfl <| lB rfl V3 (bG px (i := 14) rfl) ?_
 refine fo 12 V38 jN rfl <| fo 15 V26 aI rfl <| lB rfl V3 (bG px (i := 15) rfl) ?_
 refine fo 12 V38 jN rfl <| fo 16 V26 aI rfl <| lB rfl V3 (bG px (i := 16) rfl) ?_
 refine fo 12 V38 jN rfl <| fo 17 V26 aI rfl <| lB rfl V3 (bG px (i := 17) rfl) ?_
 refine fo 18 V38 aI rfl <| lB rfl V3 (bG px (i := 18) rfl) ?_
 refine aM (out := [12, 13, 14, 15, 16, 17, 18].map fun k => Value.int .i64 (iv (c k))) rfl rfl nM oP V22 aI rfl rfl (by kernel_rfl) rfl rfl ?_
 intro N59
 refine oc oI oV (fun H hH => hY (ex := true) px [12, 13, 14, 15, 16, 17, 18] rfl (by simp) (hH.own (N59, _) mA).1 (hH.own (N59, _) mA).2.2.1 (by simp) rfl) ?_
 refine ot (bld TB N3 M2 (aA (nodeIts.take 10) c)) (fun u Lo => u = .tuple ⟨[.int .i64 (((aA ([12, 13, 14, 15, 16, 17, 18].map .i) c).length : Nat) : Int), .nilIface]⟩ ∧ ∃ M2, Lo = bld TB N3 M2 (aA (nodeIts.take 10) c ++ aA ([12, 13, 14, 15, 16, 17, 18].map .i) c)) cW oV (fun H hH => cV (s := ⟨⟨aA ([12, 13, 14, 15, 16, 17, 18].map .i) c⟩⟩) (cJ _) (fits (fA (l1 := nodeIts.take 10) (l2 := [12, 13, 14, 15, 16, 17, 18].map .i) 17 rfl) hB) (hH.have fun p hp => by repeat (first | exact hp | exact List.mem_append_left _ hp | apply List.mem_cons_of_mem)) (hH.dist.sublist sW)) ?_
 rintro _ _ ⟨rfl, M2, rfl⟩
 rw [show aA (nodeIts.take 10) c ++ aA ([12, 13, 14, 15, 16, 17, 18].map .i) c = aA (nodeIts.take 17) c from bT rfl]
 refine eU gO nM ?_
 refine rC <| fo 19 V38 fH rfl <| lC rfl V29 fH ?_
 refine oc aVx oV (fun H hH => aCg (f := fun i => x (19 + i)) hH.lt (bG px (i := 19) rfl) (bG px (i := 20) rfl) (CellA.gr hH.gr (.row 32 kP) (x 21) _ (kY px (i := 21) rfl)) hm19) ?_
 refine ot (bld TB N3 M2 (aA (nodeIts.take 17) c)) (fun u Lo => u = .tuple ⟨[.int .i64 (((bB (.img 19) c).length : Nat) : Int), .nilIface]⟩ ∧ ∃ M2, Lo = bld TB N3 M2 (aA (nodeIts.take 17) c ++ bB (.img 19) c)) cW oV (fun H hH => cV (s := ⟨⟨bB (.img 19) c⟩⟩) (jS _ _) (fits (cA (l1 := nodeIts.take 17) (a := .img 19) 18 rfl) hB) (hH.have fun p hp => by repeat (first | exact hp | exact List.mem_append_left _ hp | apply List.mem_cons_of_mem)) (hH.dist.sublist sW)) ?_
 rintro _ _ ⟨rfl, M2, rfl⟩
 rw [show aA (nodeIts.take 17) c ++ bB (.img 19) c = aA (nodeIts.take 18) c from bC rfl]
 refine rC <| fo 22 V38 bL rfl <| fo 22 V31 aI rfl <| lB rfl V3 (bG px (i := 22) rfl) ?_
 refine fo 22 V38 bL rfl <| fo 23 V31 aI rfl <| lB rfl V3 (bG px (i := 23) rfl) ?_
 refine fo 22 V38 bL rfl <| fo 24 V31 aI rfl <| lB rfl V3 (bG px (i := 24) rfl) ?_
 refine fo 22 V38 bL rfl <| fo 25 V31 aI rfl <| lB rfl V3 (bG px (i := 25) rfl) ?_
 refine fo 26 V38 aI rfl <| lB rfl V3 (bG px (i := 26) rfl) ?_
 refine aM (out := [22, 23, 24, 25, 26].map fun k => Value.int .i64 (iv (c k))) rfl rfl nM oP V22 aI rfl rfl (by kernel_rfl) rfl rfl ?_
 intro N80
 refine oc oI oV (fun H hH => hY (ex := true) px [22, 23, 24, 25, 26] rfl (by simp) (hH.own (N80, _) mA).1 (hH.own (N80, _) mA).2.2.1 (by simp) rfl) ?_
 refine ot (bld TB N3 M2 (aA (nodeIts.take 18) c)) (fun u Lo => u = .tuple ⟨[.int .i64 (((aA ([22, 23, 24, 25, 26].map .i) c).length : Nat) : Int), .nilIface]⟩ ∧ ∃ M2, Lo = bld TB N3 M2 (aA (nodeIts.take 18) c ++ aA ([22, 23, 24, 25, 26].map .i) c)) cW oV (fun H hH => cV (s := ⟨⟨aA ([22, 23, 24, 25, 26].map .i) c⟩⟩) (cJ _) (fits (fA (l1 := nodeIts.take 18) (l2 := [22, 23, 24, 25, 26].map .i) 23 rfl) hB) (hH.have fun p hp => by repeat (first | exact hp | exact List.mem_append_left _ hp | apply List.mem_cons_of_mem)) (hH.dist.sublist sW)) ?_
 rintro _ _ ⟨rfl, M2, rfl⟩
 rw [show aA (nodeIts.take 18) c ++ aA ([22, 23, 24, 25, 26].map .i) c = aA (nodeIts.take 23) c from bT rfl]
 refine eU gO nM ?_
 refine rC <| fo 27 V38 eI rfl <| lA rfl V22 ?_
 refine oc has77 oV (fun H hH => aUp hH.lt (CellA.gr hH.gr _ _ _ (kY px (i := 27) rfl)) (aFb (uR (c := c) (its := nodeIts) (a := .ints 27) (by simp [nodeIts])) hB)) ?_
 refine ot (bld TB N3 M2 (aA (nodeIts.take 23) c)) (fun u Lo => u = .tuple ⟨[.int .i64 (((bB (.ints 27) c).length : Nat) : Int), .nilIface]⟩ ∧ ∃ M2, Lo = bld TB N3 M2 (aA (nodeIts.take 23) c ++ bB (.ints 27) c)) cW oV (fun H hH => cV (s := ⟨⟨bB (.ints 27) c⟩⟩) (jS _ _) (fits (cA (l1 := nodeIts.take 23) (a := .ints 27) 24 rfl) hB) (hH.have fun p hp => by repeat (first | exact hp | exact List.mem_append_left _ hp | apply List.mem_cons_of_mem)) (hH.dist.sublist sW)) ?_
 rintro _ _ ⟨rfl, M2, rfl⟩
 rw [show aA (nodeIts.take 23) c ++ bB (.ints 27) c = aA (nodeIts.take 24) c from bC rfl]
 refine rC <| fo 28 V38 aI rfl <| lB rfl V3 (bG px (i := 28) rfl) ?_
 refine aM (out := [28].map fun k => Value.int .i64 (iv (c k))) rfl rfl nM oP V22 aI rfl rfl (by kernel_rfl) rfl rfl ?_
 intro N89
 refine oc oI oV (fun H hH => hY (ex := true) px [28] rfl (by simp) (hH.own (N89, _) mA).1 (hH.own (N89, _) mA).2.2.1 (by simp) rfl) ?_
 refine ot (bld TB N3 M2 (aA (nodeIts.take 24) c)) (fun u Lo => u = .tuple ⟨[.int .i64 (((aA ([28].map .i) c).length : Nat) : Int), .nilIface]⟩ ∧ ∃ M2, Lo = bld TB N3 M2 (aA (nodeIts.take 24) c ++ aA ([28].map .i) c)) cW oV (fun H hH => cV (s := ⟨⟨aA ([28].map .i) c⟩⟩) (cJ _) (fits (fA (l1 := nodeIts.take 24) (l2 := [28].map .i) 25 rfl) hB) (hH.have fun p hp => by repeat (first | exact hp | exact List.mem_append_left _ hp | apply List.mem_cons_of_mem)) (hH.dist.sublist sW)) ?_
 rintro _ _ ⟨rfl, M2, rfl⟩
 rw [show aA (nodeIts.take 24) c ++ aA ([28].map .i) c = aA (nodeIts.take 25) c from bT rfl]
 refine eU gO nM ?_
 refine rC <| aV rfl rfl rfl (by exact bV V38 rfl fU rfl mA (by exact bQ rfl) (by exact bZ)) ?_
 refine oc has78 oV (fun H hH => aLh hH.lt (px.gr hH.gr) (Nat.le_trans (yH (its := nodeIts) (l1 := nodeIts.take 25) (l3 := nodeIts.drop 27) rfl) hB)) ?_
 refine ot (bld TB N3 M2 (aA (nodeIts.take 25) c)) (fun u Lo => u = .tuple ⟨[.int .i64 (((aA shapeIts c).length : Nat) : Int), .nilIface]⟩ ∧ ∃ M2, Lo = bld TB N3 M2 (aA (nodeIts.take 25) c ++ aA shapeIts c)) cW oV (fun H hH => cV (s := ⟨⟨aA shapeIts c⟩⟩) (cJ _) (fits (fA (l1 := nodeIts.take 25) (l2 := shapeIts) 27 rfl) hB) (hH.have fun p hp => by repeat (first | exact hp | exact List.mem_append_left _ hp | apply List.mem_cons_of_mem)) (hH.dist.sublist sW)) ?_
 rintro _ _ ⟨rfl, M2, rfl⟩
 rw [show aA (nodeIts.take 25) c ++ aA shapeIts c = aA (nodeIts.take 27) c from bT rfl]
 refine rC <| fo 31 V38 aI rfl <| lB rfl V3 (bG px (i := 31) rfl) ?_
 refine fo 32 V38 aI rfl <| lB rfl V3 (bG px (i := 32) rfl) ?_
 refine fo 33 V38 aI rfl <| lB rfl V3 (bG px (i := 33) rfl) ?_
 refine fo 34 V38 aI rfl <| lB rfl V3 (bG px (i := 34) rfl) ?_
 refine aM (out := [31, 32, 33, 34].map fun k => Value.int .i64 (iv (c k))) rfl rfl nM oP V22 aI rfl rfl (by kernel_rfl) rfl rfl ?_
 intro N103
 refine oc oI oV (fun H hH => hY (ex := true) px [31, 32, 33, 34] rfl (by simp) (hH.own (N103, _) mA).1 (hH.own (N103, _) mA).2.2.1 (by simp) rfl) ?_
 refine ot (bld TB N3 M2 (aA (nodeIts.take 27) c)) (fun u Lo => u = .tuple ⟨[.int .i64 (((aA ([31, 32, 33, 34].map .i) c).length : Nat) : Int), .nilIface]⟩ ∧ ∃ M2, Lo = bld TB N3 M2 (aA (nodeIts.take 27) c ++ aA ([31, 32, 33, 34].map .i) c)) cW oV (fun H hH => cV (s := ⟨⟨aA ([31, 32, 33, 34].map .i) c⟩⟩) (cJ _) (fits (fA (l1 := nodeIts.take 27) (l2 := [31, 32, 33, 34].map .i) 31 rfl) hB) (hH.have fun p hp => by repeat (first | exact hp | exact List.mem_append_left _ hp | apply List.mem_cons_of_mem)) (hH.dist.sublist sW)) ?_
 rintro _ _ ⟨rfl, M2, rfl⟩
 rw [show aA (nodeIts.take 27) c ++ aA ([31, 32, 33, 34].map .i) c = aA (nodeIts.take 31) c from bT rfl]
 refine eU gO nM ?_
 refine rC <| fo 35 V38 gJ rfl <| lB rfl V9 (tA px (i := 35) rfl) ?_
 refine oc aGs oV (fun H hH => vQ (s := ⟨⟨tv (c 35)⟩⟩) (by have := uR (c := c) (its := nodeIts) (a := .t 35) (by simp [nodeIts]); rw [bB, fJ, List.length_append] at this; show (tv (c 35)).length ≤ _; omega)) ?_
 refine ot (bld TB N3 M2 (aA (nodeIts.take 31) c)) (fun u Lo => u = .tuple ⟨[.int .i64 (((bB (.t 35) c).length : Nat) : Int), .nilIface]⟩ ∧ ∃ M2, Lo = bld TB N3 M2 (aA (nodeIts.take 31) c ++ bB (.t 35) c)) cW oV (fun H hH => cV (s := ⟨⟨bB (.t 35) c⟩⟩) (jS _ _) (fits (cA (l1 := nodeIts.take 31) (a := .t 35) 32 rfl) hB) (hH.have fun p hp => by repeat (first | exact hp | exact List.mem_append_left _ hp | apply List.mem_cons_of_mem)) (hH.dist.sublist sW)) ?_
 rintro _ _ ⟨rfl, M2, rfl⟩
 rw [show aA (nodeIts.take 31) c ++ bB (.t 35) c = aA (nodeIts.take 32) c from bC rfl]
 refine rC <| fo 36 V38 aI rfl <| lB rfl V3 (bG px (i := 36) rfl) ?_
 refine fo 37 V38 aI rfl <| lB rfl V3 (bG px (i := 37) rfl) ?_
 refine fo 38 V38 aI rfl <| lB rfl V3 (bG px (i := 38) rfl) ?_
 refine fo 39 V38 gU rfl <| fo 39 V36 aI rfl <| lB rfl V3 (bG px (i := 39) rfl) ?_
 refine fo 39 V38 gU rfl <| fo 40 V36 aI rfl <| lB rfl V3 (bG px (i := 40) rfl) ?_
 refine fo 39 V38 gU rfl <| fo 41 V36 aI rfl <| lB rfl V3 (bG px (i := 41) rfl) ?_
 refine aM (out := [36, 37, 38, 39, 40, 41].map fun k => Value.int .i64 (iv (c k))) rfl rfl nM oP V22 aI rfl rfl (by kernel_rfl) rfl rfl ?_
 intro N125
 refine oc oI oV (fun H hH => hY (ex := true) px [36, 37, 38, 39, 40, 41] rfl (by simp) (hH.own (N125, _) mA).1 (hH.own (N125, _) mA).2.2.1 (by simp) rfl) ?_
 refine ot (bld TB N3 M2 (aA (nodeIts.take 32) c)) (fun u Lo => u = .tuple ⟨[.int .i64 (((aA ([36, 37, 38, 39, 40, 41].map .i) c).length : Nat) : Int), .nilIface]⟩ ∧ ∃ M2, Lo = bld TB N3 M2 (aA (nodeIts.take 32) c ++ aA ([36, 37, 38, 39, 40, 41].map .i) c)) cW oV (fun H hH => cV (s := ⟨⟨aA ([36, 37, 38, 39, 40, 41].map .i) c⟩⟩) (cJ _) (fits (fA (l1 := nodeIts.take 32) (l2 := [36, 37, 38, 39, 40, 41].map .i) 38 rfl) hB) (hH.have fun p hp => by repeat (first | exact hp | exact List.mem_append_left _ hp | apply List.mem_cons_of_mem)) (hH.dist.sublist sW)) ?_
 rintro _ _ ⟨rfl, M2, rfl⟩
 rw [show aA (nodeIts.take 32) c ++ aA ([36, 37, 38, 39, 40, 41].map .i) c = aA (nodeIts.take 38) c from bT rfl]
 refine eU gO nM ?_
 refine rC <| fo 39 V38 gU rfl <| fo 42 V36 oC rfl <| lB rfl V34 hx42 ?_
 refine ll rfl V34 <| oc iZ oV (fun H hH => eA (n := l42.length) (by omega)) ?_
 refine ot (bld TB N3 M2 (aA (nodeIts.take 38) c)) (fun u Lo => u = .tuple ⟨[.int .i64 (((aF l42.length).length : Nat) : Int), .nilIface]⟩ ∧ ∃ M2, Lo = bld TB N3 M2 (aA (nodeIts.take 38) c ++ aF l42.length)) cW oV (fun H hH => cV (s := ⟨⟨aF l42.length⟩⟩) (cQ _) (fits (gN (l1 := nodeIts.take 38) (r1 := nodeIts.drop 39) rfl hv42) hB) (hH.have fun p hp => by repeat (first | exact hp | exact List.mem_append_left _ hp | apply List.mem_cons_of_mem)) (hH.dist.sublist sW)) ?_
 rintro _ _ ⟨rfl, M2, rfl⟩
 refine tq <| rB <| fo 39 V38 gU rfl <| fo 42 V36 oC rfl <| lB rfl V34 hx42 ?_
 refine ll rfl V34 <| om rfl <| aB <| aK <| fZ (L' := bld TB N3 M2 (aA (nodeIts.take 38) c ++ aF l42.length ++ aL ptIts (l42.take 0)) ++ [(N1, .cells (cellsOf 43 x) (cI E 38) true)]) (by rw [show aA (nodeIts.take 38) c ++ aF l42.length ++ aL ptIts (l42.take 0) = aA (nodeIts.take 38) c ++ aF l42.length by simp [aL]]; try exact List.Perm.refl _) ?_
 refine bK (σ := Nat × Nat) (fun x => l42.length - x.2) (fun x => [(1, .pointer (some ⟨2 * N1 + 1, 0, none⟩)), (3, .pointer (some ⟨2 * N3 + 1, 0, none⟩)), (136, .slice a42 l42.length c42), (137, .int .i64 ((l42.length : Nat) : Int)), (138, .int .i64 ((x.2 : Nat) : Int))]) (fun _ => S) (fun _ => A) (fun z => bld TB N3 z.1 (aA (nodeIts.take 38) c ++ aF l42.length ++ aL ptIts (l42.take z.2)) ++ [(N1, .cells (cellsOf 43 x) (cI E 38) true)]) (fun x => x.2 ≤ l42.length) ((M2, 0)) ((Nat.zero_le _)) pK rfl rfl (List.Sublist.refl _) ?_
 intro st hJ2 t1
 obtain ⟨M1, k⟩ := st
 dsimp only at hJ2 ⊢
 refine aH ?_
 rcases Nat.lt_or_ge k l42.length with hk | hk
 ·obtain ⟨qR, usR, dR, rfl, ixR, hcR, lxR, kxR⟩ := r42.at' k hk
  obtain ⟨yR, eR, rfl, rfl, pyR⟩ := kxR.fn (n := 2) rfl
  refine rA <| ob rfl (by exact aX (by omega)) ?_
  refine tq <| aO rfl <| aJ <| aD <| aH <| aK <| rB <| bH rfl rfl rfl rfl V34 eB rfl (by omega) ?_
  refine aV rfl rfl rfl (by exact cS V44 rfl eB rfl (InA.add ixR) lxR) ?_
  refine bR (cs := (.int .i64 0 :: .int .i64 0 :: [])) rfl rfl nM eB rfl rfl ?_
  intro N5
  refine bX rfl nM rfl rfl eB (by exact aU _ _) (CellsA.one kxR) uP (by exact cF rfl) (by exact cH rfl rfl) nM ?_
  refine rD <| fo 0 V44 aI rfl <| lB rfl V3 (bG pyR rfl) ?_
  refine fo 1 V44 aI rfl <| lB rfl V3 (bG pyR rfl) ?_
  refine aM (out := [0, 1].map fun k => Value.int .i64 (iv (eR k))) rfl rfl nM oP V22 aI rfl rfl (by kernel_rfl) rfl rfl ?_
  intro N146
  refine oc oI oV (fun H hH => hY (ex := true) pyR [0, 1] rfl (by simp) (hH.own (N146, _) mA).1 (hH.own (N146, _) mA).2.2.1 (by simp) rfl) ?_
  refine ot (bld TB N3 M1 (aA (nodeIts.take 38) c ++ aF l42.length ++ aL ptIts (l42.take k))) (fun u Lo => u = .tuple ⟨[.int .i64 (((aA ([0, 1].map .i) eR).length : Nat) : Int), .nilIface]⟩ ∧ ∃ M2, Lo = bld TB N3 M2 (aA (nodeIts.take 38) c ++ aF l42.length ++ aL ptIts (l42.take k) ++ aA ([0, 1].map .i) eR)) cW oV (fun H hH => cV (s := ⟨⟨aA ([0, 1].map .i) eR⟩⟩) (cJ _) (fits (by rw [← dO (n := 2) [0, 1] rfl]; exact fG (s2 := []) (r1 := nodeIts.drop 39) (l1 := nodeIts.take 38) rfl hv42 hcR rfl) hB) (hH.have fun p hp => by repeat (first | exact hp | exact List.mem_append_left _ hp | apply List.mem_cons_of_mem)) (hH.dist.sublist sW)) ?_
  rintro _ _ ⟨rfl, M2, rfl⟩
  rw [show aA (nodeIts.take 38) c ++ aF l42.length ++ aL ptIts (l42.take k) ++ aA ([0, 1].map .i) eR = aA (nodeIts.take 38) c ++ aF l42.length ++ aL ptIts (l42.take (k + 1)) from (by rw [← dO (n := 2) [0, 1] rfl, List.append_assoc]; exact congrArg _ (dN hcR))]
  refine aZ <| bA <| aD <| rA <| ob rfl (by exact aY (by omega)) ?_
  refine om rfl <| aZ ?_
  refine rd' (M2, k + 1) (show l42.length - (k + 1) < l42.length - k by omega) (show k + 1 ≤ l42.length by omega)
 ·obtain rfl : k = l42.length := by omega
  rw [iB (l3 := nodeIts.take 39) hv42 rfl]
  refine rA <| ob rfl (by exact aW (by omega)) ?_
  refine tq <| aG rfl <| bJ <| aR <| aS <| aN <| aD <| rB <| ot (bld TB N3 M1 (aA nodeIts c)) (fun u Lo => u = .string ⟨⟨aA nodeIts c⟩⟩) tF oV (fun H hH => tL (cJ _) (by omega) (hH.have fun p hp => by repeat (first | exact hp | exact List.mem_append_left _ hp | apply List.mem_cons_of_mem)) (hH.dist.sublist sW)) ?_
  rintro _ _ rfl
  refine oa rfl <| aB <| aT <| aE (.tmp rfl .nil) ?_
  exact fun H hH => ⟨rfl, hH.kept⟩
end Go.Proofs.YteklajiaicmogaaGreatDoor
namespace Go.Proofs.YteklajiaicmogaaGreatDoor
open Go Go.AM
def kBrush : List Kd := [.int .i64, .int .i64, .int .i64, .int .i64, .int .i64, .int .i64, .int .i64, .int .i64, .int .i64, .int .i64, .int .i64, .int .i64, .int .i64, .int .i64, .row 40 [.int .i64, .int .i64, .row 16 [.int .i64, .int .i64]], .bool]
def dynIts : List Item := [.i 0, .i 1, .rows 2 ptIts]
def brushIts : List Item := [.i 0, .i 1, .i 2, .i 3, .i 4, .i 5, .i 6, .i 7, .i 8, .i 9, .i 10, .i 11, .i 12, .i 13, .rows 14 dynIts, .bi 15]
set_option maxHeartbeats 4000000 in
theorem aMp {S : AH} {A : Nat → Prop} (hA : ∀ j, A j → j < S.nx) {x : Nat → Value} {c : Nat → CT} (px : Pts A S kBrush x c) (hB : (aA brushIts c).length ≤ 1073741824) : XCall Tryz.prog 41 [.agg ⟨cellsOf 16 x⟩] S fun v H' => v = .string ⟨⟨aA brushIts c⟩⟩ ∧ Kept S.nx S H' := by
 obtain ⟨l14, a14, c14, e14, hx14, r14⟩ := (px 14 _ rfl).rowD
 have hv14 : rv (c 14) = l14 := by rw [e14]; rfl
 have hb14 := r14.len
 refine bN (E := E) (n := 96) (rs := [.tmp 2]) (l := [(0, _)]) (aQ Tryz.func41 rfl rfl rfl) hA rfl ?_
 refine rB <| cZ rfl rfl nM rfl ?_
 intro N1
 refine oa rfl <| rC <| bR (cs := [.pointer none, .slice none 0 0]) rfl rfl nM mI rfl rfl ?_
 intro N3
 rw [uX]
 refine rC <| fo 0 V41 aI rfl <| lB rfl V3 (bG px (i := 0) rfl) ?_
 refine fo 1 V41 aI rfl <| lB rfl V3 (bG px (i := 1) rfl) ?_
 refine fo 2 V41 aI rfl <| lB rfl V3 (bG px (i := 2) rfl) ?_
 refine fo 3 V41 aI rfl <| lB rfl V3 (bG px (i := 3) rfl) ?_
 refine fo 4 V41 aI rfl <| lB rfl V3 (bG px (i := 4) rfl) ?_
 refine fo 5 V41 aI rfl <| lB rfl V3 (bG px (i := 5) rfl) ?_
 refine fo 6 V41 aI rfl <| lB rfl V3 (bG px (i := 6) rfl) ?_
 refine fo 7 V41 aI rfl <| lB rfl V3 (bG px (i := 7) rfl) ?_
 refine fo 8 V41 aI rfl <| lB rfl V3 (bG px (i := 8) rfl) ?_
 refine aM (out := [0, 1, 2, 3, 4, 5, 6, 7, 8].map fun k => Value.int .i64 (iv (c k))) rfl rfl nM oP V22 aI rfl rfl (by kernel_rfl) rfl rfl ?_
 intro N27
 refine oc rT oV (fun H hH => jK (ex := true) px [0, 1, 2, 3, 4, 5, 6, 7, 8] rfl (by simp) (hH.own (N27, _) mA).1 (hH.own (N27, _) mA).2.2.1 (by simp) rfl) ?_
 refine ot (bld TB N3 0 ([])) (fun u Lo => u = .tuple ⟨[.int .i64 (((aA ([0, 1, 2, 3, 4, 5, 6, 7, 8].map .i) c).length : Nat) : Int), .nilIface]⟩ ∧ ∃ M2, Lo = bld TB N3 M2 ([] ++ aA ([0, 1, 2, 3, 4, 5, 6, 7, 8].map .i) c)) cW oV (fun H hH => cV (s := ⟨⟨aA ([0, 1, 2, 3, 4, 5, 6, 7, 8].map .i) c⟩⟩) (cJ _) (fits (w := []) (by rw [List.nil_append]; exact mG (its := brushIts) (c := c) 9) hB) (hH.have fun p hp => by repeat (first | exact hp | exact List.mem_append_left _ hp | apply List.mem_cons_of_mem)) (hH.dist.sublist sW)) ?_
 rintro _ _ ⟨rfl, M2, rfl⟩
 rw [show [] ++ aA ([0, 1, 2, 3, 4, 5, 6, 7, 8].map .i) c = aA (brushIts.take 9) c from (by rw [List.nil_append]; rfl)]
 refine eU gO nM ?_
 refine rC <| fo 9 V41 bL rfl <| fo 9 V31 aI rfl <| lB rfl V3 (bG px (i := 9) rfl) ?_
 refine fo 9 V41 bL rfl <| fo 10 V31 aI rfl <| lB rfl V3 (bG px (i := 10) rfl) ?_
 refine fo 9 V41 bL rfl <| fo 11 V31 aI rfl <| lB rfl V3 (bG px (i := 11) rfl) ?_
 refine fo 9 V41 bL rfl <| fo 12 V31 aI rfl <| lB rfl V3 (bG px (i := 12) rfl) ?_
 refine fo 13 V41 aI rfl <| lB rfl V3 (bG px (i := 13) rfl) ?_
 refine aM (out := [9, 10, 11, 12, 13].map fun k => Value.int .i64 (iv (c k))) rfl rfl nM oP V22 aI rfl rfl (by kernel_rfl) rfl rfl ?_
 intro N44
 refine oc rT oV (fun H hH => jK (ex := true) px [9, 10, 11, 12, 13] rfl (by simp) (hH.own (N44, _) mA).1 (hH.own (N44, _) mA).2.2.1 (by simp) rfl) ?_
 refine ot (bld TB N3 M2 (aA (brushIts.take 9) c)) (fun u Lo => u = .tuple ⟨[.int .i64 (((aA ([9, 10, 11, 12, 13].map .i) c).length : Nat) : Int), .nilIface]⟩ ∧ ∃ M2, Lo = bld TB N3 M2 (aA (brushIts.take 9) c ++ aA ([9, 10, 11, 12, 13].map .i) c)) cW oV (fun H hH => cV (s := ⟨⟨aA ([9, 10, 11, 12, 13].map .i) c⟩⟩) (cJ _) (fits (fA (l1 := brushIts.take 9) (l2 := [9, 10, 11, 12, 13].map .i) 14 rfl) hB) (hH.have fun p hp => by repeat (first | exact hp | exact List.mem_append_left _ hp | apply List.mem_cons_of_mem)) (hH.dist.sublist sW)) ?_
 rintro _ _ ⟨rfl, M2, rfl⟩
 rw [show aA (brushIts.take 9) c ++ aA ([9, 10, 11, 12, 13].map .i) c = aA (brushIts.take 14) c from bT rfl]
 refine eU gO nM ?_
 refine rC <| fo 14 V41 rL rfl <| lB rfl V39 hx14 ?_
 refine ll rfl V39 <| cE rfl rfl rfl V3 V65 (dH _ (by omega) (by omega)) ?_
 refine oc aCn oV (fun H hH => sK (n := l14.length) (by omega)) ?_
 refine ot (bld TB N3 M2 (aA (brushIts.take 14) c)) (fun u Lo => u = .tuple ⟨[.int .i64 (((aF l14.length).length : Nat) : Int), .nilIface]⟩ ∧ ∃ M2, Lo = bld TB N3 M2 (aA (brushIts.take 14) c ++ aF l14.length)) cW oV (fun H hH => cV (s := ⟨⟨aF l14.length⟩⟩) (cQ _) (fits (gN (l1 := brushIts.take 14) (r1 := [.bi 15]) rfl hv14) hB) (hH.have fun p hp => by repeat (first | exact hp | exact List.mem_append_left _ hp | apply List.mem_cons_of_mem)) (hH.dist.sublist sW)) ?_
 rintro _ _ ⟨rfl, M2, rfl⟩
 refine tq <| rB <| fo 14 V41 rL rfl <| lB rfl V39 hx14 ?_
 refine ll rfl V39 <| om rfl <| aB <| aK <| fZ (L' := bld TB N3 M2 (aA (brushIts.take 14) c ++ aF l14.length ++ aL dynIts (l14.take 0)) ++ [(N1, .cells (cellsOf 16 x) (cI E 41) true)]) (by rw [show aA (brushIts.take 14) c ++ aF l14.length ++ aL dynIts (l14.take 0) = aA (brushIts.take 14) c ++ aF l14.length by simp [aL]]; try exact List.Perm.refl _) ?_
 refine bK (σ := Nat × Nat) (fun x => l14.length - x.2) (fun x => [(1, .pointer (some ⟨2 * N1 + 1, 0, none⟩)), (3, .pointer (some ⟨2 * N3 + 1, 0, none⟩)), (54, .slice a14 l14.length c14), (55, .int .i64 ((l14.length : Nat) : Int)), (56, .int .i64 ((x.2 : Nat) : Int))]) (fun _ => S) (fun _ => A) (fun z => bld TB N3 z.1 (aA (brushIts.take 14) c ++ aF l14.length ++ aL dynIts (l14.take z.2)) ++ [(N1, .cells (cellsOf 16 x) (cI E 41) true)]) (fun x => x.2 ≤ l14.length) ((M2, 0)) ((Nat.zero_le _)) pK rfl rfl (List.Sublist.refl _) ?_
 intro st hJ2 t1
 obtain ⟨M1, k⟩ := st
 dsimp only at hJ2 ⊢
 refine aH ?_
 rcases Nat.lt_or_ge k l14.length with hk | hk
 ·obtain ⟨qD, usD, dD, rfl, ixD, hcD, lxD, kxD⟩ := r14.at' k hk
  obtain ⟨yD, eD, rfl, rfl, pyD⟩ := kxD.fn (n := 3) rfl
  obtain ⟨l2, a2, c2, e2, hx2, r2⟩ := (pyD 2 _ rfl).rowD
  have hv2 : rv (eD 2) = l2 := by rw [e2]; rfl
  have hb2 := r2.len
  have hcf : aA dynIts (cfn (dJ 3 eD)) = aA dynIts eD := by simp only [dynIts, aA, bB]; rfl
  have hP : ∀ w, Pre w dynIts eD → Pre (aA (brushIts.take 14) c ++ aF l14.length ++ aL dynIts (l14.take k) ++ w) brushIts c := fun w ⟨z, h⟩ => aEv (l1 := brushIts.take 14) (r1 := [.bi 15]) rfl hv14 hcD ⟨z, h.trans hcf.symm⟩
  refine rA <| ob rfl (by exact aX (by omega)) ?_
  refine tq <| aO rfl <| aJ <| aD <| aH <| aK <| rB <| bH rfl rfl rfl rfl V39 kS rfl (by omega) ?_
  refine aV rfl rfl rfl (by exact cS V68 rfl kS rfl (InA.add ixD) lxD) ?_
  refine bR (cs := (.int .i64 0 :: .int .i64 0 :: .slice none 0 0 :: [])) rfl rfl nM kS rfl rfl ?_
  intro N5
  refine bX rfl nM rfl rfl kS (by exact aU _ _) (CellsA.one kxD) uP (by exact cF rfl) (by exact cH rfl rfl) nM ?_
  refine rC <| fo 0 V68 aI rfl <| lB rfl V3 (bG pyD (i := 0) rfl) ?_
  refine fo 1 V68 aI rfl <| lB rfl V3 (bG pyD (i := 1) rfl) ?_
  refine aM (out := [0, 1].map fun k => Value.int .i64 (iv (eD k))) rfl rfl nM oP V22 aI rfl rfl (by kernel_rfl) rfl rfl ?_
  intro N64
  refine oc rT oV (fun H hH => jK (ex := true) pyD [0, 1] rfl (by simp) (hH.own (N64, _) mA).1 (hH.own (N64, _) mA).2.2.1 (by simp) rfl) ?_
  refine ot (bld TB N3 M1 (aA (brushIts.take 14) c ++ aF l14.length ++ aL dynIts (l14.take k))) (fun u Lo => u = .tuple ⟨[.int .i64 (((aA ([0, 1].map .i) eD).length : Nat) : Int), .nilIface]⟩ ∧ ∃ M2, Lo = bld TB N3 M2 (aA (brushIts.take 14) c ++ aF l14.length ++ aL dynIts (l14.take k) ++ aA ([0, 1].map .i) eD)) cW oV (fun H hH => cV (s := ⟨⟨aA ([0, 1].map .i) eD⟩⟩) (cJ _) (fits (hP _ (mG (its := dynIts) (c := eD) 2)) hB) (hH.have fun p hp => by repeat (first | exact hp | exact List.mem_append_left _ hp | apply List.mem_cons_of_mem)) (hH.dist.sublist sW)) ?_
  rintro _ _ ⟨rfl, M2, rfl⟩
  refine rC <| fo 2 V68 rE rfl <| lB rfl V66 hx2 ?_
  refine ll rfl V66 <| cE rfl rfl rfl V3 V65 (dH _ (by omega) (by omega)) ?_
  refine oc aCn oV (fun H hH => sK (n := l2.length) (by omega)) ?_
  refine ot (bld TB N3 M2 (aA (brushIts.take 14) c ++ aF l14.length ++ aL dynIts (l14.take k) ++ aA ([0, 1].map .i) eD)) (fun u Lo => u = .tuple ⟨[.int .i64 (((aF l2.length).length : Nat) : Int), .nilIface]⟩ ∧ ∃ M2, Lo = bld TB N3 M2 (aA (brushIts.take 14) c ++ aF l14.length ++ aL dynIts (l14.take k) ++ aA ([0, 1].map .i) eD ++ aF l2.length)) cW oV (fun H hH => cV (s := ⟨⟨aF l2.length⟩⟩) (cQ _) (fits (by rw [List.append_assoc]; exact hP _ (gN (l1 := dynIts.take 2) (r1 := []) rfl hv2)) hB) (hH.have fun p hp => by repeat (first | exact hp | exact List.mem_append_left _ hp | apply List.mem_cons_of_mem)) (hH.dist.sublist sW)) ?_
  rintro _ _ ⟨rfl, M2, rfl⟩
  rw [show aA (brushIts.take 14) c ++ aF l14.length ++ aL dynIts (l14.take k) ++ aA ([0, 1].map .i) eD ++ aF l2.length = aA (brushIts.take 14) c ++ aF l14.length ++ aL dynIts (l14.take k) ++ (aA (dynIts.take 2) eD ++ aF l2.length) from (List.append_assoc _ _ _)]
  refine rC <| fo 2 V68 rE rfl <| lB rfl V66 hx2 ?_
  refine ll rfl V66 <| om rfl <| aB <| aK ?_
  rw [show aA (brushIts.take 14) c ++ aF l14.length ++ aL dynIts (l14.take k) ++ (aA (dynIts.take 2) eD ++ aF l2.length) = aA (brushIts.take 14) c ++ aF l14.length ++ aL dynIts (l14.take k) ++ (aA (dynIts.take 2) eD ++ aF l2.length ++ aL ptIts (l2.take 0)) by simp [aL]]
  refine bK (σ := Nat × Nat) (fun x => l2.length - x.2) (fun x => [(1, .pointer (some ⟨2 * N1 + 1, 0, none⟩)), (3, .pointer (some ⟨2 * N3 + 1, 0, none⟩)), (54, .slice (some qD) l14.length c14), (55, .int .i64 ((l14.length : Nat) : Int)), (56, .int .i64 ((k : Nat) : Int)), (74, .slice a2 l2.length c2), (75, .int .i64 ((l2.length : Nat) : Int)), (76, .int .i64 ((x.2 : Nat) : Int))]) (fun _ => S) (fun _ => A) (fun z => bld TB N3 z.1 (aA (brushIts.take 14) c ++ aF l14.length ++ aL dynIts (l14.take k) ++ (aA (dynIts.take 2) eD ++ aF l2.length ++ aL ptIts (l2.take z.2))) ++ [(N1, .cells (cellsOf 16 x) (cI E 41) true)]) (fun x => x.2 ≤ l2.length) ((M2, 0)) ((Nat.zero_le _)) pK rfl rfl sU ?_
  intro st hJ2 t2
  obtain ⟨M3, j⟩ := st
  dsimp only at hJ2 ⊢
  refine aH ?_
  rcases Nat.lt_or_ge j l2.length with hj | hj
  ·obtain ⟨qK, usK, dK, rfl, ixK, hcK, lxK, kxK⟩ := r2.at' j hj
   obtain ⟨yK, eK, rfl, rfl, pyK⟩ := kxK.fn (n := 2) rfl
   refine rA <| ob rfl (by exact aX (by omega)) ?_
   refine tq <| aO rfl <| aJ <| aD <| aH <| aK <| rB <| bH rfl rfl rfl rfl V66 qP rfl (by omega) ?_
   refine aV rfl rfl rfl (by exact cS V69 rfl qP rfl (InA.add ixK) lxK) ?_
   refine bR (cs := (.int .i64 0 :: .int .i64 0 :: [])) rfl rfl nM qP rfl rfl ?_
   intro N7
   refine bX rfl nM rfl rfl qP (by exact aU _ _) (CellsA.one kxK) uP (by exact cF rfl) (by exact cH rfl rfl) nM ?_
   refine rD <| fo 0 V69 aI rfl <| lB rfl V3 (bG pyK (i := 0) rfl) ?_
   refine fo 1 V69 aI rfl <| lB rfl V3 (bG pyK (i := 1) rfl) ?_
   refine aM (out := [0, 1].map fun k => Value.int .i64 (iv (eK k))) rfl rfl nM oP V22 aI rfl rfl (by kernel_rfl) rfl rfl ?_
   intro N84
   refine oc rT oV (fun H hH => jK (ex := true) pyK [0, 1] rfl (by simp) (hH.own (N84, _) mA).1 (hH.own (N84, _) mA).2.2.1 (by simp) rfl) ?_
   refine ot (bld TB N3 M3 (aA (brushIts.take 14) c ++ aF l14.length ++ aL dynIts (l14.take k) ++ (aA (dynIts.take 2) eD ++ aF l2.length ++ aL ptIts (l2.take j)))) (fun u Lo => u = .tuple ⟨[.int .i64 (((aA ([0, 1].map .i) eK).length : Nat) : Int), .nilIface]⟩ ∧ ∃ M2, Lo = bld TB N3 M2 (aA (brushIts.take 14) c ++ aF l14.length ++ aL dynIts (l14.take k) ++ (aA (dynIts.take 2) eD ++ aF l2.length ++ aL ptIts (l2.take j)) ++ aA ([0, 1].map .i) eK)) cW oV (fun H hH => cV (s := ⟨⟨aA ([0, 1].map .i) eK⟩⟩) (cJ _) (fits (by rw [← dO (n := 2) (e := eK) [0, 1] rfl, List.append_assoc]; exact hP _ (fG (s2 := []) (l1 := dynIts.take 2) (r1 := []) rfl hv2 hcK rfl)) hB) (hH.have fun p hp => by repeat (first | exact hp | exact List.mem_append_left _ hp | apply List.mem_cons_of_mem)) (hH.dist.sublist sW)) ?_
   rintro _ _ ⟨rfl, M2, rfl⟩
   rw [show aA (brushIts.take 14) c ++ aF l14.length ++ aL dynIts (l14.take k) ++ (aA (dynIts.take 2) eD ++ aF l2.length ++ aL ptIts (l2.take j)) ++ aA ([0, 1].map .i) eK = aA (brushIts.take 14) c ++ aF l14.length ++ aL dynIts (l14.take k) ++ (aA (dynIts.take 2) eD ++ aF l2.length ++ aL ptIts (l2.take (j + 1))) from (by rw [← dO (n := 2) (e := eK) [0, 1] rfl]; exact (List.append_assoc _ _ _).trans (congrArg _ ((List.append_assoc _ _ _).trans (congrArg _ (dN hcK)))))]
   refine aZ <| bA <| aD <| rA <| ob rfl (by exact aY (by omega)) ?_
   refine om rfl <| aZ ?_
   refine rd' (M2, j + 1) (show l2.length - (j + 1) < l2.length - j by omega) (show j + 1 ≤ l2.length by omega)
  ·obtain rfl : j = l2.length := by omega
   rw [show aA (brushIts.take 14) c ++ aF l14.length ++ aL dynIts (l14.take k) ++ (aA (dynIts.take 2) eD ++ aF l2.length ++ aL ptIts (l2.take l2.length)) = aA (brushIts.take 14) c ++ aF l14.length ++ aL dynIts (l14.take (k + 1)) by rw [iB (l3 := dynIts) hv2 rfl, ← hcf, List.append_assoc]; exact congrArg _ (dN hcD)]
   refine rA <| ob rfl (by exact aW (by omega)) ?_
   refine tq <| aG rfl <| bJ <| aR <| aS <| aN <| bA <| aD <| rA <| ob rfl (by exact aY (by omega)) ?_
   refine om rfl <| aZ ?_
   refine rd' (M3, k + 1) (show l14.length - (k + 1) < l14.length - k by omega) (show k + 1 ≤ l14.length by omega)
 ·obtain rfl : k = l14.length := by omega
  rw [iB (l3 := brushIts.take 15) hv14 rfl]
  refine rA <| ob rfl (by exact aW (by omega)) ?_
  refine tq <| aG rfl <| bJ <| aR <| aS <| aN <| aD <| rB <| oa rfl <| tq <| aH ?_
  cases hb : bv (c 15)
  ·refine rA <| fo 15 V41 lR rfl <| lB rfl V4 ((aBs px (i := 15) rfl).trans (congrArg Value.bool hb)) ?_
   refine aB <| aG rfl <| aJ <| aD <| rB <| om rfl <| aM (out := [.int .i64 0]) rfl rfl nM oP V22 aI rfl rfl (by kernel_rfl) rfl rfl ?_
   intro N92
   refine oc rT oV (fun H hH => aVg (n := 0) (ex := true) ⟨by omega, by omega⟩ (hH.own (N92, _) mA).1 (hH.own (N92, _) mA).2.2.1) ?_
   refine ot (bld TB N3 M1 (aA (brushIts.take 15) c)) (fun u Lo => u = .tuple ⟨[.int .i64 (((bO 0).length : Nat) : Int), .nilIface]⟩ ∧ ∃ M2, Lo = bld TB N3 M2 (aA (brushIts.take 15) c ++ bO 0)) cW oV (fun H hH => cV (s := ⟨⟨bO 0⟩⟩) (mF _) (fits (by rw [show aA (brushIts.take 15) c ++ bO 0 = aA (brushIts.take 16) c from (by have h := bC (l1 := brushIts.take 15) (a := .bi 15) (l3 := brushIts.take 16) (c := c) rfl; rw [show bB (.bi 15) c = bO 0 by simp [bB, hb]] at h; exact h)]; exact mG 16) hB) (hH.have fun p hp => by repeat (first | exact hp | exact List.mem_append_left _ hp | apply List.mem_cons_of_mem)) (hH.dist.sublist sW)) ?_
   rintro _ _ ⟨rfl, M2, rfl⟩
   rw [show aA (brushIts.take 15) c ++ bO 0 = aA (brushIts.take 16) c from (by have h := bC (l1 := brushIts.take 15) (a := .bi 15) (l3 := brushIts.take 16) (c := c) rfl; rw [show bB (.bi 15) c = bO 0 by simp [bB, hb]] at h; exact h)]
   refine rC <| ot (bld TB N3 M2 (aA brushIts c)) (fun u Lo => u = .string ⟨⟨aA brushIts c⟩⟩) tF oV (fun H hH => tL (cJ _) (by omega) (hH.have fun p hp => by repeat (first | exact hp | exact List.mem_append_left _ hp | apply List.mem_cons_of_mem)) (hH.dist.sublist sW)) ?_
   rintro _ _ rfl
   refine oa rfl <| aB <| aT <| aE (.tmp rfl .nil) ?_
   exact fun H hH => ⟨rfl, hH.kept⟩
  ·refine rA <| fo 15 V41 lR rfl <| lB rfl V4 ((aBs px (i := 15) rfl).trans (congrArg Value.bool hb)) ?_
   refine aB <| aO rfl <| rA <| oa rfl <| rC <| om rfl <| aM (out := [.int .i64 1]) rfl rfl nM oP V22 aI rfl rfl (by kernel_rfl) rfl rfl ?_
   intro N92
   refine oc rT oV (fun H hH => aVg (n := 1) (ex := true) ⟨by omega, by omega⟩ (hH.own (N92, _) mA).1 (hH.own (N92, _) mA).2.2.1) ?_
   refine ot (bld TB N3 M1 (aA (brushIts.take 15) c)) (fun u Lo => u = .tuple ⟨[.int .i64 (((bO 1).length : Nat) : Int), .nilIface]⟩ ∧ ∃ M2, Lo = bld TB N3 M2 (aA (brushIts.take 15) c ++ bO 1)) cW oV (fun H hH => cV (s := ⟨⟨bO 1⟩⟩) (mF _) (fits (by rw [show aA (brushIts.take 15) c ++ bO 1 = aA (brushIts.take 16) c from (by have h := bC (l1 := brushIts.take 15) (a := .bi 15) (l3 := brushIts.take 16) (c := c) rfl; rw [show bB (.bi 15) c = bO 1 by simp [bB, hb]] at h; exact h)]; exact mG 16) hB) (hH.have fun p hp => by repeat (first | exact hp | exact List.mem_append_left _ hp | apply List.mem_cons_of_mem)) (hH.dist.sublist sW)) ?_
   rintro _ _ ⟨rfl, M2, rfl⟩
   rw [show aA (brushIts.take 15) c ++ bO 1 = aA (brushIts.take 16) c from (by have h := bC (l1 := brushIts.take 15) (a := .bi 15) (l3 := brushIts.take 16) (c := c) rfl; rw [show bB (.bi 15) c = bO 1 by simp [bB, hb]] at h; exact h)]
   refine rC <| ot (bld TB N3 M2 (aA brushIts c)) (fun u Lo => u = .string ⟨⟨aA brushIts c⟩⟩) tF oV (fun H hH => tL (cJ _) (by omega) (hH.have fun p hp => by repeat (first | exact hp | exact List.mem_append_left _ hp | apply List.mem_cons_of_mem)) (hH.dist.sublist sW)) ?_
   rintro _ _ rfl
   refine oa rfl <| aB <| aT <| aE (.tmp rfl .nil) ?_
   exact fun H hH => ⟨rfl, hH.kept⟩
end Go.Proofs.YteklajiaicmogaaGreatDoor
namespace Go.Proofs.YteklajiaicmogaaGreatDoor
open Go Go.AM
def jQ : List Kd := [.int .i64, .int .i64, .int .i64, .int .i64, .int .i64, .int .i64, .str, .str, .int .i64, .int .i64, .int .i64, .str, .bool, .bool, .bool, .int .i64, .int .i64, .int .i64, .int .i64, .row 8 [.int .i64], .int .i64, .int .i64, .int .i64, .int .i64, .int .i64, .int .i64, .int .i64, .int .i64, .int .i64, .row 32 [.int .i64, .int .i64, .int .i64, .int .i64], .int .i64, .int .i64, .int .i64, .int .i64, .int .i64, .row 8 [.int .i64], .int .i64, .row 40 [.int .i64, .int .i64, .int .i64, .int .i64, .int .i64], .row 56 [.int .i64, .int .i64, .int .i64, .int .i64, .int .i64, .int .i64, .int .i64], .int .i64, .int .i64, .int .i64, .int .i64, .str, .int .i64, .int .i64, .int .i64, .int .i64, .int .i64, .int .i64, .row 16 [.int .i64, .int .i64], .int .i64, .int .i64, .row 8 [.int .i64], .int .i64, .int .i64, .row 32 [.int .i64, .int .i64, .int .i64, .int .i64], .int .i64, .int .i64, .int .i64, .int .i64, .int .i64, .int .i64, .int .i64, .int .i64, .int .i64, .int .i64, .int .i64, .int .i64, .int .i64, .int .i64, .row 40 [.int .i64, .int .i64, .row 16 [.int .i64, .int .i64]], .bool, .row 40 [.int .i64, .int .i64, .int .i64, .int .i64, .int .i64], .int .i64, .int .i64, .int .i64, .int .i64, .int .i64, .int .i64, .int .i64, .int .i64, .int .i64, .int .i64]
def dV : List Item := [.i 0, .i 1, .i 2, .i 3, .i 4]
def editIts : List Item := [.i 0, .i 1, .i 2, .i 3, .i 4, .i 5, .t 6, .t 7] ++ nodeIts.map (jR 8) ++ [.msk 51, .img 54] ++ brushIts.map (jR 57) ++ [.rows 73 dV, .i 74, .i 75, .i 76, .i 77, .i 78, .i 79, .i 80, .i 81, .i 82, .i 83]
theorem aSn {S : AH} {A : Nat → Prop} (hA : ∀ j, A j → j < S.nx) {ks : List Kd} {x : Nat → Value} {c : Nat → CT} (px : Pts A S ks x c) (o : Nat) (e : (ks.drop o).take kNode.length = kNode) (h9 : ckE iI (iv (c (o + 9))) (iv (c (o + 10))) (rv (c (o + 11))) = 0) (h19 : ckE kV (iv (c (o + 19))) (iv (c (o + 20))) (rv (c (o + 21))) = 0) (hB : (aA (nodeIts.map (jR o)) c).length ≤ 1073741824) : XCall Tryz.prog 38 [.agg ⟨cellsOf 43 fun i => x (o + i)⟩] S fun v H' => v = .string ⟨⟨aA (nodeIts.map (jR o)) c⟩⟩ ∧ Kept S.nx S H' := by
 rw [← mY] at hB ⊢
 exact aNr (x := fun i => x (o + i)) (c := fun i => c (o + i)) hA (nN px o e) h9 h19 hB
theorem aMf {S : AH} {A : Nat → Prop} (hA : ∀ j, A j → j < S.nx) {ks : List Kd} {x : Nat → Value} {c : Nat → CT} (px : Pts A S ks x c) (o : Nat) (e : (ks.drop o).take kBrush.length = kBrush) (hB : (aA (brushIts.map (jR o)) c).length ≤ 1073741824) : XCall Tryz.prog 41 [.agg ⟨cellsOf 16 fun i => x (o + i)⟩] S fun v H' => v = .string ⟨⟨aA (brushIts.map (jR o)) c⟩⟩ ∧ Kept S.nx S H' := by
 rw [← mY] at hB ⊢
 exact aMp (x := fun i => x (o + i)) (c := fun i => c (o + i)) hA (nN px o e) hB
set_option maxHeartbeats 4000000 in
theorem aQo {S : AH} {A : Nat → Prop} (hA : ∀ j, A j → j < S.nx) {x : Nat → Value} {c : Nat → CT} (px : Pts A S jQ x c) (hm17 : ckE iI (iv (c 17)) (iv (c 18)) (rv (c 19)) = 0) (hm27 : ckE kV (iv (c 27)) (iv (c 28)) (rv (c 29)) = 0) (hm51 : ckE iI (iv (c 51)) (iv (c 52)) (rv (c 53)) = 0) (hm54 : ckE kV (iv (c 54)) (iv (c 55)) (rv (c 56)) = 0) (hB : (aA editIts c).length ≤ 1073741824) : XCall Tryz.prog 11 [.agg ⟨cellsOf 84 x⟩] S fun v H' => v = .string ⟨⟨aA editIts c⟩⟩ ∧ Kept S.nx S H' := by
 obtain ⟨l73, a73, c73, e73, hx73, r73⟩ := (px 73 _ rfl).rowD
 have hv73 : rv (c 73) = l73 := by rw [e73]; rfl
 have hb73 := r73.len
 refine bN (E := E) (n := 112) (rs := [.tmp 2]) (l := [(0, _)]) (aQ Tryz.func11 rfl rfl rfl) hA rfl ?_
 refine rB <| cZ rfl rfl nM rfl ?_
 intro N1
 refine oa rfl <| rC <| bR (cs := [.pointer none, .slice none 0 0]) rfl rfl nM mI rfl rfl ?_
 intro N3
 rw [uX]
 refine rC <| fo 0 V48 aI rfl <| lB rfl V3 (bG px (i := 0) rfl) ?_
 refine fo 1 V48 aI rfl <| lB rfl V3 (bG px (i := 1) rfl) ?_
 refine fo 2 V48 aI rfl <| lB rfl V3 (bG px (i := 2) rfl) ?_
 refine fo 3 V48 aI rfl <| lB rfl V3 (bG px (i := 3) rfl) ?_
 refine fo 4 V48 aI rfl <| lB rfl V3 (bG px (i := 4) rfl) ?_
 refine fo 5 V48 aI rfl <| lB rfl V3 (bG px (i := 5) rfl) ?_
 refine aM (out := [0, 1, 2, 3, 4, 5].map fun k => Value.int .i64 (iv (c k))) rfl rfl nM oP V22 aI rfl rfl (by kernel_rfl) rfl rfl ?_
 intro N18
 refine oc rT oV (fun H hH => jK (ex := true) px [0, 1, 2, 3, 4, 5] rfl (by simp) (hH.own (N18, _) mA).1 (hH.own (N18, _) mA).2.2.1 (by simp) rfl) ?_
 refine ot (bld TB N3 0 ([])) (fun u Lo => u = .tuple ⟨[.int .i64 (((aA ([0, 1, 2, 3, 4, 5].map .i) c).length : Nat) : Int), .nilIface]⟩ ∧ ∃ M2, Lo = bld TB N3 M2 ([] ++ aA ([0, 1, 2, 3, 4, 5].map .i) c)) cW oV (fun H hH => cV (s := ⟨⟨aA ([0, 1, 2, 3, 4, 5].map .i) c⟩⟩) (cJ _) (fits (w := []) (by rw [List.nil_append]; exact mG (its := editIts) (c := c) 6) hB) (hH.have fun p hp => by repeat (first | exact hp | exact List.mem_append_left _ hp | apply List.mem_cons_of_mem)) (hH.dist.sublist sW)) ?_
 rintro _ _ ⟨rfl, M2, rfl⟩
 rw [show [] ++ aA ([0, 1, 2, 3, 4, 5].map .i) c = aA (editIts.take 6) c from (by rw [List.nil_append]; rfl)]
 refine eU gO nM ?_
 refine rC <| fo 6 V48 gJ rfl <| lB rfl V9 (tA px (i := 6) rfl) ?_
 refine oc aGs oV (fun H hH => vQ (s := ⟨⟨tv (c 6)⟩⟩) (by have := uR (c := c) (its := editIts) (a := .t 6) (by simp [editIts]); rw [bB, fJ, List.length_append] at this; show (tv (c 6)).length ≤ _; omega)) ?_
 refine ot (bld TB N3 M2 (aA (editIts.take 6) c)) (fun u Lo => u = .tuple ⟨[.int .i64 (((bB (.t 6) c).length : Nat) : Int), .nilIface]⟩ ∧ ∃ M2, Lo = bld TB N3 M2 (aA (editIts.take 6) c ++ bB (.t 6) c)) cW oV (fun H hH => cV (s := ⟨⟨bB (.t 6) c⟩⟩) (jS _ _) (fits (cA (l1 := editIts.take 6) (a := .t 6) 7 rfl) hB) (hH.have fun p hp => by repeat (first | exact hp | exact List.mem_append_left _ hp | apply List.mem_cons_of_mem)) (hH.dist.sublist sW)) ?_
 rintro _ _ ⟨rfl, M2, rfl⟩
 rw [show aA (editIts.take 6) c ++ bB (.t 6) c = aA (editIts.take 7) c from bC rfl]
 refine rC <| fo 7 V48 gJ rfl <| lB rfl V9 (tA px (i := 7) rfl) ?_
 refine oc aGs oV (fun H hH => vQ (s := ⟨⟨tv (c 7)⟩⟩) (by have := uR (c := c) (its := editIts) (a := .t 7) (by simp [editIts]); rw [bB, fJ, List.length_append] at this; show (tv (c 7)).length ≤ _; omega)) ?_
 refine ot (bld TB N3 M2 (aA (editIts.take 7) c)) (fun u Lo => u = .tuple ⟨[.int .i64 (((bB (.t 7) c).length : Nat) : Int), .nilIface]⟩ ∧ ∃ M2, Lo = bld TB N3 M2 (aA (editIts.take 7) c ++ bB (.t 7) c)) cW oV (fun H hH => cV (s := ⟨⟨bB (.t 7) c⟩⟩) (jS _ _) (fits (cA (l1 := editIts.take 7) (a := .t 7) 8 rfl) hB) (hH.have fun p hp => by repeat (first | exact hp | exact List.mem_append_left _ hp | apply List.mem_cons_of_mem)) (hH.dist.sublist sW)) ?_
 rintro _ _ ⟨rfl, M2, rfl⟩
 rw [show aA (editIts.take 7) c ++ bB (.t 7) c = aA (editIts.take 8) c from bC rfl]
 refine rC <| fo 8 V48 fU rfl <| lC rfl V38 fU ?_
 refine oc has38 oV (fun H hH => aSn hH.lt (px.gr hH.gr) 8 rfl hm17 hm27 (Nat.le_trans (yH (its := editIts) (l1 := editIts.take 8) (l3 := editIts.drop 47) rfl) hB)) ?_
 refine ot (bld TB N3 M2 (aA (editIts.take 8) c)) (fun u Lo => u = .tuple ⟨[.int .i64 (((aA (nodeIts.map (jR 8)) c).length : Nat) : Int), .nilIface]⟩ ∧ ∃ M2, Lo = bld TB N3 M2 (aA (editIts.take 8) c ++ aA (nodeIts.map (jR 8)) c)) cW oV (fun H hH => cV (s := ⟨⟨aA (nodeIts.map (jR 8)) c⟩⟩) (cJ _) (fits (fA (l1 := editIts.take 8) (l2 := nodeIts.map (jR 8)) 47 rfl) hB) (hH.have fun p hp => by repeat (first | exact hp | exact List.mem_append_left _ hp | apply List.mem_cons_of_mem)) (hH.dist.sublist sW)) ?_
 rintro _ _ ⟨rfl, M2, rfl⟩
 rw [show aA (editIts.take 8) c ++ aA (nodeIts.map (jR 8)) c = aA (editIts.take 47) c from bT rfl]
 refine rC <| fo 51 V48 fI rfl <| lC rfl V24 fI ?_
 refine oc aVr oV (fun H hH => aGv (f := fun i => x (51 + i)) hH.lt (bG px (i := 51) rfl) (bG px (i := 52) rfl) (CellA.gr hH.gr _ (x 53) _ (kY px (i := 53) rfl)) hm51) ?_
 refine ot (bld TB N3 M2 (aA (editIts.take 47) c)) (fun u Lo => u = .tuple ⟨[.int .i64 (((bB (.msk 51) c).length : Nat) : Int), .nilIface]⟩ ∧ ∃ M2, Lo = bld TB N3 M2 (aA (editIts.take 47) c ++ bB (.msk 51) c)) cW oV (fun H hH => cV (s := ⟨⟨bB (.msk 51) c⟩⟩) (jS _ _) (fits (cA (l1 := editIts.take 47) (a := .msk 51) 48 rfl) hB) (hH.have fun p hp => by repeat (first | exact hp | exact List.mem_append_left _ hp | apply List.mem_cons_of_mem)) (hH.dist.sublist sW)) ?_
 rintro _ _ ⟨rfl, M2, rfl⟩
 rw [show aA (editIts.take 47) c ++ bB (.msk 51) c = aA (editIts.take 48) c from bC rfl]
 refine rC <| fo 54 V48 fH rfl <| lC rfl V29 fH ?_
 refine oc aVx oV (fun H hH => aCg (f := fun i => x (54 + i)) hH.lt (bG px (i := 54) rfl) (bG px (i := 55) rfl) (CellA.gr hH.gr (.row 32 kP) (x 56) _ (kY px (i := 56) rfl)) hm54) ?_
 refine ot (bld TB N3 M2 (aA (editIts.take 48) c)) (fun u Lo => u = .tuple ⟨[.int .i64 (((bB (.img 54) c).length : Nat) : Int), .nilIface]⟩ ∧ ∃ M2, Lo = bld TB N3 M2 (aA (editIts.take 48) c ++ bB (.img 54) c)) cW oV (fun H hH => cV (s := ⟨⟨bB (.img 54) c⟩⟩) (jS _ _) (fits (cA (l1 := editIts.take 48) (a := .img 54) 49 rfl) hB) (hH.have fun p hp => by repeat (first | exact hp | exact List.mem_append_left _ hp | apply List.mem_cons_of_mem)) (hH.dist.sublist sW)) ?_
 rintro _ _ ⟨rfl, M2, rfl⟩
 rw [show aA (editIts.take 48) c ++ bB (.img 54) c = aA (editIts.take 49) c from bC rfl]
 refine rC <| fo 57 V48 jT rfl <| lC rfl V41 jT ?_
 refine oc has41 oV (fun H hH => aMf hH.lt (px.gr hH.gr) 57 rfl (Nat.le_trans (yH (its := editIts) (l1 := editIts.take 49) (l3 := editIts.drop 65) rfl) hB)) ?_
 refine ot (bld TB N3 M2 (aA (editIts.take 49) c)) (fun u Lo => u = .tuple ⟨[.int .i64 (((aA (brushIts.map (jR 57)) c).length : Nat) : Int), .nilIface]⟩ ∧ ∃ M2, Lo = bld TB N3 M2 (aA (editIts.take 49) c ++ aA (brushIts.map (jR 57)) c)) cW oV (fun H hH => cV (s := ⟨⟨aA (brushIts.map (jR 57)) c⟩⟩) (cJ _) (fits (fA (l1 := editIts.take 49) (l2 := brushIts.map (jR 57)) 65 rfl) hB) (hH.have fun p hp => by repeat (first | exact hp | exact List.mem_append_left _ hp | apply List.mem_cons_of_mem)) (hH.dist.sublist sW)) ?_
 rintro _ _ ⟨rfl, M2, rfl⟩
 rw [show aA (editIts.take 49) c ++ aA (brushIts.map (jR 57)) c = aA (editIts.take 65) c from bT rfl]
 refine rC <| fo 73 V48 nI rfl <| lB rfl V42 hx73 ?_
 refine ll rfl V42 <| cE rfl rfl rfl V3 V65 (dH _ (by omega) (by omega)) ?_
 refine oc aCn oV (fun H hH => sK (n := l73.length) (by omega)) ?_
 refine ot (bld TB N3 M2 (aA (editIts.take 65) c)) (fun u Lo => u = .tuple ⟨[.int .i64 (((aF l73.length).length : Nat) : Int), .nilIface]⟩ ∧ ∃ M2, Lo = bld TB N3 M2 (aA (editIts.take 65) c ++ aF l73.length)) cW oV (fun H hH => cV (s := ⟨⟨aF l73.length⟩⟩) (cQ _) (fits (gN (l1 := editIts.take 65) (r1 := editIts.drop 66) rfl hv73) hB) (hH.have fun p hp => by repeat (first | exact hp | exact List.mem_append_left _ hp | apply List.mem_cons_of_mem)) (hH.dist.sublist sW)) ?_
 rintro _ _ ⟨rfl, M2, rfl⟩
 refine tq <| rB <| fo 73 V48 nI rfl <| lB rfl V42 hx73 ?_
 refine ll rfl V42 <| om rfl <| aB <| aK <| fZ (L' := bld TB N3 M2 (aA (editIts.take 65) c ++ aF l73.length ++ aL dV (l73.take 0)) ++ [(N1, .cells (cellsOf 84 x) (cI E 48) true)]) (by rw [show aA (editIts.take 65) c ++ aF l73.length ++ aL dV (l73.take 0) = aA (editIts.take 65) c ++ aF l73.length by simp [aL]]; try exact List.Perm.refl _) ?_
 refine bK (σ := Nat × Nat) (fun x => l73.length - x.2) (fun x => [(1, .pointer (some ⟨2 * N1 + 1, 0, none⟩)), (3, .pointer (some ⟨2 * N3 + 1, 0, none⟩)), (52, .slice a73 l73.length c73), (53, .int .i64 ((l73.length : Nat) : Int)), (54, .int .i64 ((x.2 : Nat) : Int))]) (fun _ => S) (fun _ => A) (fun z => bld TB N3 z.1 (aA (editIts.take 65) c ++ aF l73.length ++ aL dV (l73.take z.2)) ++ [(N1, .cells (cellsOf 84 x) (cI E 48) true)]) (fun x => x.2 ≤ l73.length) ((M2, 0)) ((Nat.zero_le _)) pK rfl rfl (List.Sublist.refl _) ?_
 intro st hJ2 t1
 obtain ⟨M1, k⟩ := st
 dsimp only at hJ2 ⊢
 refine aH ?_
 rcases Nat.lt_or_ge k l73.length with hk | hk
 ·obtain ⟨qR, usR, dR, rfl, ixR, hcR, lxR, kxR⟩ := r73.at' k hk
  obtain ⟨yR, eR, rfl, rfl, pyR⟩ := kxR.fn (n := 5) rfl
  refine rA <| ob rfl (by exact aX (by omega)) ?_
  refine tq <| aO rfl <| aJ <| aD <| aH <| aK <| rB <| bH rfl rfl rfl rfl V42 mP rfl (by omega) ?_
  refine aV rfl rfl rfl (by exact cS V71 rfl mP rfl (InA.add ixR) lxR) ?_
  refine bR (cs := (.int .i64 0 :: .int .i64 0 :: .int .i64 0 :: .int .i64 0 :: .int .i64 0 :: [])) rfl rfl nM mP rfl rfl ?_
  intro N5
  refine bX rfl nM rfl rfl mP (by exact aU _ _) (CellsA.one kxR) uP (by exact cF rfl) (by exact cH rfl rfl) nM ?_
  refine rD <| fo 0 V71 aI rfl <| lB rfl V3 (bG pyR rfl) ?_
  refine fo 1 V71 aI rfl <| lB rfl V3 (bG pyR rfl) ?_
  refine fo 2 V71 aI rfl <| lB rfl V3 (bG pyR rfl) ?_
  refine fo 3 V71 aI rfl <| lB rfl V3 (bG pyR rfl) ?_
  refine fo 4 V71 aI rfl <| lB rfl V3 (bG pyR rfl) ?_
  refine aM (out := [0, 1, 2, 3, 4].map fun k => Value.int .i64 (iv (eR k))) rfl rfl nM oP V22 aI rfl rfl (by kernel_rfl) rfl rfl ?_
  intro N68
  refine oc rT oV (fun H hH => jK (ex := true) pyR [0, 1, 2, 3, 4] rfl (by simp) (hH.own (N68, _) mA).1 (hH.own (N68, _) mA).2.2.1 (by simp) rfl) ?_
  refine ot (bld TB N3 M1 (aA (editIts.take 65) c ++ aF l73.length ++ aL dV (l73.take k))) (fun u Lo => u = .tuple ⟨[.int .i64 (((aA ([0, 1, 2, 3, 4].map .i) eR).length : Nat) : Int), .nilIface]⟩ ∧ ∃ M2, Lo = bld TB N3 M2 (aA (editIts.take 65) c ++ aF l73.length ++ aL dV (l73.take k) ++ aA ([0, 1, 2, 3, 4].map .i) eR)) cW oV (fun H hH => cV (s := ⟨⟨aA ([0, 1, 2, 3, 4].map .i) eR⟩⟩) (cJ _) (fits (by rw [← dO (n := 5) [0, 1, 2, 3, 4] rfl]; exact fG (s2 := []) (r1 := editIts.drop 66) (l1 := editIts.take 65) rfl hv73 hcR rfl) hB) (hH.have fun p hp => by repeat (first | exact hp | exact List.mem_append_left _ hp | apply List.mem_cons_of_mem)) (hH.dist.sublist sW)) ?_
  rintro _ _ ⟨rfl, M2, rfl⟩
  rw [show aA (editIts.take 65) c ++ aF l73.length ++ aL dV (l73.take k) ++ aA ([0, 1, 2, 3, 4].map .i) eR = aA (editIts.take 65) c ++ aF l73.length ++ aL dV (l73.take (k + 1)) from (by rw [← dO (n := 5) [0, 1, 2, 3, 4] rfl, List.append_assoc]; exact congrArg _ (dN hcR))]
  refine aZ <| bA <| aD <| rA <| ob rfl (by exact aY (by omega)) ?_
  refine om rfl <| aZ ?_
  refine rd' (M2, k + 1) (show l73.length - (k + 1) < l73.length - k by omega) (show k + 1 ≤ l73.length by omega)
 ·obtain rfl : k = l73.length := by omega
  rw [iB (l3 := editIts.take 66) hv73 rfl]
  refine rA <| ob rfl (by exact aW (by omega)) ?_
  refine tq <| aG rfl <| bJ <| aR <| aS <| aN <| aD <| rB <| fo 74 V48 eB rfl <| fo 74 V44 aI rfl <| lB rfl V3 (bG px (i := 74) rfl) ?_
  refine fo 74 V48 eB rfl <| fo 75 V44 aI rfl <| lB rfl V3 (bG px (i := 75) rfl) ?_
  refine aM (out := [74, 75].map fun k => Value.int .i64 (iv (c k))) rfl rfl nM oP V22 aI rfl rfl (by kernel_rfl) rfl rfl ?_
  intro N78
  refine oc rT oV (fun H hH => jK (ex := true) px [74, 75] rfl (by simp) (hH.own (N78, _) mA).1 (hH.own (N78, _) mA).2.2.1 (by simp) rfl) ?_
  refine ot (bld TB N3 M1 (aA (editIts.take 66) c)) (fun u Lo => u = .tuple ⟨[.int .i64 (((aA ([74, 75].map .i) c).length : Nat) : Int), .nilIface]⟩ ∧ ∃ M2, Lo = bld TB N3 M2 (aA (editIts.take 66) c ++ aA ([74, 75].map .i) c)) cW oV (fun H hH => cV (s := ⟨⟨aA ([74, 75].map .i) c⟩⟩) (cJ _) (fits (fA (l1 := editIts.take 66) (l2 := [74, 75].map .i) 68 rfl) hB) (hH.have fun p hp => by repeat (first | exact hp | exact List.mem_append_left _ hp | apply List.mem_cons_of_mem)) (hH.dist.sublist sW)) ?_
  rintro _ _ ⟨rfl, M2, rfl⟩
  rw [show aA (editIts.take 66) c ++ aA ([74, 75].map .i) c = aA (editIts.take 68) c from bT rfl]
  refine eU gO nM ?_
  refine rC <| fo 76 V48 kJ rfl <| fo 76 V46 aI rfl <| lB rfl V3 (bG px (i := 76) rfl) ?_
  refine fo 76 V48 kJ rfl <| fo 77 V46 aI rfl <| lB rfl V3 (bG px (i := 77) rfl) ?_
  refine fo 76 V48 kJ rfl <| fo 78 V46 aI rfl <| lB rfl V3 (bG px (i := 78) rfl) ?_
  refine fo 76 V48 kJ rfl <| fo 79 V46 aI rfl <| lB rfl V3 (bG px (i := 79) rfl) ?_
  refine aM (out := [76, 77, 78, 79].map fun k => Value.int .i64 (iv (c k))) rfl rfl nM oP V22 aI rfl rfl (by kernel_rfl) rfl rfl ?_
  intro N93
  refine oc rT oV (fun H hH => jK (ex := true) px [76, 77, 78, 79] rfl (by simp) (hH.own (N93, _) mA).1 (hH.own (N93, _) mA).2.2.1 (by simp) rfl) ?_
  refine ot (bld TB N3 M2 (aA (editIts.take 68) c)) (fun u Lo => u = .tuple ⟨[.int .i64 (((aA ([76, 77, 78, 79].map .i) c).length : Nat) : Int), .nilIface]⟩ ∧ ∃ M2, Lo = bld TB N3 M2 (aA (editIts.take 68) c ++ aA ([76, 77, 78, 79].map .i) c)) cW oV (fun H hH => cV (s := ⟨⟨aA ([76, 77, 78, 79].map .i) c⟩⟩) (cJ _) (fits (fA (l1 := editIts.take 68) (l2 := [76, 77, 78, 79].map .i) 72 rfl) hB) (hH.have fun p hp => by repeat (first | exact hp | exact List.mem_append_left _ hp | apply List.mem_cons_of_mem)) (hH.dist.sublist sW)) ?_
  rintro _ _ ⟨rfl, M2, rfl⟩
  rw [show aA (editIts.take 68) c ++ aA ([76, 77, 78, 79].map .i) c = aA (editIts.take 72) c from bT rfl]
  refine eU gO nM ?_
  refine rC <| fo 80 V48 bL rfl <| fo 80 V31 aI rfl <| lB rfl V3 (bG px (i := 80) rfl) ?_
  refine fo 80 V48 bL rfl <| fo 81 V31 aI rfl <| lB rfl V3 (bG px (i := 81) rfl) ?_
  refine fo 80 V48 bL rfl <| fo 82 V31 aI rfl <| lB rfl V3 (bG px (i := 82) rfl) ?_
  refine fo 80 V48 bL rfl <| fo 83 V31 aI rfl <| lB rfl V3 (bG px (i := 83) rfl) ?_
  refine aM (out := [80, 81, 82, 83].map fun k => Value.int .i64 (iv (c k))) rfl rfl nM oP V22 aI rfl rfl (by kernel_rfl) rfl rfl ?_
  intro N108
  refine oc rT oV (fun H hH => jK (ex := true) px [80, 81, 82, 83] rfl (by simp) (hH.own (N108, _) mA).1 (hH.own (N108, _) mA).2.2.1 (by simp) rfl) ?_
  refine ot (bld TB N3 M2 (aA (editIts.take 72) c)) (fun u Lo => u = .tuple ⟨[.int .i64 (((aA ([80, 81, 82, 83].map .i) c).length : Nat) : Int), .nilIface]⟩ ∧ ∃ M2, Lo = bld TB N3 M2 (aA (editIts.take 72) c ++ aA ([80, 81, 82, 83].map .i) c)) cW oV (fun H hH => cV (s := ⟨⟨aA ([80, 81, 82, 83].map .i) c⟩⟩) (cJ _) (fits (fA (l1 := editIts.take 72) (l2 := [80, 81, 82, 83].map .i) 76 rfl) hB) (hH.have fun p hp => by repeat (first | exact hp | exact List.mem_append_left _ hp | apply List.mem_cons_of_mem)) (hH.dist.sublist sW)) ?_
  rintro _ _ ⟨rfl, M2, rfl⟩
  rw [show aA (editIts.take 72) c ++ aA ([80, 81, 82, 83].map .i) c = aA (editIts.take 76) c from bT rfl]
  refine eU gO nM ?_
  refine rC <| ot (bld TB N3 M2 (aA editIts c)) (fun u Lo => u = .string ⟨⟨aA editIts c⟩⟩) tF oV (fun H hH => tL (cJ _) (by omega) (hH.have fun p hp => by repeat (first | exact hp | exact List.mem_append_left _ hp | apply List.mem_cons_of_mem)) (hH.dist.sublist sW)) ?_
  rintro _ _ rfl
  refine oa rfl <| aB <| aT <| aE (.tmp rfl .nil) ?_
  exact fun H hH => ⟨rfl, hH.kept⟩
end Go.Proofs.YteklajiaicmogaaGreatDoor
namespace Go.Proofs.YteklajiaicmogaaGreatDoor
open Go Go.AM
def cY (c : Nat → CT) : Prop := ckE kV (iv (c 54)) (iv (c 55)) (rv (c 56)) = 0 ∧ ckE kV (iv (c 27)) (iv (c 28)) (rv (c 29)) = 0 ∧ ckE iI (iv (c 51)) (iv (c 52)) (rv (c 53)) = 0 ∧ ckE iI (iv (c 17)) (iv (c 18)) (rv (c 19)) = 0 ∧ (tv (c 6)).length ≤ 256 ∧ (tv (c 7)).length ≤ 256 ∧ (tv (c 11)).length ≤ 256 ∧ (tv (c 43)).length ≤ 256 ∧ (rv (c 73)).length ≤ 128 ∧ (rv (c 71)).length ≤ 8 ∧ (∀ r ∈ rv (c 71), (rv (cfn r 2)).length ≤ 16) ∧ (rv (c 35)).length ≤ 16 ∧ (rv (c 37)).length ≤ 16 ∧ (rv (c 38)).length ≤ 128 ∧ (rv (c 50)).length ≤ 64
instance (c : Nat → CT) : Decidable (cY c) := by unfold cY; infer_instance
theorem sQ {S : AH} {A : Nat → Prop} (hA : ∀ j, A j → j < S.nx) {w h : Int} {f : Nat → Value} {l : List (List CT)} (h0 : f 0 = .int .i64 w) (h1 : f 1 = .int .i64 h) (hx : CellA A S (.row 32 kP) (f 2) (.row l)) : XCall Tryz.prog 32 [.agg ⟨cellsOf 3 f⟩] S fun v H' => v = .int .i64 (ckE kV w h l) ∧ Kept S.nx S H' := by
 rw [show cellsOf 3 f = [f 0, f 1, f 2] from rfl, h0, h1]
 exact aCi hA hx
theorem sM {S : AH} {A : Nat → Prop} (hA : ∀ j, A j → j < S.nx) {w h : Int} {f : Nat → Value} {l : List (List CT)} (h0 : f 0 = .int .i64 w) (h1 : f 1 = .int .i64 h) (hx : CellA A S (.row 8 [.int .i64]) (f 2) (.row l)) : XCall Tryz.prog 33 [.agg ⟨cellsOf 3 f⟩] S fun v H' => v = .int .i64 (ckE iI w h l) ∧ Kept S.nx S H' := by
 rw [show cellsOf 3 f = [f 0, f 1, f 2] from rfl, h0, h1]
 exact aCq hA hx
def txs : Nat → Nat
 | 0 => 6
 | 1 => 7
 | 2 => 11
 | _ => 43
set_option maxHeartbeats 4000000 in
theorem aEq {S : AH} {A : Nat → Prop} (hA : ∀ j, A j → j < S.nx) {x : Nat → Value} {c : Nat → CT} (px : Pts A S jQ x c) : XCall Tryz.prog 9 [.agg ⟨cellsOf 84 x⟩] S fun v H' => v = .bool (decide (cY c)) ∧ Kept S.nx S H' := by
 obtain ⟨l73, a73, c73, e73, hx73, r73⟩ := (px 73 _ rfl).rowD
 have hv73 : rv (c 73) = l73 := by rw [e73]; rfl
 have hb73 := r73.len
 obtain ⟨l71, a71, c71, e71, hx71, r71⟩ := (px 71 _ rfl).rowD
 have hv71 : rv (c 71) = l71 := by rw [e71]; rfl
 have hb71 := r71.len
 obtain ⟨l35, a35, c35, e35, hx35, r35⟩ := (px 35 _ rfl).rowD
 have hv35 : rv (c 35) = l35 := by rw [e35]; rfl
 have hb35 := r35.len
 obtain ⟨l37, a37, c37, e37, hx37, r37⟩ := (px 37 _ rfl).rowD
 have hv37 : rv (c 37) = l37 := by rw [e37]; rfl
 have hb37 := r37.len
 obtain ⟨l38, a38, c38, e38, hx38, r38⟩ := (px 38 _ rfl).rowD
 have hv38 : rv (c 38) = l38 := by rw [e38]; rfl
 have hb38 := r38.len
 obtain ⟨l50, a50, c50, e50, hx50, r50⟩ := (px 50 _ rfl).rowD
 have hv50 : rv (c 50) = l50 := by rw [e50]; rfl
 have hb50 := r50.len
 refine bN (E := E) (n := 99) (rs := [.tmp 2]) (l := [(0, _)]) (aQ Tryz.func9 rfl rfl rfl) hA rfl ?_
 refine rB <| cZ rfl rfl nM rfl ?_
 intro N1
 refine oa rfl <| tq <| aH ?_
 rcases Decidable.em (ckE kV (iv (c 54)) (iv (c 55)) (rv (c 56)) = 0) with h0 | q
 ·refine rA <| fo 54 V48 fH rfl <| lC rfl V29 fH ?_
  refine oc aGl oV (fun H hH => sQ (f := fun i => x (54 + i)) hH.lt (bG px (i := 54) rfl) (bG px (i := 55) rfl) (CellA.gr hH.gr (.row 32 kP) (x 56) _ (kY px (i := 56) rfl))) ?_
  refine ob rfl (by exact bP (by assumption)) ?_
  refine om rfl <| fo 8 V48 fU rfl <| fo 27 V38 fH rfl <| lC rfl V29 fH ?_
  rcases Decidable.em (ckE kV (iv (c 27)) (iv (c 28)) (rv (c 29)) = 0) with h1 | q
  ·refine oc aGl oV (fun H hH => sQ (f := fun i => x (27 + i)) hH.lt (bG px (i := 27) rfl) (bG px (i := 28) rfl) (CellA.gr hH.gr (.row 32 kP) (x 29) _ (kY px (i := 29) rfl))) ?_
   refine ob rfl (by exact bP (by assumption)) ?_
   refine pQ rfl <| aB <| aG rfl <| aJ <| aD <| aH <| aH ?_
   rcases Decidable.em (ckE iI (iv (c 51)) (iv (c 52)) (rv (c 53)) = 0) with h2 | q
   ·refine rA <| fo 51 V48 fI rfl <| lC rfl V24 fI ?_
    refine oc aFo oV (fun H hH => sM (f := fun i => x (51 + i)) hH.lt (bG px (i := 51) rfl) (bG px (i := 52) rfl) (CellA.gr hH.gr (.row 8 [.int .i64]) (x 53) _ (kY px (i := 53) rfl))) ?_
    refine ob rfl (by exact bP (by assumption)) ?_
    refine om rfl <| fo 8 V48 fU rfl <| fo 17 V38 fI rfl <| lC rfl V24 fI ?_
    rcases Decidable.em (ckE iI (iv (c 17)) (iv (c 18)) (rv (c 19)) = 0) with h3 | q
    ·refine oc aFo oV (fun H hH => sM (f := fun i => x (17 + i)) hH.lt (bG px (i := 17) rfl) (bG px (i := 18) rfl) (CellA.gr hH.gr (.row 8 [.int .i64]) (x 19) _ (kY px (i := 19) rfl))) ?_
     refine ob rfl (by exact bP (by assumption)) ?_
     refine pQ rfl <| aB <| aG rfl <| aJ <| aD <| aH <| rB <| fo 6 V48 gJ rfl <| lB rfl V9 (tA px (i := 6) rfl) ?_
     refine fo 7 V48 gJ rfl <| lB rfl V9 (tA px (i := 7) rfl) ?_
     refine fo 8 V48 fU rfl <| fo 11 V38 gJ rfl <| lB rfl V9 (tA px (i := 11) rfl) ?_
     refine fo 8 V48 fU rfl <| fo 43 V38 gJ rfl <| lB rfl V9 (tA px (i := 43) rfl) ?_
     refine aM (out := [.string ⟨⟨tv (c 6)⟩⟩, .string ⟨⟨tv (c 7)⟩⟩, .string ⟨⟨tv (c 11)⟩⟩, .string ⟨⟨tv (c 43)⟩⟩]) rfl rfl nM oP V96 gJ rfl rfl (by kernel_rfl) rfl rfl ?_
     intro N40
     refine ll rfl V96 <| om rfl <| aB <| aK ?_
     refine bK (σ := Nat) (fun k => 4 - k) (fun k => [(1, .pointer (some ⟨2 * N1 + 1, 0, none⟩)), (40, .slice (some ⟨2 * N40 + 1, 0, none⟩) 4 4), (41, .int .i64 ((4 : Nat) : Int)), (42, .int .i64 ((k : Nat) : Int))]) (fun _ => S) (fun _ => A) (fun _ => ([(N40, .cells ([.string ⟨⟨tv (c 6)⟩⟩, .string ⟨⟨tv (c 7)⟩⟩, .string ⟨⟨tv (c 11)⟩⟩, .string ⟨⟨tv (c 43)⟩⟩]) 1 true)] : OL) ++ [(N1, .cells (cellsOf 84 x) (cI E 48) true)]) (fun k => k ≤ 4 ∧ ∀ j, j < k → (tv (c (txs j))).length ≤ 256) (0) (⟨Nat.zero_le _, fun j h => absurd h (Nat.not_lt_zero _)⟩) pK rfl rfl sU ?_
     intro k hJ2 t1
     obtain ⟨hJ, hg⟩ := hJ2
     refine aH ?_
     rcases (show k = 0 ∨ k = 1 ∨ k = 2 ∨ k = 3 ∨ k = 4 by omega) with rfl | rfl | rfl | rfl | rfl
     ·refine rA <| ob rfl (by exact aX (by omega)) ?_
      refine tq <| aO rfl <| aJ <| aD <| aH <| aK <| rB <| dP rfl rfl rfl rfl V96 gJ rfl (by omega) rfl ?_
      refine lG rfl V9 ?_
      refine oa rfl <| tq ?_
      rcases Nat.lt_or_ge 256 (tv (c 6)).length with q | q
      ·refine rA <| om rfl <| dB rfl rfl rfl rfl rfl rfl V9 <| ob rfl (by exact cR (by dsimp only; omega)) ?_
       refine aB <| aO rfl <| rB <| oa rfl <| aB <| aT <| bD <| aP <| cP <| bD <| aP <| aE (.tmp rfl .nil) ?_
       exact fun H hH => ⟨congrArg Value.bool (decide_eq_false (p := cY c) (fun h => (Nat.not_le_of_lt q) h.2.2.2.2.1)).symm, hH.kept⟩
      ·refine rA <| om rfl <| dB rfl rfl rfl rfl rfl rfl V9 <| ob rfl (by exact bW (by dsimp only; omega)) ?_
       refine aB <| aG rfl <| aJ <| bA <| aD <| rA <| ob rfl (by exact aY (by omega)) ?_
       refine om rfl <| aZ ?_
       refine rd' 1 (show 4 - 1 < 4 - 0 by omega) ⟨by omega, fun j hj => ?_⟩
       rcases (show j < 0 ∨ j = 0 by omega) with e | e
       ·exact hg j e
       ·subst e; exact q
     ·refine rA <| ob rfl (by exact aX (by omega)) ?_
      refine tq <| aO rfl <| aJ <| aD <| aH <| aK <| rB <| dP rfl rfl rfl rfl V96 gJ rfl (by omega) rfl ?_
      refine lG rfl V9 ?_
      refine oa rfl <| tq ?_
      rcases Nat.lt_or_ge 256 (tv (c 7)).length with q | q
      ·refine rA <| om rfl <| dB rfl rfl rfl rfl rfl rfl V9 <| ob rfl (by exact cR (by dsimp only; omega)) ?_
       refine aB <| aO rfl <| rB <| oa rfl <| aB <| aT <| bD <| aP <| cP <| bD <| aP <| aE (.tmp rfl .nil) ?_
       exact fun H hH => ⟨congrArg Value.bool (decide_eq_false (p := cY c) (fun h => (Nat.not_le_of_lt q) h.2.2.2.2.2.1)).symm, hH.kept⟩
      ·refine rA <| om rfl <| dB rfl rfl rfl rfl rfl rfl V9 <| ob rfl (by exact bW (by dsimp only; omega)) ?_
       refine aB <| aG rfl <| aJ <| bA <| aD <| rA <| ob rfl (by exact aY (by omega)) ?_
       refine om rfl <| aZ ?_
       refine rd' 2 (show 4 - 2 < 4 - 1 by omega) ⟨by omega, fun j hj => ?_⟩
       rcases (show j < 1 ∨ j = 1 by omega) with e | e
       ·exact hg j e
       ·subst e; exact q
     ·refine rA <| ob rfl (by exact aX (by omega)) ?_
      refine tq <| aO rfl <| aJ <| aD <| aH <| aK <| rB <| dP rfl rfl rfl rfl V96 gJ rfl (by omega) rfl ?_
      refine lG rfl V9 ?_
      refine oa rfl <| tq ?_
      rcases Nat.lt_or_ge 256 (tv (c 11)).length with q | q
      ·refine rA <| om rfl <| dB rfl rfl rfl rfl rfl rfl V9 <| ob rfl (by exact cR (by dsimp only; omega)) ?_
       refine aB <| aO rfl <| rB <| oa rfl <| aB <| aT <| bD <| aP <| cP <| bD <| aP <| aE (.tmp rfl .nil) ?_
       exact fun H hH => ⟨congrArg Value.bool (decide_eq_false (p := cY c) (fun h => (Nat.not_le_of_lt q) h.2.2.2.2.2.2.1)).symm, hH.kept⟩
      ·refine rA <| om rfl <| dB rfl rfl rfl rfl rfl rfl V9 <| ob rfl (by exact bW (by dsimp only; omega)) ?_
       refine aB <| aG rfl <| aJ <| bA <| aD <| rA <| ob rfl (by exact aY (by omega)) ?_
       refine om rfl <| aZ ?_
       refine rd' 3 (show 4 - 3 < 4 - 2 by omega) ⟨by omega, fun j hj => ?_⟩
       rcases (show j < 2 ∨ j = 2 by omega) with e | e
       ·exact hg j e
       ·subst e; exact q
     ·refine rA <| ob rfl (by exact aX (by omega)) ?_
      refine tq <| aO rfl <| aJ <| aD <| aH <| aK <| rB <| dP rfl rfl rfl rfl V96 gJ rfl (by omega) rfl ?_
      refine lG rfl V9 ?_
      refine oa rfl <| tq ?_
      rcases Nat.lt_or_ge 256 (tv (c 43)).length with q | q
      ·refine rA <| om rfl <| dB rfl rfl rfl rfl rfl rfl V9 <| ob rfl (by exact cR (by dsimp only; omega)) ?_
       refine aB <| aO rfl <| rB <| oa rfl <| aB <| aT <| bD <| aP <| cP <| bD <| aP <| aE (.tmp rfl .nil) ?_
       exact fun H hH => ⟨congrArg Value.bool (decide_eq_false (p := cY c) (fun h => (Nat.not_le_of_lt q) h.2.2.2.2.2.2.2.1)).symm, hH.kept⟩
      ·refine rA <| om rfl <| dB rfl rfl rfl rfl rfl rfl V9 <| ob rfl (by exact bW (by dsimp only; omega)) ?_
       refine aB <| aG rfl <| aJ <| bA <| aD <| rA <| ob rfl (by exact aY (by omega)) ?_
       refine om rfl <| aZ ?_
       refine rd' 4 (show 4 - 4 < 4 - 3 by omega) ⟨by omega, fun j hj => ?_⟩
       rcases (show j < 3 ∨ j = 3 by omega) with e | e
       ·exact hg j e
       ·subst e; exact q
     ·have hs := (⟨hg 0 (by omega), hg 1 (by omega), hg 2 (by omega), hg 3 (by omega)⟩ : _ ∧ _ ∧ _ ∧ _)
      dsimp only [txs] at hs
      refine rA <| ob rfl (by exact aW (by omega)) ?_
      refine tq <| aG rfl <| bJ <| aR <| aS <| aN <| aD <| aH <| aH ?_
      rcases Nat.lt_or_ge 128 l73.length with q | q73
      ·refine rA <| fo 73 V48 nI rfl <| lB rfl V42 hx73 ?_
       refine ll rfl V42 <| ob rfl (by exact cR (by omega)) ?_
       refine om rfl <| aC rfl rfl rfl <| aC rfl rfl rfl <| aC rfl rfl rfl <| aC rfl rfl rfl <| aC rfl rfl rfl <| pt rfl <| aB <| aO rfl <| rB <| oa rfl <| aB <| aT <| aP <| aE (.tmp rfl .nil) ?_
       exact fun H hH => ⟨congrArg Value.bool (decide_eq_false (p := cY c) (fun h => by have h2 := h.2.2.2.2.2.2.2.2.1; rw [hv73] at h2; omega)).symm, hH.kept⟩
      ·refine rA <| fo 73 V48 nI rfl <| lB rfl V42 hx73 ?_
       refine ll rfl V42 <| ob rfl (by exact bW (by omega)) ?_
       refine om rfl <| fo 57 V48 jT rfl <| fo 71 V41 rL rfl ?_
       rcases Nat.lt_or_ge 8 l71.length with q | q71
       ·refine lB rfl V39 hx71 ?_
        refine ll rfl V39 <| ob rfl (by exact cR (by omega)) ?_
        refine pQ rfl <| aB <| aO rfl <| rB <| oa rfl <| aB <| aT <| aP <| aE (.tmp rfl .nil) ?_
        exact fun H hH => ⟨congrArg Value.bool (decide_eq_false (p := cY c) (fun h => by have h2 := h.2.2.2.2.2.2.2.2.2.1; rw [hv71] at h2; omega)).symm, hH.kept⟩
       ·refine lB rfl V39 hx71 ?_
        refine ll rfl V39 <| ob rfl (by exact bW (by omega)) ?_
        refine pQ rfl <| aB <| aG rfl <| aJ <| aD <| aH <| rB <| fo 57 V48 jT rfl <| fo 71 V41 rL rfl <| lB rfl V39 hx71 ?_
        refine ll rfl V39 <| om rfl <| aB <| aK ?_
        refine bK (σ := Nat) (fun k => l71.length - k) (fun k => [(1, .pointer (some ⟨2 * N1 + 1, 0, none⟩)), (63, .slice a71 l71.length c71), (64, .int .i64 ((l71.length : Nat) : Int)), (65, .int .i64 ((k : Nat) : Int))]) (fun _ => S) (fun _ => A) (fun _ => [(N1, .cells (cellsOf 84 x) (cI E 48) true)]) (fun k => k ≤ l71.length ∧ ∀ j r, j < k → l71[j]? = some r → (rv (cfn r 2)).length ≤ 16) (0) (⟨Nat.zero_le _, fun j r h => absurd h (Nat.not_lt_zero _)⟩) pK rfl rfl sU ?_
        intro k hJ2 t2
        obtain ⟨hJ, hJ3⟩ := hJ2
        refine aH ?_
        rcases Nat.lt_or_ge k l71.length with hk | hk
        ·obtain ⟨qD, usD, dD, rfl, ixD, hcD, lxD, kxD⟩ := r71.at' k hk
         obtain ⟨yD, eD, rfl, rfl, pyD⟩ := kxD.fn (n := 3) rfl
         obtain ⟨l2, a2, c2, e2, hx2, r2⟩ := (pyD 2 _ rfl).rowD
         have hv2 : rv (eD 2) = l2 := by rw [e2]; rfl
         have hb2 := r2.len
         refine rA <| ob rfl (by exact aX (by omega)) ?_
         refine tq <| aO rfl <| aJ <| aD <| aH <| aK <| rB <| bH rfl rfl rfl rfl V39 kS rfl (by omega) ?_
         refine aV rfl rfl rfl (by exact cS V68 rfl kS rfl (InA.add ixD) lxD) ?_
         refine bR (cs := (.int .i64 0 :: .int .i64 0 :: .slice none 0 0 :: [])) rfl rfl nM kS rfl rfl ?_
         intro N6
         refine bX rfl nM rfl rfl kS (by exact aU _ _) (CellsA.one kxD) uP (by exact cF rfl) (by exact cH rfl rfl) nM ?_
         refine tq ?_
         rcases Nat.lt_or_ge 16 l2.length with q | q
         ·refine rA <| fo 2 V68 rE rfl <| lB rfl V66 hx2 ?_
          refine ll rfl V66 <| ob rfl (by exact cR (by omega)) ?_
          refine aB <| aO rfl <| rB <| oa rfl <| aB <| aT <| bD <| aP <| cP <| bD <| aP <| aE (.tmp rfl .nil) ?_
          exact fun H hH => ⟨congrArg Value.bool (decide_eq_false (p := cY c) (fun h => by have h3 := h.2.2.2.2.2.2.2.2.2.2.1 _ (by rw [hv71]; exact List.mem_of_getElem? hcD); rw [show cfn (dJ 3 eD) 2 = eD 2 from rfl, hv2] at h3; omega)).symm, hH.kept⟩
         ·refine rA <| fo 2 V68 rE rfl <| lB rfl V66 hx2 ?_
          refine ll rfl V66 <| ob rfl (by exact bW (by omega)) ?_
          refine aB <| aG rfl <| aJ <| bA <| aD <| rA <| ob rfl (by exact aY (by omega)) ?_
          refine om rfl <| aZ ?_
          refine rd' (k + 1) (show l71.length - (k + 1) < l71.length - k by omega) ⟨by omega, fun j r hj hr => ?_⟩
          rcases (show j < k ∨ j = k by omega) with e | e
          ·exact hJ3 j r e hr
          ·subst e; rw [hcD] at hr; cases hr; show (rv (eD 2)).length ≤ 16; rw [hv2]; exact q
        ·have hcur : ∀ r ∈ l71, (rv (cfn r 2)).length ≤ 16 := fun r hr => by
          obtain ⟨j, hj⟩ := List.getElem?_of_mem hr
          exact hJ3 j r (by have := lt_of_getElem? hj; omega) hj
         refine rA <| ob rfl (by exact aW (by omega)) ?_
         refine tq <| aG rfl <| bJ <| aR <| aS <| aN <| aD <| rB <| fo 8 V48 fU rfl <| lC rfl V38 fU ?_
         refine bR (cs := (.int .i64 0 :: .int .i64 0 :: .int .i64 0 :: .string ⟨#[]⟩ :: .bool false :: .bool false :: .bool false :: .int .i64 0 :: .int .i64 0 :: .int .i64 0 :: .int .i64 0 :: .slice none 0 0 :: .int .i64 0 :: .int .i64 0 :: .int .i64 0 :: .int .i64 0 :: .int .i64 0 :: .int .i64 0 :: .int .i64 0 :: .int .i64 0 :: .int .i64 0 :: .slice none 0 0 :: .int .i64 0 :: .int .i64 0 :: .int .i64 0 :: .int .i64 0 :: .int .i64 0 :: .slice none 0 0 :: .int .i64 0 :: .slice none 0 0 :: .slice none 0 0 :: .int .i64 0 :: .int .i64 0 :: .int .i64 0 :: .int .i64 0 :: .string ⟨#[]⟩ :: .int .i64 0 :: .int .i64 0 :: .int .i64 0 :: .int .i64 0 :: .int .i64 0 :: .int .i64 0 :: .slice none 0 0 :: [])) rfl rfl nM fU rfl rfl ?_
         intro N7
         refine bX rfl nM rfl rfl fU (by exact aU _ _) ((nN px 8 (ks2 := kNode) rfl).cells (n := 43) rfl).one uP (by exact cF rfl) (by exact cH rfl rfl) nM ?_
         refine tq ?_
         rcases Nat.lt_or_ge 16 l35.length with q | q35
         ·refine rA <| fo 27 V38 eI rfl <| lB rfl V22 hx35 ?_
          refine ll rfl V22 <| ob rfl (by exact gH (by omega)) ?_
          refine om rfl <| aC rfl rfl rfl <| aC rfl rfl rfl <| aC rfl rfl rfl <| aC rfl rfl rfl <| pQ rfl <| om rfl <| aC rfl rfl rfl <| aC rfl rfl rfl <| aC rfl rfl rfl <| aC rfl rfl rfl <| pQ rfl <| om rfl <| aC rfl rfl rfl <| aC rfl rfl rfl <| aC rfl rfl rfl <| aC rfl rfl rfl <| aC rfl rfl rfl <| pQ rfl <| oa rfl <| aB <| aT <| aE (.tmp rfl .nil) ?_
          exact fun H hH => ⟨congrArg Value.bool (decide_eq_false (p := cY c) (fun h => by have h2 := h.2.2.2.2.2.2.2.2.2.2.2.1; rw [hv35] at h2; omega)).symm, hH.kept⟩
         ·refine rA <| fo 27 V38 eI rfl <| lB rfl V22 hx35 ?_
          refine ll rfl V22 <| ob rfl (by exact dU (by omega)) ?_
          refine om rfl <| fo 29 V38 nX rfl ?_
          rcases Nat.lt_or_ge 16 l37.length with q | q37
          ·refine lB rfl V32 hx37 ?_
           refine ll rfl V32 <| ob rfl (by exact gH (by omega)) ?_
           refine pt rfl <| om rfl <| aC rfl rfl rfl <| aC rfl rfl rfl <| aC rfl rfl rfl <| aC rfl rfl rfl <| pQ rfl <| om rfl <| aC rfl rfl rfl <| aC rfl rfl rfl <| aC rfl rfl rfl <| aC rfl rfl rfl <| aC rfl rfl rfl <| pQ rfl <| oa rfl <| aB <| aT <| aE (.tmp rfl .nil) ?_
           exact fun H hH => ⟨congrArg Value.bool (decide_eq_false (p := cY c) (fun h => by have h2 := h.2.2.2.2.2.2.2.2.2.2.2.2.1; rw [hv37] at h2; omega)).symm, hH.kept⟩
          ·refine lB rfl V32 hx37 ?_
           refine ll rfl V32 <| ob rfl (by exact dU (by omega)) ?_
           refine pt rfl <| om rfl <| fo 30 V38 lN rfl ?_
           rcases Nat.lt_or_ge 128 l38.length with q | q38
           ·refine lB rfl V33 hx38 ?_
            refine ll rfl V33 <| ob rfl (by exact gH (by omega)) ?_
            refine pt rfl <| om rfl <| aC rfl rfl rfl <| aC rfl rfl rfl <| aC rfl rfl rfl <| aC rfl rfl rfl <| aC rfl rfl rfl <| pQ rfl <| oa rfl <| aB <| aT <| aE (.tmp rfl .nil) ?_
            exact fun H hH => ⟨congrArg Value.bool (decide_eq_false (p := cY c) (fun h => by have h2 := h.2.2.2.2.2.2.2.2.2.2.2.2.2.1; rw [hv38] at h2; omega)).symm, hH.kept⟩
           ·refine lB rfl V33 hx38 ?_
            refine ll rfl V33 <| ob rfl (by exact dU (by omega)) ?_
            refine pt rfl <| om rfl <| fo 39 V38 gU rfl <| fo 42 V36 oC rfl ?_
            rcases Nat.lt_or_ge 64 l50.length with q | q50
            ·refine lB rfl V34 hx50 ?_
             refine ll rfl V34 <| ob rfl (by exact gH (by omega)) ?_
             refine pt rfl <| oa rfl <| aB <| aT <| aE (.tmp rfl .nil) ?_
             exact fun H hH => ⟨congrArg Value.bool (decide_eq_false (p := cY c) (fun h => by have h2 := h.2.2.2.2.2.2.2.2.2.2.2.2.2.2; rw [hv50] at h2; omega)).symm, hH.kept⟩
            ·refine lB rfl V34 hx50 ?_
             refine ll rfl V34 <| ob rfl (by exact dU (by omega)) ?_
             refine pt rfl <| oa rfl <| aB <| aT <| aE (.tmp rfl .nil) ?_
             exact fun H hH => ⟨congrArg Value.bool (decide_eq_true (p := cY c) ⟨h0, h1, h2, h3, hs.1, hs.2.1, hs.2.2.1, hs.2.2.2, by rw [hv73]; exact q73, by rw [hv71]; exact q71, by rw [hv71]; exact hcur, by rw [hv35]; exact q35, by rw [hv37]; exact q37, by rw [hv38]; exact q38, by rw [hv50]; exact q50⟩).symm, hH.kept⟩
    ·refine oc aFo oV (fun H hH => sM (f := fun i => x (17 + i)) hH.lt (bG px (i := 17) rfl) (bG px (i := 18) rfl) (CellA.gr hH.gr (.row 8 [.int .i64]) (x 19) _ (kY px (i := 19) rfl))) ?_
     refine ob rfl (by exact dZ (by assumption)) ?_
     refine pQ rfl <| aB <| aO rfl <| rB <| oa rfl <| aB <| aT <| aP <| aE (.tmp rfl .nil) ?_
     exact fun H hH => ⟨congrArg Value.bool (decide_eq_false (p := cY c) (fun h => q h.2.2.2.1)).symm, hH.kept⟩
   ·refine rA <| fo 51 V48 fI rfl <| lC rfl V24 fI ?_
    refine oc aFo oV (fun H hH => sM (f := fun i => x (51 + i)) hH.lt (bG px (i := 51) rfl) (bG px (i := 52) rfl) (CellA.gr hH.gr (.row 8 [.int .i64]) (x 53) _ (kY px (i := 53) rfl))) ?_
    refine ob rfl (by exact dZ (by assumption)) ?_
    refine om rfl <| aC rfl rfl rfl <| aC rfl rfl rfl <| aC rfl rfl rfl <| aC rfl rfl rfl <| aC rfl rfl rfl <| pt rfl <| aB <| aO rfl <| rB <| oa rfl <| aB <| aT <| aP <| aE (.tmp rfl .nil) ?_
    exact fun H hH => ⟨congrArg Value.bool (decide_eq_false (p := cY c) (fun h => q h.2.2.1)).symm, hH.kept⟩
  ·refine oc aGl oV (fun H hH => sQ (f := fun i => x (27 + i)) hH.lt (bG px (i := 27) rfl) (bG px (i := 28) rfl) (CellA.gr hH.gr (.row 32 kP) (x 29) _ (kY px (i := 29) rfl))) ?_
   refine ob rfl (by exact dZ (by assumption)) ?_
   refine pQ rfl <| aB <| aO rfl <| rB <| oa rfl <| aB <| aT <| aP <| aE (.tmp rfl .nil) ?_
   exact fun H hH => ⟨congrArg Value.bool (decide_eq_false (p := cY c) (fun h => q h.2.1)).symm, hH.kept⟩
 ·refine rA <| fo 54 V48 fH rfl <| lC rfl V29 fH ?_
  refine oc aGl oV (fun H hH => sQ (f := fun i => x (54 + i)) hH.lt (bG px (i := 54) rfl) (bG px (i := 55) rfl) (CellA.gr hH.gr (.row 32 kP) (x 56) _ (kY px (i := 56) rfl))) ?_
  refine ob rfl (by exact dZ (by assumption)) ?_
  refine om rfl <| aC rfl rfl rfl <| aC rfl rfl rfl <| aC rfl rfl rfl <| aC rfl rfl rfl <| aC rfl rfl rfl <| pt rfl <| aB <| aO rfl <| rB <| oa rfl <| aB <| aT <| aP <| aE (.tmp rfl .nil) ?_
  exact fun H hH => ⟨congrArg Value.bool (decide_eq_false (p := cY c) (fun h => q h.1)).symm, hH.kept⟩
end Go.Proofs.YteklajiaicmogaaGreatDoor
namespace Go.Proofs.YteklajiaicmogaaGreatDoor
open Go Go.AM
/-- one step of the checksum's register -/
def jU (x : Nat) : Nat := bif Nat.beq (x % 2) 1 then (x / 2) ^^^ 3988292384 else x / 2
def qJ (x : Nat) : Nat := jU (jU (jU (jU (jU (jU (jU (jU x)))))))
def aMe (c : Nat) (b : UInt8) : Nat := (c / 256) ^^^ qJ ((c % 256) ^^^ b.toNat)
def mL (l : List UInt8) : Nat := l.foldl aMe 4294967295
/-- the checksum of a text -/
def tC (l : List UInt8) : Nat := 4294967295 - mL l
theorem lM {x : Nat} (h : x < 4294967296) : jU x < 4294967296 := by
 unfold jU
 cases Nat.beq (x % 2) 1 with
 | true => exact Nat.xor_lt_two_pow (n := 32) (by omega) (by decide)
 | false => show x / 2 < _; omega
theorem aGd {x : Nat} (h : x < 4294967296) : qJ x < 4294967296 := lM (lM (lM (lM (lM (lM (lM (lM h)))))))
theorem aTq {c : Nat} (h : c < 4294967296) (b : UInt8) : aMe c b < 4294967296 := by
 have hb := b.toNat_lt
 have : (c % 256) ^^^ b.toNat < 2 ^ 8 := Nat.xor_lt_two_pow (by omega) (by omega)
 exact Nat.xor_lt_two_pow (n := 32) (by omega) (aGd (by omega))
theorem aKs : ∀ (l : List UInt8) (c : Nat), c < 4294967296 → l.foldl aMe c < 4294967296
 | [], c, h => h
 | b :: l, c, h => aKs l _ (aTq h b)
theorem yU (l : List UInt8) : mL l < 4294967296 := aKs l _ (by decide)
theorem aCu {l : List UInt8} {k : Nat} {b : UInt8} (h : l[k]? = some b) : mL (l.take (k + 1)) = aMe (mL (l.take k)) b := by
 rw [List.take_succ_eq_append_getElem (lt_of_getElem? h), mL, List.foldl_append]
 obtain ⟨hk, rfl⟩ := List.getElem?_eq_some_iff.1 h
 rfl
def aHy : List Value := (List.range 256).map fun i => .int .u32 (qJ i : Int)
theorem aTb {j : Nat} (h : j < 256) : aHy[j]? = some (.int .u32 (qJ j : Int)) := by
 simp only [aHy, List.getElem?_map, List.getElem?_range h, Option.map_some]
def gI : Nat → Nat → Nat
 | 0, x => x
 | k + 1, x => jU (gI k x)
theorem aAd {x : Nat} (h : x < 4294967296) : ∀ k, gI k x < 4294967296
 | 0 => h
 | k + 1 => lM (aAd h k)
theorem aCh {x k : Nat} (h : gI k x % 2 = 1) : gI (k + 1) x = (gI k x / 2) ^^^ 3988292384 := by
 show jU _ = _
 unfold jU
 rw [h]; rfl
theorem aAq {x k : Nat} (h : ¬ gI k x % 2 = 1) : gI (k + 1) x = gI k x / 2 := by
 show jU _ = _
 unfold jU
 rw [show gI k x % 2 = 0 by omega]; rfl
/-- the table, k entries of it filled -/
def fT (k : Nat) (j : Nat) : Value := .int .u32 ((bif Nat.blt j k then gI 8 j else 0 : Nat) : Int)
theorem aRs {k : Nat} (h : k < 256) : (cellsOf 256 (fT k)).take k ++ ([.int .u32 ((gI 8 k : Nat) : Int)] ++ (cellsOf 256 (fT k)).drop (k + 1)) = cellsOf 256 (fT (k + 1)) := by
 rw [jF (by simp only [Nat.blt, Nat.ble_eq]; omega)]
 congr 1
 funext j
 unfold gX fT
 cases e : Nat.beq j k with
 | true =>
  have := Nat.eq_of_beq_eq_true e
  subst this
  have : Nat.blt j (j + 1) = true := by simp only [Nat.blt, Nat.ble_eq]; omega
  rw [this]; rfl
 | false =>
  have hne : j ≠ k := fun q => by rw [q] at e; simp at e
  have : Nat.blt j (k + 1) = Nat.blt j k := by
   rw [Bool.eq_iff_iff]; simp only [Nat.blt, Nat.ble_eq]; omega
  rw [this]; rfl
theorem aRv : cellsOf 256 (fT 256) = aHy := by
 unfold cellsOf aHy
 apply List.map_congr_left
 intro j hj
 have : Nat.blt j 256 = true := by have := List.mem_range.1 hj; simp only [Nat.blt, Nat.ble_eq]; omega
 unfold fT
 rw [this]; rfl
theorem aQz : ∀ (n c : Nat), c < 2 ^ n → (2 ^ n - 1) ^^^ c = 2 ^ n - 1 - c := by
 intro n c h
 apply Nat.eq_of_testBit_eq
 intro i
 rw [Nat.testBit_xor, Nat.testBit_two_pow_sub_one, show 2 ^ n - 1 - c = 2 ^ n - (c + 1) by omega, Nat.testBit_two_pow_sub_succ h]
 by_cases hi : i < n
 ·simp [hi]
 ·have : c.testBit i = false := Nat.testBit_lt_two_pow (Nat.lt_of_lt_of_le h (Nat.pow_le_pow_right (by decide) (by omega)))
  simp [hi, this]
theorem aEs {c : Nat} (h : c < 4294967296) : 4294967295 ^^^ c = 4294967295 - c := aQz 32 c h
set_option maxHeartbeats 1000000 in
theorem aXd (S : AH) : XCall Tryz.prog 134 [] S fun v H' => v = .agg ⟨aHy⟩ ∧ Kept S.nx S H' := by
 refine bN (E := E) (n := 25) (rs := [.cell 0 180]) (l := []) (aQ Tryz.func134 rfl rfl rfl) (A0 := fun _ => False) (fun j h => h.elim) rfl ?_
 refine rB <| bR (cs := cellsOf 256 (fT 0)) rfl rfl nM uA rfl (by kernel_rfl) ?_
 intro N0
 refine rC <| bR (cs := cellsOf 256 (fT 0)) rfl rfl nM uA rfl (by kernel_rfl) ?_
 intro N1
 refine tq <| rB <| om rfl <| aB <| aK ?_
 refine bK (σ := Nat) (fun k => 256 - k) (fun k => [(0, .pointer (some ⟨2 * N0 + 1, 0, none⟩)), (1, .pointer (some ⟨2 * N1 + 1, 0, none⟩)), (4, .int .i64 ((k : Nat) : Int))]) (fun _ => S) (fun _ => fun _ => False) (fun k => [(N1, .cells (cellsOf 256 (fT k)) (cI E 180) true), (N0, .cells (cellsOf 256 (fT 0)) (cI E 180) true)]) (fun k => k ≤ 256) (0) ((Nat.zero_le _)) pK rfl rfl sV ?_
 intro s hJ t1
 refine aH ?_
 rcases Nat.lt_or_ge s 256 with hk | hk
 ·refine rA <| ob rfl (by exact aX (by omega)) ?_
  refine tq <| aO rfl <| aJ <| aD <| aH <| aK <| rB <| om rfl <| oa rfl <| rC <| om rfl <| cE rfl rfl rfl V3 aDo (fW _ (by omega) (by omega)) ?_
  refine oa rfl <| tq <| rB <| om rfl <| aB <| aK ?_
  refine bK (σ := Nat) (fun k => 8 - k) (fun k => [(0, .pointer (some ⟨2 * N0 + 1, 0, none⟩)), (1, .pointer (some ⟨2 * N1 + 1, 0, none⟩)), (2, .int .i64 ((s : Nat) : Int)), (3, .int .u32 ((gI k s : Nat) : Int)), (4, .int .i64 ((s : Nat) : Int)), (9, .int .i64 ((k : Nat) : Int))]) (fun _ => S) (fun _ => fun _ => False) (fun k => [(N1, .cells (cellsOf 256 (fT s)) (cI E 180) true), (N0, .cells (cellsOf 256 (fT 0)) (cI E 180) true)]) (fun k => k ≤ 8) (0) ((Nat.zero_le _)) pK rfl rfl sV ?_
  intro k2 hJ2 t2
  refine aH ?_
  rcases Nat.lt_or_ge k2 8 with hk2 | hk2
  ·have hc := aAd (x := s) (by omega) k2
   have ha : bits .and .u32 ((gI k2 s : Nat) : Int) 1 = ((gI k2 s % 2 : Nat) : Int) := bits_mask .u32 32 (by decide) fW 1 (by decide) _ (by omega) (by omega)
   refine rA <| ob rfl (by exact aX (by omega)) ?_
   refine tq <| aO rfl <| aJ <| aD <| aH <| aK <| aH ?_
   by_cases hp : gI k2 s % 2 = 1
   ·have hx : bits .xor .u32 ((gI k2 s / 2 : Nat) : Int) 3988292384 = ((gI (k2 + 1) s : Nat) : Int) := by rw [aCh hp]; exact gD .u32 32 (by decide) fW _ 3988292384 (by omega) (by decide)
    refine rA <| om rfl <| ob rfl (by exact pN ha) ?_
    refine ob rfl (by exact cM (by omega)) ?_
    refine aB <| aO rfl <| rA <| om rfl <| ob rfl (by exact kA (by decide) (jV (j := 1) rfl)) ?_
    refine ob rfl (by exact vN hx) ?_
    refine oa rfl <| aZ <| bA <| aD <| rA <| ob rfl (by exact aY (by omega)) ?_
    refine om rfl <| aZ ?_
    refine rd' (k2 + 1) (show 8 - (k2 + 1) < 8 - k2 by omega) (by omega)
   ·have hx : ((gI k2 s : Nat) : Int).fdiv (2 ^ (min (1 : Int).toNat IntKind.u32.bits)) = ((gI (k2 + 1) s : Nat) : Int) := by rw [aAq hp]; exact jV (j := 1) rfl
    refine rA <| om rfl <| ob rfl (by exact pN ha) ?_
    refine ob rfl (by exact cL (by omega)) ?_
    refine aB <| aG rfl <| rA <| om rfl <| ob rfl (by exact kA (by decide) hx) ?_
    refine oa rfl <| aZ <| bA <| aD <| rA <| ob rfl (by exact aY (by omega)) ?_
    refine om rfl <| aZ ?_
    refine rd' (k2 + 1) (show 8 - (k2 + 1) < 8 - k2 by omega) (by omega)
  ·obtain rfl : k2 = 8 := by omega
   refine rA <| ob rfl (by exact aW (by omega)) ?_
   refine tq <| aG rfl <| bJ <| aR <| aS <| aN <| aD <| rA <| om rfl <| om rfl <| kL rfl rfl rfl rfl aUe aIr rfl hk (show 0 + s * 1 = s by omega) ?_
   refine dC rfl nM rfl rfl aIr rfl rfl uP (aRs hk) (by rw [aU]; omega) nM ?_
   refine aZ <| bA <| aD <| rA <| ob rfl (by exact aY (by omega)) ?_
   refine om rfl <| aZ ?_
   refine rd' (s + 1) (show 256 - (s + 1) < 256 - s by omega) (by omega)
 ·obtain rfl : s = 256 := by omega
  refine rA <| ob rfl (by exact aW (by omega)) ?_
  refine tq <| aG rfl <| bJ <| aR <| aS <| aN <| aD <| rB <| aV rfl rfl rfl (by exact bV aUe rfl uA rfl mA (by exact bQ rfl) (by exact bZ)) ?_
  refine bX rfl nM rfl rfl uA (aU _ _) (by kernel_rfl) uP (fS (by rw [aU, aU])) (by exact cH rfl rfl) nM ?_
  refine aB <| aT <| aE (.cell rfl (by exact bV aUe rfl uA rfl mA (by exact bQ rfl) (by exact bZ)) .nil) ?_
  exact fun H hH => ⟨by rw [aRv], hH.kept⟩
set_option maxHeartbeats 1000000 in
theorem aWl {S : AH} (q : ByteArray) (hq : q.data.toList.length ≤ 4611686018427387904) : XCall Tryz.prog 72 [.string q] S fun v H' => v = .int .u32 (tC q.data.toList : Int) ∧ Kept S.nx S H' := by
 refine bN (E := E) (n := 26) (rs := [.tmp 2]) (l := [(0, _)]) (aQ Tryz.func72 rfl rfl rfl) (A0 := fun _ => False) (fun j h => h.elim) rfl ?_
 refine rB <| oa rfl <| rC <| oc aWk oV (fun H hH => aXd H) ?_
 refine bR (cs := (.int .u32 0 :: .int .u32 0 :: .int .u32 0 :: .int .u32 0 :: .int .u32 0 :: .int .u32 0 :: .int .u32 0 :: .int .u32 0 :: .int .u32 0 :: .int .u32 0 :: .int .u32 0 :: .int .u32 0 :: .int .u32 0 :: .int .u32 0 :: .int .u32 0 :: .int .u32 0 :: .int .u32 0 :: .int .u32 0 :: .int .u32 0 :: .int .u32 0 :: .int .u32 0 :: .int .u32 0 :: .int .u32 0 :: .int .u32 0 :: .int .u32 0 :: .int .u32 0 :: .int .u32 0 :: .int .u32 0 :: .int .u32 0 :: .int .u32 0 :: .int .u32 0 :: .int .u32 0 :: .int .u32 0 :: .int .u32 0 :: .int .u32 0 :: .int .u32 0 :: .int .u32 0 :: .int .u32 0 :: .int .u32 0 :: .int .u32 0 :: .int .u32 0 :: .int .u32 0 :: .int .u32 0 :: .int .u32 0 :: .int .u32 0 :: .int .u32 0 :: .int .u32 0 :: .int .u32 0 :: .int .u32 0 :: .int .u32 0 :: .int .u32 0 :: .int .u32 0 :: .int .u32 0 :: .int .u32 0 :: .int .u32 0 :: .int .u32 0 :: .int .u32 0 :: .int .u32 0 :: .int .u32 0 :: .int .u32 0 :: .int .u32 0 :: .int .u32 0 :: .int .u32 0 :: .int .u32 0 :: .int .u32 0 :: .int .u32 0 :: .int .u32 0 :: .int .u32 0 :: .int .u32 0 :: .int .u32 0 :: .int .u32 0 :: .int .u32 0 :: .int .u32 0 :: .int .u32 0 :: .int .u32 0 :: .int .u32 0 :: .int .u32 0 :: .int .u32 0 :: .int .u32 0 :: .int .u32 0 :: .int .u32 0 :: .int .u32 0 :: .int .u32 0 :: .int .u32 0 :: .int .u32 0 :: .int .u32 0 :: .int .u32 0 :: .int .u32 0 :: .int .u32 0 :: .int .u32 0 :: .int .u32 0 :: .int .u32 0 :: .int .u32 0 :: .int .u32 0 :: .int .u32 0 :: .int .u32 0 :: .int .u32 0 :: .int .u32 0 :: .int .u32 0 :: .int .u32 0 :: .int .u32 0 :: .int .u32 0 :: .int .u32 0 :: .int .u32 0 :: .int .u32 0 :: .int .u32 0 :: .int .u32 0 :: .int .u32 0 :: .int .u32 0 :: .int .u32 0 :: .int .u32 0 :: .int .u32 0 :: .int .u32 0 :: .int .u32 0 :: .int .u32 0 :: .int .u32 0 :: .int .u32 0 :: .int .u32 0 :: .int .u32 0 :: .int .u32 0 :: .int .u32 0 :: .int .u32 0 :: .int .u32 0 :: .int .u32 0 :: .int .u32 0 :: .int .u32 0 :: .int .u32 0 :: .int .u32 0 :: .int .u32 0 :: .int .u32 0 :: .int .u32 0 :: .int .u32 0 :: .int .u32 0 :: .int .u32 0 :: .int .u32 0 :: .int .u32 0 :: .int .u32 0 :: .int .u32 0 :: .int .u32 0 :: .int .u32 0 :: .int .u32 0 :: .int .u32 0 :: .int .u32 0 :: .int .u32 0 :: .int .u32 0 :: .int .u32 0 :: .int .u32 0 :: .int .u32 0 :: .int .u32 0 :: .int .u32 0 :: .int .u32 0 :: .int .u32 0 :: .int .u32 0 :: .int .u32 0 :: .int .u32 0 :: .int .u32 0 :: .int .u32 0 :: .int .u32 0 :: .int .u32 0 :: .int .u32 0 :: .int .u32 0 :: .int .u32 0 :: .int .u32 0 :: .int .u32 0 :: .int .u32 0 :: .int .u32 0 :: .int .u32 0 :: .int .u32 0 :: .int .u32 0 :: .int .u32 0 :: .int .u32 0 :: .int .u32 0 :: .int .u32 0 :: .int .u32 0 :: .int .u32 0 :: .int .u32 0 :: .int .u32 0 :: .int .u32 0 :: .int .u32 0 :: .int .u32 0 :: .int .u32 0 :: .int .u32 0 :: .int .u32 0 :: .int .u32 0 :: .int .u32 0 :: .int .u32 0 :: .int .u32 0 :: .int .u32 0 :: .int .u32 0 :: .int .u32 0 :: .int .u32 0 :: .int .u32 0 :: .int .u32 0 :: .int .u32 0 :: .int .u32 0 :: .int .u32 0 :: .int .u32 0 :: .int .u32 0 :: .int .u32 0 :: .int .u32 0 :: .int .u32 0 :: .int .u32 0 :: .int .u32 0 :: .int .u32 0 :: .int .u32 0 :: .int .u32 0 :: .int .u32 0 :: .int .u32 0 :: .int .u32 0 :: .int .u32 0 :: .int .u32 0 :: .int .u32 0 :: .int .u32 0 :: .int .u32 0 :: .int .u32 0 :: .int .u32 0 :: .int .u32 0 :: .int .u32 0 :: .int .u32 0 :: .int .u32 0 :: .int .u32 0 :: .int .u32 0 :: .int .u32 0 :: .int .u32 0 :: .int .u32 0 :: .int .u32 0 :: .int .u32 0 :: .int .u32 0 :: .int .u32 0 :: .int .u32 0 :: .int .u32 0 :: .int .u32 0 :: .int .u32 0 :: .int .u32 0 :: .int .u32 0 :: .int .u32 0 :: .int .u32 0 :: .int .u32 0 :: .int .u32 0 :: .int .u32 0 :: .int .u32 0 :: .int .u32 0 :: .int .u32 0 :: .int .u32 0 :: .int .u32 0 :: .int .u32 0 :: .int .u32 0 :: .int .u32 0 :: .int .u32 0 :: .int .u32 0 :: .int .u32 0 :: .int .u32 0 :: .int .u32 0 :: .int .u32 0 :: .int .u32 0 :: .int .u32 0 :: [])) rfl rfl nM uA rfl rfl ?_
 intro N3
 refine bX rfl nM rfl rfl uA (by kernel_rfl) (by kernel_rfl) uP (fS (by kernel_rfl)) (by exact cH rfl rfl) nM ?_
 refine rC <| oa rfl <| tq <| rB <| om rfl <| dB rfl rfl rfl rfl rfl rfl V9 <| om rfl <| aB <| aK ?_
 refine bK (σ := Nat) (fun k => q.data.toList.length - k) (fun k => [(0, .string q), (3, .pointer (some ⟨2 * N3 + 1, 0, none⟩)), (4, .int .u32 (mL (q.data.toList.take k) : Int)), (8, .int .i64 ((q.data.toList.length : Nat) : Int)), (9, .int .i64 ((k : Nat) : Int))]) (fun _ => S) (fun _ => fun _ => False) (fun _ => [(N3, .cells aHy (cI E 180) true)]) (fun k => k ≤ q.data.toList.length) (0) ((Nat.zero_le _)) pK rfl rfl sV ?_
 intro s hJ t1
 refine aH ?_
 rcases Nat.lt_or_ge s q.data.toList.length with hk | hk
 ·obtain ⟨b, hb⟩ : ∃ b, q.data.toList[s]? = some b := ⟨_, List.getElem?_eq_getElem hk⟩
  have hnew := aCu hb
  have hc := yU (q.data.toList.take s)
  generalize hcc : mL (q.data.toList.take s) = c at hnew hc ⊢
  have hb8 := b.toNat_lt
  have hx8 : (c % 256) ^^^ b.toNat < 2 ^ 8 := Nat.xor_lt_two_pow (by omega) (by omega)
  have hx : bits .xor .u8 ((c % 256 : Nat) : Int) (b.toNat : Int) = (((c % 256) ^^^ b.toNat : Nat) : Int) := gD .u8 8 (by decide) wQ _ _ (by omega) (by omega)
  have hy : bits .xor .u32 ((c / 256 : Nat) : Int) ((qJ ((c % 256) ^^^ b.toNat) : Nat) : Int) = ((aMe c b : Nat) : Int) := gD .u32 32 (by decide) fW _ _ (by omega) (aGd (by omega))
  refine rA <| ob rfl (by exact aX (by omega)) ?_
  refine tq <| aO rfl <| aJ <| aD <| aH <| aK <| rB <| om rfl <| oa rfl <| rD <| om rfl <| ob rfl (by exact kA (by decide) (jV (j := 8) rfl)) ?_
  refine om rfl <| cE rfl rfl rfl aDo V5 (mU c) ?_
  refine om rfl <| om rfl <| zH rfl rfl rfl rfl V9 (by assumption) ?_
  refine ob rfl (by exact vN hx) ?_
  refine kL rfl rfl rfl rfl aUe aIr rfl (show (c % 256) ^^^ b.toNat < 256 by omega) rfl ?_
  refine aV rfl rfl rfl (gC aDo rfl mA (show aHy[0 + ((c % 256) ^^^ b.toNat) * 1]? = _ by rw [Nat.zero_add, Nat.mul_one]; exact aTb (by omega))) ?_
  refine ob rfl (by exact vN hy) ?_
  refine oa rfl <| aZ <| bA <| aD <| rA <| ob rfl (by exact aY (by omega)) ?_
  refine om rfl <| aZ ?_
  refine cN (s + 1) (show q.data.toList.length - (s + 1) < q.data.toList.length - s by omega) (by omega) (by repeat (first | exact .nil | refine .cons (by first | rfl | (rw [hnew]; rfl)) ?_)) rfl rfl sV
 ·obtain rfl : s = q.data.toList.length := by omega
  rw [List.take_length]
  have hc := yU q.data.toList
  have hn : bits .xor .u32 IntKind.u32.max (mL q.data.toList : Int) = ((tC q.data.toList : Nat) : Int) := by rw [show IntKind.u32.max = ((4294967295 : Nat) : Int) from rfl, gD .u32 32 (by decide) fW _ _ (by decide) (by omega), aEs hc]; rfl
  refine rA <| ob rfl (by exact aW (by omega)) ?_
  refine tq <| aG rfl <| bJ <| aR <| aS <| aN <| aD <| rB <| om rfl <| aGa rfl rfl rfl (show aun .xor (.int .u32 _) = some (.int .u32 _) by simp only [aun]; exact congrArg (fun z => some (Value.int .u32 z)) hn) ?_
  refine oa rfl <| aB <| aT <| aE (.tmp rfl .nil) ?_
  exact fun H hH => ⟨rfl, hH.kept⟩
def le4 (n : Nat) : List UInt8 := [UInt8.ofNat n, UInt8.ofNat (n / 256), UInt8.ofNat (n / 65536), UInt8.ofNat (n / 16777216)]
def dE (s : List UInt8) : List UInt8 := fJ s ++ le4 (tC (fJ s))
theorem aRr {S : AH} (q : ByteArray) (hq : q.data.toList.length ≤ 4611686018427387904) : XCall Tryz.prog 35 [.string q] S fun v H' => v = .string ⟨⟨le4 (tC q.data.toList)⟩⟩ ∧ Kept S.nx S H' := by
 refine bN (E := E) (n := 19) (rs := [.tmp 2]) (l := [(0, _)]) (aQ Tryz.func35 rfl rfl rfl) (A0 := fun _ => False) (fun j h => h.elim) rfl ?_
 refine rB <| oa rfl <| rC <| om rfl <| oc has72 oV (fun H hH => aWl q hq) ?_
 refine oa rfl <| rC <| om rfl <| cE rfl rfl rfl aDo V5 (mU (tC q.data.toList)) ?_
 refine om rfl <| ob rfl (by exact kA (by decide) (jV (j := 8) rfl)) ?_
 refine cE rfl rfl rfl aDo V5 (mU (tC q.data.toList / 256)) ?_
 refine om rfl <| ob rfl (by exact kA (by decide) (jV (j := 16) rfl)) ?_
 refine cE rfl rfl rfl aDo V5 (mU (tC q.data.toList / 65536)) ?_
 refine om rfl <| ob rfl (by exact kA (by decide) (jV (j := 24) rfl)) ?_
 refine cE rfl rfl rfl aDo V5 (mU (tC q.data.toList / 16777216)) ?_
 refine aM (out := (le4 (tC q.data.toList)).map eN) rfl rfl nM oP V98 oZ rfl rfl (by kernel_rfl) rfl rfl ?_
 intro N17
 refine lW rfl rfl nM rfl V98 V5 V9 mA rfl (kG _) ?_
 refine oa rfl <| aB <| aT <| aE (.tmp rfl .nil) ?_
 exact fun H hH => ⟨rfl, hH.kept⟩
theorem aSl {S : AH} (s : ByteArray) (hs : s.data.toList.length ≤ 1048576) : XCall Tryz.prog 10 [.string s] S fun v H' => v = .tuple ⟨[.string ⟨⟨dE s.data.toList⟩⟩, .int .i64 0]⟩ ∧ Kept S.nx S H' := by
 refine bN (E := E) (n := 14) (rs := [.tmp 2, .tmp 3]) (l := [(0, _)]) (aQ Tryz.func10 rfl rfl rfl) (A0 := fun _ => False) (fun j h => h.elim) rfl ?_
 refine rB <| oa rfl <| oa rfl <| tq <| rB <| om rfl <| dB rfl rfl rfl rfl rfl rfl V9 <| ob rfl (by exact bW (by omega)) ?_
 refine aB <| aG rfl <| aJ <| aD <| rB <| om rfl <| oc aGs oV (fun H hH => vQ (by omega)) ?_
 refine oa rfl <| rC <| om rfl <| om rfl <| oc aVl oV (fun H hH => aRr ⟨⟨fJ s.data.toList⟩⟩ (by have := rO (s := s.data.toList) hs (by decide); show (fJ s.data.toList).length ≤ _; omega)) ?_
 refine ob rfl (by exact bE (show (fJ s.data.toList).length + (le4 (tC (fJ s.data.toList))).length ≤ _ by have := rO (s := s.data.toList) hs (by decide); simp only [le4, List.length_cons, List.length_nil]; omega) rfl) ?_
 refine oa rfl <| oa rfl <| aB <| aT <| dX (.tmp rfl (.tmp rfl .nil)) ?_
 exact fun H hH => ⟨rfl, hH.kept⟩
theorem aMh {S : AH} (s : ByteArray) (hs : 1048576 < s.data.toList.length) : XCall Tryz.prog 10 [.string s] S fun v H' => v = .tuple ⟨[.string ⟨⟨[]⟩⟩, .int .i64 3]⟩ ∧ Kept S.nx S H' := by
 refine bN (E := E) (n := 14) (rs := [.tmp 2, .tmp 3]) (l := [(0, _)]) (aQ Tryz.func10 rfl rfl rfl) (A0 := fun _ => False) (fun j h => h.elim) rfl ?_
 refine rB <| oa rfl <| oa rfl <| tq <| rB <| om rfl <| dB rfl rfl rfl rfl rfl rfl V9 <| ob rfl (by exact cR (by omega)) ?_
 refine aB <| aO rfl <| rB <| oa rfl <| oa rfl <| aB <| aT <| aP <| dX (.tmp rfl (.tmp rfl .nil)) ?_
 exact fun H hH => ⟨rfl, hH.kept⟩
end Go.Proofs.YteklajiaicmogaaGreatDoor
namespace Go.Proofs.YteklajiaicmogaaGreatDoor
open Go Go.AM
def fV (c : Nat → CT) : Value := if cY c then (if (aA editIts c).length ≤ 1048576 ∧ (dE (aA editIts c)).length ≤ 1048576 then .tuple ⟨[.string ⟨⟨dE (aA editIts c)⟩⟩, .int .i64 0]⟩ else .tuple ⟨[.string ⟨⟨[]⟩⟩, .int .i64 3]⟩) else .tuple ⟨[.string ⟨⟨[]⟩⟩, .int .i64 1]⟩
set_option maxHeartbeats 1000000 in
theorem oT {S : AH} {A : Nat → Prop} (hA : ∀ j, A j → j < S.nx) {x : Nat → Value} {c : Nat → CT} (px : Pts A S jQ x c) (hB : cY c → (aA editIts c).length ≤ 1073741824) : XCall Tryz.prog 4 [.agg ⟨cellsOf 84 x⟩] S fun v H' => v = fV c ∧ Kept S.nx S H' := by
 refine bN (E := E) (n := 22) (rs := [.tmp 2, .tmp 3]) (l := [(0, _)]) (aQ Tryz.func4 rfl rfl rfl) hA rfl ?_
 refine rB <| cZ rfl rfl nM rfl ?_
 intro N1
 refine oa rfl <| oa rfl <| tq <| aH ?_
 rcases Decidable.em (cY c) with hp | hp
 ·refine rA <| aV rfl rfl rfl (by exact bV V48 rfl gP rfl mA (by exact bQ rfl) (by exact bZ)) ?_
  refine oc has9 oV (fun H hH => (aEq hH.lt (px.gr hH.gr)).b (by exact decide_eq_true hp)) ?_
  refine eZ rfl rfl rfl rfl <| aB <| aG rfl <| aJ <| aD <| aH ?_
  rcases Nat.lt_or_ge 1048576 (aA editIts c).length with q | q
  ·refine rA <| aV rfl rfl rfl (by exact bV V48 rfl gP rfl mA (by exact bQ rfl) (by exact bZ)) ?_
   refine oc aWb oV (fun H hH => aQo hH.lt (px.gr hH.gr) hp.2.2.2.1 hp.2.1 hp.2.2.1 hp.1 (hB hp)) ?_
   refine oc aVk oV (fun H hH => aMh ⟨⟨aA editIts c⟩⟩ q) ?_
   refine om rfl <| bS rfl rfl rfl rfl <| bS rfl rfl rfl rfl <| oa rfl <| oa rfl <| tq <| rB <| om rfl <| ob rfl (by exact dZ (by omega)) ?_
   refine aB <| aO rfl <| rB <| om rfl <| oa rfl <| oa rfl <| aB <| aT <| aP <| dX (.tmp rfl (.tmp rfl .nil)) ?_
   exact fun H hH => ⟨by rw [fV, if_pos hp, if_neg (fun h => Nat.not_le_of_lt q h.1)], hH.kept⟩
  ·refine rA <| aV rfl rfl rfl (by exact bV V48 rfl gP rfl mA (by exact bQ rfl) (by exact bZ)) ?_
   refine oc aWb oV (fun H hH => aQo hH.lt (px.gr hH.gr) hp.2.2.2.1 hp.2.1 hp.2.2.1 hp.1 (hB hp)) ?_
   refine oc aVk oV (fun H hH => aSl ⟨⟨aA editIts c⟩⟩ q) ?_
   refine om rfl <| bS rfl rfl rfl rfl <| bS rfl rfl rfl rfl <| oa rfl <| oa rfl <| tq <| rB <| om rfl <| ob rfl (by exact bP (by rfl)) ?_
   refine aB <| aG rfl <| aJ <| aD <| aH <| aH ?_
   rcases Nat.lt_or_ge 1048576 (dE (aA editIts c)).length with q2 | q2
   ·refine rA <| om rfl <| dB rfl rfl rfl rfl rfl rfl V9 <| ob rfl (by exact cR (by dsimp only; omega)) ?_
    refine aB <| aO rfl <| rB <| oa rfl <| oa rfl <| aB <| aT <| aP <| dX (.tmp rfl (.tmp rfl .nil)) ?_
    exact fun H hH => ⟨by rw [fV, if_pos hp, if_neg (fun h => Nat.not_le_of_lt q2 h.2)], hH.kept⟩
   ·refine rA <| om rfl <| dB rfl rfl rfl rfl rfl rfl V9 <| ob rfl (by exact bW (by dsimp only; omega)) ?_
    refine aB <| aG rfl <| aJ <| aD <| rB <| om rfl <| oa rfl <| oa rfl <| aB <| aT <| dX (.tmp rfl (.tmp rfl .nil)) ?_
    exact fun H hH => ⟨by rw [fV, if_pos hp, if_pos ⟨q, q2⟩], hH.kept⟩
 ·refine rA <| aV rfl rfl rfl (by exact bV V48 rfl gP rfl mA (by exact bQ rfl) (by exact bZ)) ?_
  refine oc has9 oV (fun H hH => (aEq hH.lt (px.gr hH.gr)).b (by exact decide_eq_false hp)) ?_
  refine eZ rfl rfl rfl rfl <| aB <| aO rfl <| rB <| oa rfl <| oa rfl <| aB <| aT <| aP <| dX (.tmp rfl (.tmp rfl .nil)) ?_
  exact fun H hH => ⟨by rw [fV, if_neg hp], hH.kept⟩
end Go.Proofs.YteklajiaicmogaaGreatDoor
namespace Go.Proofs.YteklajiaicmogaaGreatDoor
open Go Go.AM
def aDk (c : Nat → CT) (B : Nat) : List Item → Prop
 | [] => True
 | a :: l => (bB a c).length ≤ B ∧ aDk c B l
theorem aRn {c : Nat → CT} {B : Nat} : ∀ {l : List Item}, aDk c B l → (aA l c).length ≤ B * l.length
 | [], _ => by simp [aA]
 | a :: l, h => by
  have h1 := h.1
  have h2 := aRn h.2
  rw [aA, List.length_append, List.length_cons, Nat.mul_add, Nat.mul_one]
  omega
section
variable {A : Nat → Prop} {S : AH} {ks : List Kd} {x : Nat → Value} {c : Nat → CT}
theorem eW (px : Pts A S ks x c) {k B : Nat} (h : oW ks[k]? = true) (hb : 10 ≤ B) : (bB (.i k) c).length ≤ B := by
 rw [bB]; exact Nat.le_trans (jJ (nH px (pB h))) hb
theorem aXb {k B : Nat} (hb : 10 ≤ B) : (bB (.b k) c).length ≤ B := by
 rw [bB]; exact Nat.le_trans (vA _) hb
theorem bi_le {k B : Nat} (hb : 10 ≤ B) : (bB (.bi k) c).length ≤ B := by
 rw [bB]; exact Nat.le_trans (jJ (by unfold I64; split <;> omega)) hb
theorem aTs {k B : Nat} (h : (tv (c k)).length ≤ 256) (hb : 266 ≤ B) : (bB (.t k) c).length ≤ B := by
 rw [bB]; exact Nat.le_trans (rO h (by decide)) hb
theorem aTk (px : Pts A S ks x c) {k b B : Nat} (hk : ks[k]? = some (.row b [.int .i64])) (h : (rv (c k)).length ≤ 16) (hb : 170 ≤ B) : (bB (.ints k) c).length ≤ B := by
 obtain ⟨l, a, cp, e, hx, r⟩ := (px k _ hk).rowD
 have hv : rv (c k) = l := by rw [e]; rfl
 rw [hv] at h
 rw [bB, hv, List.length_append]
 have h1 := bU (n := l.length) (by omega)
 have h2 := rU (sR r)
 omega
theorem aKr {f : List CT → List UInt8} {m : Nat} : ∀ {l : List (List CT)}, (∀ r ∈ l, (f r).length ≤ m) → (l.flatMap f).length ≤ m * l.length
 | [], _ => by simp
 | r :: l, h => by
  have h1 := h r (List.mem_cons_self ..)
  have h2 := aKr fun q hq => h q (List.mem_cons_of_mem _ hq)
  rw [List.flatMap_cons, List.length_append, List.length_cons, Nat.mul_add, Nat.mul_one]
  omega
theorem sP {k n m B : Nat} {sub : List Item} (h : (rv (c k)).length ≤ n) (hn : n ≤ 1000) (hr : ∀ r ∈ rv (c k), (aA sub (cfn r)).length ≤ m) (hb : 10 + m * n ≤ B) : (bB (.rows k sub) c).length ≤ B := by
 rw [bB, List.length_append]
 have h1 := bU (n := (rv (c k)).length) (by omega)
 have h2 := aKr hr
 have h3 : m * (rv (c k)).length ≤ m * n := Nat.mul_le_mul_left _ h
 omega
/-- a row's rows -/
theorem aGn (px : Pts A S ks x c) {k b : Nat} {ks' : List Kd} (hk : ks[k]? = some (.row b ks')) : ∀ r ∈ rv (c k), ∃ (y : Nat → Value) (e : Nat → CT), r = dJ ks'.length e ∧ Pts A S ks' y e := fun r hr => by
 obtain ⟨l, a, cp, e, hx, rd⟩ := (px k _ hk).rowD
 have hv : rv (c k) = l := by rw [e]; rfl
 rw [hv] at hr
 obtain ⟨i, hi, rfl⟩ := List.getElem_of_mem hr
 obtain ⟨q, us, d, _, _, hc, _, hk⟩ := rd.at' i hi
 obtain ⟨y, e2, _, rfl, py⟩ := hk.fn (n := ks'.length) rfl
 rw [List.getElem?_eq_getElem hi] at hc
 exact ⟨y, e2, Option.some.inj hc, py⟩
theorem uY (px : Pts A S ks x c) {k b : Nat} {ks' : List Kd} (hk : ks[k]? = some (.row b ks')) (js : List Nat) (hj : js.all (fun j => Nat.blt j ks'.length && oW ks'[j]?) = true) : ∀ r ∈ rv (c k), (aA (js.map .i) (cfn r)).length ≤ 10 * js.length := fun r hr => by
 obtain ⟨y, e, rfl, py⟩ := aGn px hk r hr
 have hj1 : ∀ j ∈ js, Nat.blt j ks'.length = true ∧ oW ks'[j]? = true := fun j hm => by
  have := List.all_eq_true.1 hj j hm
  simpa only [Bool.and_eq_true] using this
 rw [dO js (List.all_eq_true.2 fun j hm => (hj1 j hm).1), jM]
 have := aNq (ns := js.map fun k => iv (e k)) (fun n hn => by
  obtain ⟨j, hm, rfl⟩ := List.mem_map.1 hn
  exact nH py (pB (hj1 j hm).2))
 rwa [List.length_map] at this
end
theorem aWn {A : Nat → Prop} {S : AH} {x : Nat → Value} {c : Nat → CT} (px : Pts A S jQ x c) (hp : cY c) : ∀ r ∈ rv (c 71), (aA dynIts (cfn r)).length ≤ 350 := fun r hr => by
 have hc := hp.2.2.2.2.2.2.2.2.2.2.1 r hr
 obtain ⟨y, e, rfl, py⟩ := aGn px (k := 71) rfl r hr
 have he : aA dynIts (cfn (dJ 3 e)) = aA dynIts e := by simp only [dynIts, aA, bB]; rfl
 have hc2 : (rv (e 2)).length ≤ 16 := hc
 show (aA dynIts (cfn (dJ 3 e))).length ≤ 350
 rw [he]
 have h0 := eW py (k := 0) (B := 10) rfl (Nat.le_refl _)
 have h1 := eW py (k := 1) (B := 10) rfl (Nat.le_refl _)
 have h2 := sP (c := e) (k := 2) (sub := ptIts) (m := 20) (n := 16) (B := 330) hc2 (by decide) (uY py (k := 2) rfl [0, 1] rfl) (by decide)
 simp only [dynIts, aA, List.length_append, List.length_nil]
 omega
theorem aNo {A : Nat → Prop} {S : AH} {x : Nat → Value} {c : Nat → CT} (px : Pts A S jQ x c) (hp : cY c) : aDk c 4000000 editIts := by
 simp only [editIts, nodeIts, brushIts, List.map_cons, List.map_nil, jR, List.cons_append, List.nil_append, aDk]
 exact ⟨eW px rfl (by decide), eW px rfl (by decide), eW px rfl (by decide), eW px rfl (by decide), eW px rfl (by decide), eW px rfl (by decide), aTs (hp.2.2.2.2.1) (by decide), aTs (hp.2.2.2.2.2.1) (by decide), eW px rfl (by decide), eW px rfl (by decide), eW px rfl (by decide), aTs (hp.2.2.2.2.2.2.1) (by decide), aXb (by decide), aXb (by decide), aXb (by decide), eW px rfl (by decide), eW px rfl (by decide), by rw [bB]; exact Nat.le_trans (zI (hp.2.2.2.1)) (by decide), eW px rfl (by decide), eW px rfl (by decide), eW px rfl (by decide), eW px rfl (by decide), eW px rfl (by decide), eW px rfl (by decide), eW px rfl (by decide), by rw [bB]; exact zZ (hp.2.1), eW px rfl (by decide), eW px rfl (by decide), eW px rfl (by decide), eW px rfl (by decide), eW px rfl (by decide), aTk px rfl (hp.2.2.2.2.2.2.2.2.2.2.2.1) (by decide), eW px rfl (by decide), sP (m := 50) (n := 16) hp.2.2.2.2.2.2.2.2.2.2.2.2.1 (by decide) (uY px (k := 37) rfl [0, 1, 2, 3, 4] rfl) (by decide), sP (m := 70) (n := 128) hp.2.2.2.2.2.2.2.2.2.2.2.2.2.1 (by decide) (uY px (k := 38) rfl [0, 1, 2, 3, 4, 5, 6] rfl) (by decide), eW px rfl (by decide), eW px rfl (by decide), eW px rfl (by decide), eW px rfl (by decide), aTs (hp.2.2.2.2.2.2.2.1) (by decide), eW px rfl (by decide), eW px rfl (by decide), eW px rfl (by decide), eW px rfl (by decide), eW px rfl (by decide), eW px rfl (by decide), sP (m := 20) (n := 64) hp.2.2.2.2.2.2.2.2.2.2.2.2.2.2 (by decide) (uY px (k := 50) rfl [0, 1] rfl) (by decide), by rw [bB]; exact Nat.le_trans (zI (hp.2.2.1)) (by decide), by rw [bB]; exact zZ (hp.1), eW px rfl (by decide), eW px rfl (by decide), eW px rfl (by decide), eW px rfl (by decide), eW px rfl (by decide), eW px rfl (by decide), eW px rfl (by decide), eW px rfl (by decide), eW px rfl (by decide), eW px rfl (by decide), eW px rfl (by decide), eW px rfl (by decide), eW px rfl (by decide), eW px rfl (by decide), sP (m := 350) (n := 8) (hp.2.2.2.2.2.2.2.2.2.1) (by decide) (fun r hr => aWn px hp r hr) (by decide), bi_le (by decide), sP (m := 50) (n := 128) hp.2.2.2.2.2.2.2.2.1 (by decide) (uY px (k := 73) rfl [0, 1, 2, 3, 4] rfl) (by decide), eW px rfl (by decide), eW px rfl (by decide), eW px rfl (by decide), eW px rfl (by decide), eW px rfl (by decide), eW px rfl (by decide), eW px rfl (by decide), eW px rfl (by decide), eW px rfl (by decide), eW px rfl (by decide), trivial⟩
theorem nE {A : Nat → Prop} {S : AH} {x : Nat → Value} {c : Nat → CT} (px : Pts A S jQ x c) (hp : cY c) : (aA editIts c).length ≤ 1073741824 := by
 have h := aRn (aNo px hp)
 have h2 : editIts.length = 76 := rfl
 rw [h2] at h
 omega
end Go.Proofs.YteklajiaicmogaaGreatDoor
namespace Go.Proofs.YteklajiaicmogaaGreatDoor
open Go Go.AM
abbrev TRd : Nat := 121
theorem p128 (i : Nat) : 128 ^ i = 2 ^ (7 * i) := by rw [show (128 : Nat) = 2 ^ 7 from rfl, ← Nat.pow_mul]
theorem aXp (n i : Nat) : n % 128 ^ (i + 1) = n % 128 ^ i + 128 ^ i * (n / 128 ^ i % 128) := by rw [Nat.pow_succ, Nat.mod_mul]
theorem aVy (n i : Nat) : (n / 128 ^ i % 128) * 128 ^ i ≤ n := by
 have h1 := Nat.mod_le (n / 128 ^ i) 128
 have h2 := Nat.div_mul_le_self n (128 ^ i)
 exact Nat.le_trans (Nat.mul_le_mul_right _ h1) h2
theorem aPb {n i : Nat} (hn : n < 18446744073709551616) : bits .or .u64 ((n % 128 ^ i : Nat) : Int) (((n / 128 ^ i % 128) * 128 ^ i : Nat) : Int) = ((n % 128 ^ (i + 1) : Nat) : Int) := by
 have h1 := Nat.mod_le n (128 ^ i)
 have h2 := aVy n i
 rw [(bits_nat .u64 64 (by decide) dH _ _ (by omega) (by omega)).2, aXp]
 congr 1
 rw [Nat.or_comm, Nat.mul_comm, p128, ← Nat.two_pow_add_eq_or_of_lt (by exact Nat.mod_lt _ (Nat.two_pow_pos _))]
 omega
theorem aJa {n i : Nat} (hi : i ≤ 9) (hn : n < 18446744073709551616) : IntKind.u64.wrap (((n / 128 ^ i % 128 : Nat) : Int) * 2 ^ (min (7 * (i : Int)).toNat IntKind.u64.bits)) = (((n / 128 ^ i % 128) * 128 ^ i : Nat) : Int) := by
 have h2 := aVy n i
 have e : min (7 * (i : Int)).toNat IntKind.u64.bits = 7 * i := by
  have : (7 * (i : Int)).toNat = 7 * i := by omega
  rw [this]; show min (7 * i) 64 = 7 * i; omega
 rw [e, show ((n / 128 ^ i % 128 : Nat) : Int) * 2 ^ (7 * i) = (((n / 128 ^ i % 128) * 128 ^ i : Nat) : Int) by rw [p128]; push_cast; rfl]
 exact dH _ (by omega) (by omega)
theorem aXn (b : UInt8) : bits .and .u8 ((b.toNat : Nat) : Int) 127 = ((b.toNat % 128 : Nat) : Int) := bits_mask .u8 8 (by decide) wQ 7 (by decide) _ (by have := b.toNat_lt; omega) (by have := b.toNat_lt; omega)
/-- a reader: the text, the place -/
def rd (N : Nat) (q : ByteArray) (a : Nat) : OL := [(N, .cells [.bool true, .string q, .int .i64 ((a : Nat) : Int), .int .i64 0] (TRd + dQ) true)]
theorem aNa {m : Nat} {z w : List UInt8} (h : w = aF m ++ z) : ∃ b r, w = b :: r ∧ ((m < 128 ∧ b.toNat = m ∧ r = z) ∨ (128 ≤ m ∧ b.toNat = m % 128 + 128 ∧ r = aF (m / 128) ++ z)) := by
 subst h
 rcases Nat.lt_or_ge m 128 with hm | hm
 ·rw [jY hm]
  exact ⟨_, _, rfl, .inl ⟨hm, by rw [UInt8.toNat_ofNat']; omega, rfl⟩⟩
 ·rw [nZ hm]
  exact ⟨_, _, rfl, .inr ⟨hm, by rw [UInt8.toNat_ofNat']; omega, rfl⟩⟩
theorem aLy {w r : List UInt8} {k : Nat} {b : UInt8} (h : w.drop k = b :: r) : w[k]? = some b ∧ w.drop (k + 1) = r ∧ k < w.length := by
 have hk : k < w.length := by
  rcases Nat.lt_or_ge k w.length with h1 | h1
  ·exact h1
  ·rw [List.drop_of_length_le h1] at h; cases h
 rw [List.drop_eq_getElem_cons hk] at h
 injection h with h1 h2
 exact ⟨by rw [List.getElem?_eq_getElem hk, h1], h2, hk⟩
theorem aTp {t e : TypeId} {p : Addr} (hu : E.und t = some (.pointer e)) : dM E .neq t (.pointer (some p)) (.pointer none) = some (.bool true) := by simp [dM, hu, jE]
theorem rZ {S : AH} {N a : Nat} {q : ByteArray} (hin : ∀ p ∈ rd N q a, S.tr.get p.1 = some p.2 ∧ p.1 < S.nx) : XCall Tryz.prog 86 [.pointer (some ⟨2 * N + 1, 0, none⟩)] S fun u H' => ∃ Lo, Turned (rd N q a) S H' Lo ∧ (u = .bool true ∧ Lo = rd N q a) := by
 refine cX (E := E) (Li := rd N q a) (n := 18) (rs := [.tmp 2]) (l := [(0, _)]) (aQ Tryz.func86 rfl rfl rfl) (fun p hp => hin p hp) (List.pairwise_singleton _ _) rfl ?_
 refine rB <| oa rfl <| rC <| om rfl <| ob rfl (by exact aTp V74) ?_
 refine om rfl <| om rfl <| nc rfl <| fo 0 oF lR rfl <| lG rfl V4 ?_
 refine pt rfl <| om rfl <| om rfl <| nc rfl <| fo 3 oF aVw rfl <| lG rfl V49 ?_
 refine ob rfl (by exact cM (by rfl)) ?_
 refine pt rfl <| oa rfl <| aB <| aT <| aE (.tmp rfl .nil) ?_
 exact fun H hH => ⟨_, hH.turned (Gr.refl _ _) ⟨_, List.Mem.head _⟩, rfl, rfl⟩
set_option maxHeartbeats 2000000 in
theorem zE {S : AH} {N a : Nat} {q : ByteArray} (hin : ∀ p ∈ rd N q a, S.tr.get p.1 = some p.2 ∧ p.1 < S.nx) {n : Nat} {z : List UInt8} (hn : n < 18446744073709551616) (hq : q.data.toList.length ≤ 1099511627776) (hz : q.data.toList.drop a = aF n ++ z) : XCall Tryz.prog 96 [.pointer (some ⟨2 * N + 1, 0, none⟩)] S fun u H' => ∃ Lo, Turned (rd N q a) S H' Lo ∧ (u = .int .u64 (n : Int) ∧ Lo = rd N q (a + (aF n).length)) := by
 refine cX (E := E) (Li := rd N q a) (n := 68) (rs := [.tmp 2]) (l := [(0, _)]) (aQ Tryz.func96 rfl rfl rfl) (fun p hp => hin p hp) (List.pairwise_singleton _ _) rfl ?_
 refine rB <| oa rfl <| tq <| rB <| om rfl <| ot (rd N q a) (fun u Lo => u = .bool true ∧ Lo = rd N q a) aHf oV (fun H hH => rZ (hH.have fun p hp => hp)) ?_
 rintro _ _ ⟨rfl, rfl⟩
 refine eZ rfl rfl rfl rfl <| aB <| aG rfl <| aJ <| aD <| rB <| oa rfl <| rC <| oa rfl <| aB <| aK ?_
 refine bK (σ := Nat) (fun i => 20 - i) (fun i => [(0, .pointer (some ⟨2 * N + 1, 0, none⟩)), (3, .int .u64 ((n % 128 ^ i : Nat) : Int)), (4, .int .i64 ((i : Nat) : Int))]) (fun _ => S) (fun _ => fY S (rd N q a)) (fun i => rd N q (a + i)) (fun i => q.data.toList.drop (a + i) = aF (n / 128 ^ i) ++ z ∧ i ≤ 9 ∧ (i = 0 ∨ n / 128 ^ i ≠ 0) ∧ i + (aF (n / 128 ^ i)).length = (aF n).length) (0) (⟨by simpa using hz, by omega, .inl rfl, by simp⟩) (by repeat (first | exact .nil | refine .cons (by first | rfl | (rw [Nat.pow_zero, Nat.mod_one]; rfl)) ?_)) rfl rfl (List.Sublist.refl _) ?_
 intro i hJ2 t1
 obtain ⟨hd, hi, h0, hlen⟩ := hJ2
 obtain ⟨b, r, hbr, hc⟩ := aNa hd
 obtain ⟨hb, hr, hlt⟩ := aLy hbr
 have hb8 := b.toNat_lt
 have h9 : i = 9 → n / 128 ^ i ≤ 1 := fun e => by subst e; omega
 have hbm : b.toNat % 128 = n / 128 ^ i % 128 := by rcases hc with ⟨h1, h2, _⟩ | ⟨h1, h2, _⟩ <;> omega
 have hand : bits .and .u8 ((b.toNat : Nat) : Int) 127 = ((n / 128 ^ i % 128 : Nat) : Int) := by rw [aXn, hbm]
 have hb0 : i ≠ 0 → b.toNat ≠ 0 := by rcases hc with ⟨h1, h2, _⟩ | ⟨h1, h2, _⟩ <;> omega
 have hb9 : i = 9 → b.toNat ≤ 1 := by rcases hc with ⟨h1, h2, _⟩ | ⟨h1, h2, _⟩ <;> omega
 refine aH <| aK <| aH <| aH <| cC (E := E) mixed [] _ (List.Sublist.refl _) (by kernel_rfl) (by kernel_rfl) (by decide) ?_
 refine om rfl <| nc rfl <| fo 2 oF aI rfl <| lG rfl V3 ?_
 refine om rfl <| nc rfl <| fo 1 oF gJ rfl <| lG rfl V9 ?_
 refine dB rfl rfl rfl rfl rfl rfl V9 <| ob rfl (by exact kF (by omega)) ?_
 refine aB <| aG rfl <| aJ <| aD <| aH <| cC (E := E) mixed [] _ (List.Sublist.refl _) (by kernel_rfl) (by kernel_rfl) (by decide) ?_
 refine om rfl <| nc rfl <| fo 1 oF gJ rfl <| lG rfl V9 ?_
 refine om rfl <| nc rfl <| fo 2 oF aI rfl <| lG rfl V3 ?_
 refine zH rfl rfl rfl rfl V9 (by assumption) ?_
 refine oa rfl <| tq <| aH ?_
 rcases (show i = 0 ∨ (i ≠ 0 ∧ i ≠ 9) ∨ i = 9 by omega) with ei | ei | ei
 ·refine rA <| om rfl <| ob rfl (by exact cL (by omega)) ?_
  refine om rfl <| aC rfl rfl rfl <| aC rfl rfl rfl <| pQ rfl <| om rfl <| om rfl <| ob rfl (by exact bW (by omega)) ?_
  refine om rfl <| aC rfl rfl rfl <| aC rfl rfl rfl <| pQ rfl <| pQ rfl <| aB <| aG rfl <| aJ <| aD <| rB <| om rfl <| nc rfl <| fo 2 oF aI rfl <| lG rfl V3 ?_
  refine ob rfl (by exact aY (by omega)) ?_
  refine nc rfl <| fo 2 oF aI rfl <| dC rfl nM rfl rfl aI rfl rfl uP (by rfl) (by exact Nat.le_of_ble_eq_true rfl) nM ?_
  refine rC <| om rfl <| om rfl <| ob rfl (by exact pN hand) ?_
  refine cE rfl rfl rfl V5 V65 (dH _ (by omega) (by omega)) ?_
  refine om rfl <| ob rfl (by exact gE (cO (by omega) (by omega))) ?_
  refine ob rfl (by exact wF (by omega) (aJa hi hn)) ?_
  refine ob rfl (by exact wM (aPb hn)) ?_
  refine oa rfl <| tq ?_
  rcases Nat.lt_or_ge (n / 128 ^ i) 128 with hm | hm
  ·have hbx : b.toNat < 128 := by rcases hc with ⟨h1, h2, _⟩ | ⟨h1, h2, _⟩ <;> omega
   have hN : n % 128 ^ (i + 1) = n := Nat.mod_eq_of_lt (by rw [Nat.pow_succ, Nat.mul_comm]; exact (Nat.div_lt_iff_lt_mul (Nat.pow_pos (by decide))).1 hm)
   have hL : a + (i + 1) = a + (aF n).length := by rw [← hlen, jY hm]; rfl
   refine rA <| om rfl <| ob rfl (by exact aX (by omega)) ?_
   refine aB <| aO rfl <| rB <| om rfl <| oa rfl <| aB <| aT <| bD <| aP <| cP <| bD <| aE (.tmp rfl .nil) ?_
   exact fun H hH => ⟨_, hH.turned (Gr.refl _ _) ⟨_, List.Mem.head _⟩, by rw [hN], by rw [← hL]; rfl⟩
  ·have hbx : 128 ≤ b.toNat := by rcases hc with ⟨h1, h2, _⟩ | ⟨h1, h2, _⟩ <;> omega
   refine rA <| om rfl <| ob rfl (by exact aW (by omega)) ?_
   refine aB <| aG rfl <| aJ <| bA <| aD <| rA <| om rfl <| ob rfl (by exact aY (by omega)) ?_
   refine oa rfl <| aZ ?_
   rcases hc with ⟨h1, _⟩ | ⟨h1, h2, h3⟩
   ·omega
   have hdd : n / 128 ^ i / 128 = n / 128 ^ (i + 1) := by rw [Nat.pow_succ, Nat.div_div_eq_div_mul]
   have hl1 : (aF (n / 128 ^ i)).length = 1 + (aF (n / 128 ^ (i + 1))).length := by rw [nZ h1, hdd]; simp; omega
   refine rd' (i + 1) (show 20 - (i + 1) < 20 - i by omega) ⟨by rw [← hdd, ← h3]; exact hr, by rcases Nat.lt_or_ge i 9 with e | e; omega; have := h9 (by omega); omega, .inr (by rw [← hdd]; omega), by omega⟩
 ·have hb1 := hb0 ei.1
  refine rA <| om rfl <| ob rfl (by exact cL (by omega)) ?_
  refine om rfl <| aC rfl rfl rfl <| aC rfl rfl rfl <| pQ rfl <| om rfl <| om rfl <| ob rfl (by exact cR (by omega)) ?_
  refine om rfl <| om rfl <| ob rfl (by exact cL (by omega)) ?_
  refine pt rfl <| pQ rfl <| aB <| aG rfl <| aJ <| aD <| rB <| om rfl <| nc rfl <| fo 2 oF aI rfl <| lG rfl V3 ?_
  refine ob rfl (by exact aY (by omega)) ?_
  refine nc rfl <| fo 2 oF aI rfl <| dC rfl nM rfl rfl aI rfl rfl uP (by rfl) (by exact Nat.le_of_ble_eq_true rfl) nM ?_
  refine rC <| om rfl <| om rfl <| ob rfl (by exact pN hand) ?_
  refine cE rfl rfl rfl V5 V65 (dH _ (by omega) (by omega)) ?_
  refine om rfl <| ob rfl (by exact gE (cO (by omega) (by omega))) ?_
  refine ob rfl (by exact wF (by omega) (aJa hi hn)) ?_
  refine ob rfl (by exact wM (aPb hn)) ?_
  refine oa rfl <| tq ?_
  rcases Nat.lt_or_ge (n / 128 ^ i) 128 with hm | hm
  ·have hbx : b.toNat < 128 := by rcases hc with ⟨h1, h2, _⟩ | ⟨h1, h2, _⟩ <;> omega
   have hN : n % 128 ^ (i + 1) = n := Nat.mod_eq_of_lt (by rw [Nat.pow_succ, Nat.mul_comm]; exact (Nat.div_lt_iff_lt_mul (Nat.pow_pos (by decide))).1 hm)
   have hL : a + (i + 1) = a + (aF n).length := by rw [← hlen, jY hm]; rfl
   refine rA <| om rfl <| ob rfl (by exact aX (by omega)) ?_
   refine aB <| aO rfl <| rB <| om rfl <| oa rfl <| aB <| aT <| bD <| aP <| cP <| bD <| aE (.tmp rfl .nil) ?_
   exact fun H hH => ⟨_, hH.turned (Gr.refl _ _) ⟨_, List.Mem.head _⟩, by rw [hN], by rw [← hL]; rfl⟩
  ·have hbx : 128 ≤ b.toNat := by rcases hc with ⟨h1, h2, _⟩ | ⟨h1, h2, _⟩ <;> omega
   refine rA <| om rfl <| ob rfl (by exact aW (by omega)) ?_
   refine aB <| aG rfl <| aJ <| bA <| aD <| rA <| om rfl <| ob rfl (by exact aY (by omega)) ?_
   refine oa rfl <| aZ ?_
   rcases hc with ⟨h1, _⟩ | ⟨h1, h2, h3⟩
   ·omega
   have hdd : n / 128 ^ i / 128 = n / 128 ^ (i + 1) := by rw [Nat.pow_succ, Nat.div_div_eq_div_mul]
   have hl1 : (aF (n / 128 ^ i)).length = 1 + (aF (n / 128 ^ (i + 1))).length := by rw [nZ h1, hdd]; simp; omega
   refine rd' (i + 1) (show 20 - (i + 1) < 20 - i by omega) ⟨by rw [← hdd, ← h3]; exact hr, by rcases Nat.lt_or_ge i 9 with e | e; omega; have := h9 (by omega); omega, .inr (by rw [← hdd]; omega), by omega⟩
 ·have hb1 := hb9 ei
  have hb2 := hb0 (by omega)
  refine rA <| om rfl <| ob rfl (by exact cM (by omega)) ?_
  refine om rfl <| om rfl <| ob rfl (by exact bW (by omega)) ?_
  refine pt rfl <| om rfl <| om rfl <| ob rfl (by exact cR (by omega)) ?_
  refine om rfl <| om rfl <| ob rfl (by exact cL (by omega)) ?_
  refine pt rfl <| pQ rfl <| aB <| aG rfl <| aJ <| aD <| rB <| om rfl <| nc rfl <| fo 2 oF aI rfl <| lG rfl V3 ?_
  refine ob rfl (by exact aY (by omega)) ?_
  refine nc rfl <| fo 2 oF aI rfl <| dC rfl nM rfl rfl aI rfl rfl uP (by rfl) (by exact Nat.le_of_ble_eq_true rfl) nM ?_
  refine rC <| om rfl <| om rfl <| ob rfl (by exact pN hand) ?_
  refine cE rfl rfl rfl V5 V65 (dH _ (by omega) (by omega)) ?_
  refine om rfl <| ob rfl (by exact gE (cO (by omega) (by omega))) ?_
  refine ob rfl (by exact wF (by omega) (aJa hi hn)) ?_
  refine ob rfl (by exact wM (aPb hn)) ?_
  refine oa rfl <| tq ?_
  rcases Nat.lt_or_ge (n / 128 ^ i) 128 with hm | hm
  ·have hbx : b.toNat < 128 := by rcases hc with ⟨h1, h2, _⟩ | ⟨h1, h2, _⟩ <;> omega
   have hN : n % 128 ^ (i + 1) = n := Nat.mod_eq_of_lt (by rw [Nat.pow_succ, Nat.mul_comm]; exact (Nat.div_lt_iff_lt_mul (Nat.pow_pos (by decide))).1 hm)
   have hL : a + (i + 1) = a + (aF n).length := by rw [← hlen, jY hm]; rfl
   refine rA <| om rfl <| ob rfl (by exact aX (by omega)) ?_
   refine aB <| aO rfl <| rB <| om rfl <| oa rfl <| aB <| aT <| bD <| aP <| cP <| bD <| aE (.tmp rfl .nil) ?_
   exact fun H hH => ⟨_, hH.turned (Gr.refl _ _) ⟨_, List.Mem.head _⟩, by rw [hN], by rw [← hL]; rfl⟩
  ·have hbx : 128 ≤ b.toNat := by rcases hc with ⟨h1, h2, _⟩ | ⟨h1, h2, _⟩ <;> omega
   refine rA <| om rfl <| ob rfl (by exact aX (by omega)) ?_
   refine aB <| aO rfl <| rB <| om rfl <| oa rfl <| aB <| aT <| bD <| aP <| cP <| bD <| aE (.tmp rfl .nil) ?_
   exact absurd hbx (by omega)
end Go.Proofs.YteklajiaicmogaaGreatDoor
namespace Go.Proofs.YteklajiaicmogaaGreatDoor
open Go Go.AM
theorem aUs {x : Nat} {n : Int} (hx : x < 9223372036854775808) (h : n = -((x : Int) + 1)) : bits .xor .i64 (-1) ((x : Nat) : Int) = n := by
 have e : BitVec.ofInt 64 (-1) = BitVec.ofNat 64 18446744073709551615 := by decide
 show IntKind.i64.wrap (((BitVec.ofInt 64 (-1)) ^^^ (BitVec.ofInt 64 ((x : Nat) : Int))).toNat : Int) = n
 rw [e, BitVec.ofInt_natCast, BitVec.toNat_xor, BitVec.toNat_ofNat, BitVec.toNat_ofNat, Nat.mod_eq_of_lt (by decide), Nat.mod_eq_of_lt (by omega), show (18446744073709551615 : Nat) = 2 ^ 64 - 1 from rfl, aDp 64 x (by omega)]
 rw [IntKind.wrap_i64]
 omega
theorem yO {S : AH} {N a : Nat} {q : ByteArray} (hin : ∀ p ∈ rd N q a, S.tr.get p.1 = some p.2 ∧ p.1 < S.nx) {n : Int} {z : List UInt8} (hn : I64 n) (hq : q.data.toList.length ≤ 1099511627776) (hz : q.data.toList.drop a = bO n ++ z) : XCall Tryz.prog 87 [.pointer (some ⟨2 * N + 1, 0, none⟩)] S fun u H' => ∃ Lo, Turned (rd N q a) S H' Lo ∧ (u = .int .i64 n ∧ Lo = rd N q (a + (bO n).length)) := by
 have hn2 := aFa hn
 obtain ⟨hn0, hn1⟩ := hn
 refine cX (E := E) (Li := rd N q a) (n := 16) (rs := [.tmp 2]) (l := [(0, _)]) (aQ Tryz.func87 rfl rfl rfl) (fun p hp => hin p hp) (List.pairwise_singleton _ _) rfl ?_
 refine rB <| oa rfl <| rC <| om rfl <| ot (rd N q a) (fun u Lo => u = .int .u64 ((zz n : Nat) : Int) ∧ Lo = rd N q (a + (aF (zz n)).length)) aSh oV (fun H hH => zE (hH.have fun p hp => hp) hn2 hq hz) ?_
 rintro _ _ ⟨rfl, rfl⟩
 refine oa rfl <| tq <| aH ?_
 rcases Int.lt_or_le n 0 with h | h
 ·have hzz : zz n = (-(n + 1)).toNat * 2 + 1 := by unfold zz; rw [if_pos h]
  refine rA <| om rfl <| ob rfl (by exact yT (c := ((zz n % 2 : Nat) : Int)) (by decide) (by rw [Int.tmod_eq_emod_of_nonneg (by omega)]; omega)) ?_
  refine ob rfl (by exact cM (by omega)) ?_
  refine aB <| aO rfl <| rB <| om rfl <| ob rfl (by exact kA (by decide) (jV (j := 1) rfl)) ?_
  refine cE rfl rfl rfl V65 V3 (cO (by omega) (by omega)) ?_
  refine aGa rfl rfl rfl (show aun .xor (.int .i64 ((zz n / 2 ^ 1 : Nat) : Int)) = some (.int .i64 n) by simp only [aun]; rw [if_pos (by decide)]; exact congrArg (fun v => some (Value.int .i64 v)) (aUs (by omega) (by omega))) ?_
  refine oa rfl <| aB <| aT <| aP <| aE (.tmp rfl .nil) ?_
  exact fun H hH => ⟨_, hH.turned (Gr.refl _ _) ⟨_, List.Mem.head _⟩, (by rfl), rfl⟩
 ·have hzz : zz n = n.toNat * 2 := by unfold zz; rw [if_neg (by omega)]
  refine rA <| om rfl <| ob rfl (by exact yT (c := ((zz n % 2 : Nat) : Int)) (by decide) (by rw [Int.tmod_eq_emod_of_nonneg (by omega)]; omega)) ?_
  refine ob rfl (by exact cL (by omega)) ?_
  refine aB <| aG rfl <| aJ <| aD <| rB <| om rfl <| ob rfl (by exact kA (by decide) (jV (j := 1) rfl)) ?_
  refine cE rfl rfl rfl V65 V3 (cO (by omega) (by omega)) ?_
  refine oa rfl <| aB <| aT <| aE (.tmp rfl .nil) ?_
  exact fun H hH => ⟨_, hH.turned (Gr.refl _ _) ⟨_, List.Mem.head _⟩, (by exact congrArg (Value.int .i64) (by omega)), rfl⟩
theorem yM {S : AH} {N a : Nat} {q : ByteArray} (hin : ∀ p ∈ rd N q a, S.tr.get p.1 = some p.2 ∧ p.1 < S.nx) (hq : q.data.toList.length ≤ 1099511627776) (ha : a ≤ q.data.toList.length) : XCall Tryz.prog 56 [.pointer (some ⟨2 * N + 1, 0, none⟩)] S fun u H' => ∃ Lo, Turned (rd N q a) S H' Lo ∧ (u = .int .i64 ((q.data.toList.length - a : Nat) : Int) ∧ Lo = rd N q a) := by
 refine cX (E := E) (Li := rd N q a) (n := 16) (rs := [.tmp 2]) (l := [(0, _)]) (aQ Tryz.func56 rfl rfl rfl) (fun p hp => hin p hp) (List.pairwise_singleton _ _) rfl ?_
 refine rB <| oa rfl <| tq <| rB <| om rfl <| ot (rd N q (a)) (fun u Lo => u = .bool true ∧ Lo = rd N q (a)) aHf oV (fun H hH => rZ (hH.have fun p hp => hp)) ?_
 rintro _ _ ⟨rfl, rfl⟩
 refine eZ rfl rfl rfl rfl <| aB <| aG rfl <| aJ <| aD <| aH <| cC (E := E) mixed [] _ (List.Sublist.refl _) (by kernel_rfl) (by kernel_rfl) (by decide) ?_
 refine om rfl <| nc rfl <| fo 1 oF gJ rfl <| lG rfl V9 ?_
 refine dB rfl rfl rfl rfl rfl rfl V9 <| om rfl <| nc rfl <| fo 2 oF aI rfl <| lG rfl V3 ?_
 refine ob rfl (by exact fR (c := ((q.data.toList.length - a : Nat) : Int)) (by rw [cO (by omega) (by omega)]; omega)) ?_
 refine oa rfl <| aB <| aT <| aE (.tmp rfl .nil) ?_
 exact fun H hH => ⟨_, hH.turned (Gr.refl _ _) ⟨_, List.Mem.head _⟩, rfl, rfl⟩
theorem nL {S : AH} {N a : Nat} {q : ByteArray} (hin : ∀ p ∈ rd N q a, S.tr.get p.1 = some p.2 ∧ p.1 < S.nx) : XCall Tryz.prog 55 [.pointer (some ⟨2 * N + 1, 0, none⟩)] S fun u H' => ∃ Lo, Turned (rd N q a) S H' Lo ∧ (u = .int .i64 0 ∧ Lo = rd N q a) := by
 refine cX (E := E) (Li := rd N q a) (n := 16) (rs := [.tmp 2]) (l := [(0, _)]) (aQ Tryz.func55 rfl rfl rfl) (fun p hp => hin p hp) (List.pairwise_singleton _ _) rfl ?_
 refine rB <| oa rfl <| tq <| rB <| om rfl <| ob rfl (by exact zF V74) ?_
 refine om rfl <| om rfl <| nc rfl <| fo 0 oF lR rfl <| lG rfl V4 ?_
 refine eZ rfl rfl rfl rfl <| pQ rfl <| aB <| aG rfl <| aJ <| aD <| rB <| om rfl <| nc rfl <| fo 3 oF aVw rfl <| lG rfl V49 ?_
 refine oa rfl <| aB <| aT <| aE (.tmp rfl .nil) ?_
 exact fun H hH => ⟨_, hH.turned (Gr.refl _ _) ⟨_, List.Mem.head _⟩, rfl, rfl⟩
theorem fE {S : AH} {N a : Nat} {q : ByteArray} (hin : ∀ p ∈ rd N q a, S.tr.get p.1 = some p.2 ∧ p.1 < S.nx) {n : Nat} {m : Int} {z : List UInt8} (hm : (n : Int) ≤ m) (hm2 : m ≤ 1099511627776) (hq : q.data.toList.length ≤ 1099511627776) (hz : q.data.toList.drop a = aF n ++ z) : XCall Tryz.prog 62 [.pointer (some ⟨2 * N + 1, 0, none⟩), .int .i64 m] S fun u H' => ∃ Lo, Turned (rd N q a) S H' Lo ∧ (u = .int .i64 (n : Int) ∧ Lo = rd N q (a + (aF n).length)) := by
 refine cX (E := E) (Li := rd N q a) (n := 21) (rs := [.tmp 4]) (l := [(1, _), (0, _)]) (aQ Tryz.func62 rfl rfl rfl) (fun p hp => hin p hp) (List.pairwise_singleton _ _) rfl ?_
 refine rB <| oa rfl <| rC <| om rfl <| ot (rd N q a) (fun u Lo => u = .int .u64 ((n : Nat) : Int) ∧ Lo = rd N q (a + (aF (n)).length)) aSh oV (fun H hH => zE (hH.have fun p hp => hp) (by omega) hq hz) ?_
 rintro _ _ ⟨rfl, rfl⟩
 refine oa rfl <| tq <| rB <| om rfl <| ot (rd N q (a + (aF n).length)) (fun u Lo => u = .bool true ∧ Lo = rd N q (a + (aF n).length)) aHf oV (fun H hH => rZ (hH.have fun p hp => hp)) ?_
 rintro _ _ ⟨rfl, rfl⟩
 refine eZ rfl rfl rfl rfl <| aB <| aG rfl <| aJ <| aD <| aH <| rB <| om rfl <| om rfl <| aDq rfl rfl rfl rfl rfl rfl rfl ?_
 refine cE rfl rfl rfl V3 V65 (b := max m 0) (by rw [aBg]; omega) ?_
 refine ob rfl (by exact bW (by omega)) ?_
 refine aB <| aG rfl <| aJ <| aD <| rB <| om rfl <| cE rfl rfl rfl V65 V3 (by exact cO (by omega) (by omega)) ?_
 refine oa rfl <| aB <| aT <| aE (.tmp rfl .nil) ?_
 exact fun H hH => ⟨_, hH.turned (Gr.refl _ _) ⟨_, List.Mem.head _⟩, rfl, rfl⟩
end Go.Proofs.YteklajiaicmogaaGreatDoor
namespace Go.Proofs.YteklajiaicmogaaGreatDoor
open Go Go.AM
set_option maxHeartbeats 1000000 in
theorem sB {S : AH} {N a : Nat} {q : ByteArray} (hin : ∀ p ∈ rd N q a, S.tr.get p.1 = some p.2 ∧ p.1 < S.nx) {s z : List UInt8} {m : Int} (hm : (s.length : Int) ≤ m) (hm2 : m ≤ 1099511627776) (hq : q.data.toList.length ≤ 1099511627776) (hz : q.data.toList.drop a = fJ s ++ z) : XCall Tryz.prog 54 [.pointer (some ⟨2 * N + 1, 0, none⟩), .int .i64 m] S fun u H' => ∃ Lo, Turned (rd N q a) S H' Lo ∧ (u = .string ⟨⟨s⟩⟩ ∧ Lo = rd N q (a + (fJ s).length)) := by
 have hd : q.data.toList.drop a = aF s.length ++ (s ++ z) := by rw [hz, fJ, List.append_assoc]
 have hd2 : q.data.toList.drop (a + (aF s.length).length) = s ++ z := by rw [← List.drop_drop, hd, List.drop_left]
 have h1 := List.length_pos_iff.2 (cQ s.length)
 have hl := congrArg List.length hd
 simp only [List.length_drop, List.length_append] at hl
 have hcut : (q.data.toList.take (a + (aF s.length).length + s.length)).drop (a + (aF s.length).length) = s := by rw [List.drop_take, hd2, show a + (aF s.length).length + s.length - (a + (aF s.length).length) = s.length by omega, List.take_left]
 have hT : a + (fJ s).length = a + (aF s.length).length + s.length := by rw [fJ, List.length_append]; omega
 refine cX (E := E) (Li := rd N q a) (n := 44) (rs := [.tmp 4]) (l := [(1, _), (0, _)]) (aQ Tryz.func54 rfl rfl rfl) (fun p hp => hin p hp) (List.pairwise_singleton _ _) rfl ?_
 refine rB <| oa rfl <| rC <| om rfl <| om rfl <| ot (rd N q a) (fun u Lo => u = .int .i64 ((s.length : Nat) : Int) ∧ Lo = rd N q (a + (aF s.length).length)) mO oV (fun H hH => fE (hH.have fun p hp => hp) hm hm2 hq hd) ?_
 rintro _ _ ⟨rfl, rfl⟩
 refine oa rfl <| tq <| rB <| om rfl <| ot (rd N q (a + (aF s.length).length)) (fun u Lo => u = .bool true ∧ Lo = rd N q (a + (aF s.length).length)) aHf oV (fun H hH => rZ (hH.have fun p hp => hp)) ?_
 rintro _ _ ⟨rfl, rfl⟩
 refine eZ rfl rfl rfl rfl <| aB <| aG rfl <| aJ <| aD <| aH <| rB <| om rfl <| om rfl <| ot (rd N q (a + (aF s.length).length)) (fun u Lo => u = .int .i64 ((q.data.toList.length - (a + (aF s.length).length) : Nat) : Int) ∧ Lo = rd N q (a + (aF s.length).length)) aKq oV (fun H hH => yM (hH.have fun p hp => hp) hq (by omega)) ?_
 rintro _ _ ⟨rfl, rfl⟩
 refine ob rfl (by exact bW (by omega)) ?_
 refine aB <| aG rfl <| aJ <| aD <| aH <| cC (E := E) mixed [] _ (List.Sublist.refl _) (by kernel_rfl) (by kernel_rfl) (by decide) ?_
 refine om rfl <| nc rfl <| fo 1 oF gJ rfl <| lG rfl V9 ?_
 refine om rfl <| nc rfl <| fo 2 oF aI rfl <| lG rfl V3 ?_
 refine om rfl <| nc rfl <| fo 2 oF aI rfl <| lG rfl V3 ?_
 refine om rfl <| ob rfl (by exact jW (c := ((a + (aF s.length).length + s.length : Nat) : Int)) (by rw [cO (by omega) (by omega)]; omega)) ?_
 refine wZ (p := a + (aF s.length).length) (q := a + (aF s.length).length + s.length) rfl rfl rfl V9 rfl (aBb (by omega) (by omega)) ?_
 rw [hcut]
 refine oa rfl <| rC <| om rfl <| nc rfl <| fo 2 oF aI rfl <| lG rfl V3 ?_
 refine om rfl <| ob rfl (by exact jW (c := ((a + (aF s.length).length + s.length : Nat) : Int)) (by rw [cO (by omega) (by omega)]; omega)) ?_
 refine nc rfl <| fo 2 oF aI rfl <| dC rfl nM rfl rfl aI rfl rfl uP (by rfl) (by exact Nat.le_of_ble_eq_true rfl) nM ?_
 refine rC <| om rfl <| oa rfl <| aB <| aT <| aE (.tmp rfl .nil) ?_
 exact fun H hH => ⟨_, hH.turned (Gr.refl _ _) ⟨_, List.Mem.head _⟩, rfl, by rw [hT]; rfl⟩
end Go.Proofs.YteklajiaicmogaaGreatDoor
