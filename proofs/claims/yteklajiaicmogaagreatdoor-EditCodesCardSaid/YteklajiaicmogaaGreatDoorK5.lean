/-
  The walks through the codec, part 5.
-/
import Derived.Test.YteklajiaicmogaaGreatDoorK4
set_option linter.unusedVariables false
set_option linter.unusedSimpArgs false
set_option maxRecDepth 100000
namespace Go.Proofs.YteklajiaicmogaaGreatDoor
open Go Go.AM
theorem aJv : ∃ fn, E.fn 14 = some fn := ⟨_, aQ Tryz.func14 rfl rfl rfl⟩
theorem aWa : ∃ fn, E.fn 16 = some fn := ⟨_, aQ Tryz.func16 rfl rfl rfl⟩
theorem aVq : ∃ fn, E.fn 17 = some fn := ⟨_, aQ Tryz.func17 rfl rfl rfl⟩
theorem aPv : ∃ fn, E.fn 47 = some fn := ⟨_, aQ Tryz.func47 rfl rfl rfl⟩
theorem aWc : ∃ fn, E.fn 48 = some fn := ⟨_, aQ Tryz.func48 rfl rfl rfl⟩
theorem has49 : ∃ fn, E.fn 49 = some fn := ⟨_, aQ Tryz.func49 rfl rfl rfl⟩
section
variable {S S0 : AH} {A : Nat → Prop} {ks : List Kd} {x : Nat → Value} {c : Nat → CT} {k : Nat}
theorem iU (px : Pts A S0 ks x c) (hk : oW ks[k]? = true) : XCall Tryz.prog 46 [.int .i64 (iv (c k))] S fun v H' => v = .string ⟨⟨bB (.i k) c⟩⟩ ∧ Kept S.nx S H' := by rw [bB]; exact gS (nH px (pB hk))
theorem aKz (h : (tv (c k)).length ≤ 1099511627776) : XCall Tryz.prog 14 [.string ⟨⟨tv (c k)⟩⟩] S fun v H' => v = .string ⟨⟨bB (.t k) c⟩⟩ ∧ Kept S.nx S H' := by rw [bB]; exact aPw (s := ⟨⟨tv (c k)⟩⟩) h
theorem aPm : XCall Tryz.prog 47 [.bool (bv (c k))] S fun v H' => v = .string ⟨⟨bB (.b k) c⟩⟩ ∧ Kept S.nx S H' := by rw [bB]; exact aQg
theorem aVm (hA : ∀ j, A j → j < S.nx) {f : Nat → Value} (h0 : f 0 = .int .i64 (iv (c k))) (h1 : f 1 = .int .i64 (iv (c (k + 1)))) (hx : CellA A S (.row 8 [.int .i64]) (f 2) (.row (rv (c (k + 2))))) (hm : ckE iI (iv (c k)) (iv (c (k + 1))) (rv (c (k + 2))) = 0) : XCall Tryz.prog 16 [.agg ⟨cellsOf 3 f⟩] S fun v H' => v = .string ⟨⟨bB (.msk k) c⟩⟩ ∧ Kept S.nx S H' := by
 rw [bB, show cellsOf 3 f = [f 0, f 1, f 2] from rfl, h0, h1]
 exact aLq hA hx hm
theorem aVu (hA : ∀ j, A j → j < S.nx) {f : Nat → Value} (h0 : f 0 = .int .i64 (iv (c k))) (h1 : f 1 = .int .i64 (iv (c (k + 1)))) (hx : CellA A S (.row 32 kP) (f 2) (.row (rv (c (k + 2))))) (hm : ckE kV (iv (c k)) (iv (c (k + 1))) (rv (c (k + 2))) = 0) : XCall Tryz.prog 17 [.agg ⟨cellsOf 3 f⟩] S fun v H' => v = .string ⟨⟨bB (.img k) c⟩⟩ ∧ Kept S.nx S H' := by
 rw [bB, show cellsOf 3 f = [f 0, f 1, f 2] from rfl, h0, h1]
 exact aJe hA hx hm
theorem xs_it (hA : ∀ j, A j → j < S.nx) {w : Value} (hx : CellA A S (.row 8 [.int .i64]) w (.row (rv (c k)))) (hl : (rv (c k)).length ≤ 1073741824) : XCall Tryz.prog 49 [w] S fun v H' => v = .string ⟨⟨bB (.ints k) c⟩⟩ ∧ Kept S.nx S H' := by rw [bB]; exact aNt hA hx hl
theorem aUz {f : Nat → Value} {a b g r : Int} (h0 : f 0 = .int .i64 r) (h1 : f 1 = .int .i64 g) (h2 : f 2 = .int .i64 b) (h3 : f 3 = .int .i64 a) (q0 : I64 r) (q1 : I64 g) (q2 : I64 b) (q3 : I64 a) : XCall Tryz.prog 48 [.agg ⟨cellsOf 4 f⟩] S fun v H' => v = .string ⟨⟨bO r ++ bO g ++ bO b ++ bO a⟩⟩ ∧ Kept S.nx S H' := by
 rw [show cellsOf 4 f = [f 0, f 1, f 2, f 3] from rfl, h0, h1, h2, h3]
 exact aMm q0 q1 q2 q3
theorem aOv {c : Nat → CT} {k0 k1 k2 k3 : Nat} : bO (iv (c k0)) ++ bO (iv (c k1)) ++ bO (iv (c k2)) ++ bO (iv (c k3)) = aA ([k0, k1, k2, k3].map .i) c := by simp [aA, bB]
end
theorem xA {H : AH} {p : Addr} {m a b o j : Nat} {xs : List Value} {v : Value} (lx : aloads H p m = some xs) (h : a + b + o = j) (hj : j < m) (hv : xs[j]? = some v) : aload H (((p.add a).add b).add o) = some v := by
 rw [Go.AM.aKl, Go.AM.aKl, show a + (b + o) = j by omega, nD lx hj, hv]
theorem dF {a b : List UInt8} (h : a = b) : (⟨⟨b⟩⟩ : ByteArray) = ⟨⟨a⟩⟩ := by rw [h]
theorem dA {a b : Nat} (h : a + b ≤ 140737488355328) : a + b ≤ 9223372036854775807 := Nat.le_trans h (by decide)
theorem nT {sub s1 s2 s3 : List Item} {l : List (List CT)} {k : Nat} {e : Nat → CT} {P : List UInt8} (h : s1 ++ s2 = s3) : (P ++ aL sub (l.take k) ++ aA s1 e) ++ aA s2 e = P ++ aL sub (l.take k) ++ aA s3 e := by rw [List.append_assoc, bT h]
theorem aVz {sub s1 s2 : List Item} {l : List (List CT)} {k : Nat} {d : List CT} {P : List UInt8} (hd : l[k]? = some d) (h : s1 ++ s2 = sub) : (P ++ aL sub (l.take k) ++ aA s1 (cfn d)) ++ aA s2 (cfn d) = P ++ aL sub (l.take (k + 1)) := by rw [nT h, List.append_assoc, dN hd]
set_option maxHeartbeats 4000000 in
theorem aLv {S : AH} {A : Nat → Prop} (hA : ∀ j, A j → j < S.nx) {x : Nat → Value} {c : Nat → CT} (px : Pts A S kNode x c) (hm9 : ckE iI (iv (c 9)) (iv (c 10)) (rv (c 11)) = 0) (hm19 : ckE kV (iv (c 19)) (iv (c 20)) (rv (c 21)) = 0) (hB : (aA nodeIts c).length ≤ 1073741824) : XCall Tryz.prog 15 [.agg ⟨cellsOf 43 x⟩] S fun v H' => v = .string ⟨⟨aA nodeIts c⟩⟩ ∧ Kept S.nx S H' := by
 obtain ⟨l29, a29, c29, e29, hx29, r29⟩ := (px 29 _ rfl).rowD
 have hv29 : rv (c 29) = l29 := by rw [e29]; rfl
 have hb29 := r29.len
 obtain ⟨l30, a30, c30, e30, hx30, r30⟩ := (px 30 _ rfl).rowD
 have hv30 : rv (c 30) = l30 := by rw [e30]; rfl
 have hb30 := r30.len
 obtain ⟨l42, a42, c42, e42, hx42, r42⟩ := (px 42 _ rfl).rowD
 have hv42 : rv (c 42) = l42 := by rw [e42]; rfl
 have hb42 := r42.len
 refine bN (E := E) (n := 266) (rs := [.tmp 2]) (l := [(0, _)]) (aQ Tryz.func15 rfl rfl rfl) hA rfl ?_
 refine rB <| cZ rfl rfl nM rfl ?_
 intro N1
 refine oa rfl <| tq <| cC (E := E) mixed [2, 5, 9, 13, 17, 21, 25] _ (List.Sublist.refl _) (by kernel_rfl) (by kernel_rfl) (by decide) ?_
 refine fo 0 V38 aI rfl <| lB rfl V3 (bG px (i := 0) rfl) ?_
 refine bF rfl rfl (fun _ => mA) rfl eV oV (fun H hH => iU px rfl) ?_
 refine fo 1 V38 aI rfl <| lB rfl V3 (bG px (i := 1) rfl) ?_
 refine bF rfl rfl (fun _ => mA) rfl eV oV (fun H hH => iU px rfl) ?_
 refine ob rfl (by exact bE (v := ⟨⟨aA (nodeIts.take 2) c⟩⟩) (dA (fits (by rw [← pS (.i 0)]; exact cA (l1 := nodeIts.take 1) (a := .i 1) 2 rfl) hB)) (dF (by rw [← pS (.i 0)]; exact bC rfl))) ?_
 refine fo 2 V38 aI rfl <| lB rfl V3 (bG px (i := 2) rfl) ?_
 refine bF rfl rfl (fun _ => mA) rfl eV oV (fun H hH => iU px rfl) ?_
 refine ob rfl (by exact bE (v := ⟨⟨aA (nodeIts.take 3) c⟩⟩) (dA (fits (cA (l1 := nodeIts.take 2) (a := .i 2) 3 rfl) hB)) (dF (bC rfl))) ?_
 refine fo 3 V38 gJ rfl <| lB rfl V9 (tA px (i := 3) rfl) ?_
 refine bF rfl rfl (fun _ => mA) rfl aJv oV (fun H hH => aKz (by have := uR (c := c) (its := nodeIts) (a := .t 3) (by simp [nodeIts]); rw [bB, fJ, List.length_append] at this; omega)) ?_
 refine ob rfl (by exact bE (v := ⟨⟨aA (nodeIts.take 4) c⟩⟩) (dA (fits (cA (l1 := nodeIts.take 3) (a := .t 3) 4 rfl) hB)) (dF (bC rfl))) ?_
 refine fo 4 V38 lR rfl <| lB rfl V4 (aBs px (i := 4) rfl) ?_
 refine bF rfl rfl (fun _ => mA) rfl aPv oV (fun H hH => aPm) ?_
 refine ob rfl (by exact bE (v := ⟨⟨aA (nodeIts.take 5) c⟩⟩) (dA (fits (cA (l1 := nodeIts.take 4) (a := .b 4) 5 rfl) hB)) (dF (bC rfl))) ?_
 refine fo 5 V38 lR rfl <| lB rfl V4 (aBs px (i := 5) rfl) ?_
 refine bF rfl rfl (fun _ => mA) rfl aPv oV (fun H hH => aPm) ?_
 refine ob rfl (by exact bE (v := ⟨⟨aA (nodeIts.take 6) c⟩⟩) (dA (fits (cA (l1 := nodeIts.take 5) (a := .b 5) 6 rfl) hB)) (dF (bC rfl))) ?_
 refine fo 6 V38 lR rfl <| lB rfl V4 (aBs px (i := 6) rfl) ?_
 refine bF rfl rfl (fun _ => mA) rfl aPv oV (fun H hH => aPm) ?_
 refine ob rfl (by exact bE (v := ⟨⟨aA (nodeIts.take 7) c⟩⟩) (dA (fits (cA (l1 := nodeIts.take 6) (a := .b 6) 7 rfl) hB)) (dF (bC rfl))) ?_
 refine oa rfl <| tq <| cC (E := E) mixed [3, 7, 11] _ (List.Sublist.refl _) (by kernel_rfl) (by kernel_rfl) (by decide) ?_
 refine om rfl <| fo 7 V38 aI rfl <| lB rfl V3 (bG px (i := 7) rfl) ?_
 refine bF rfl rfl (fun _ => mA) rfl eV oV (fun H hH => iU px rfl) ?_
 refine ob rfl (by exact bE (v := ⟨⟨aA (nodeIts.take 8) c⟩⟩) (dA (fits (cA (l1 := nodeIts.take 7) (a := .i 7) 8 rfl) hB)) (dF (bC rfl))) ?_
 refine fo 8 V38 aI rfl <| lB rfl V3 (bG px (i := 8) rfl) ?_
 refine bF rfl rfl (fun _ => mA) rfl eV oV (fun H hH => iU px rfl) ?_
 refine ob rfl (by exact bE (v := ⟨⟨aA (nodeIts.take 9) c⟩⟩) (dA (fits (cA (l1 := nodeIts.take 8) (a := .i 8) 9 rfl) hB)) (dF (bC rfl))) ?_
 refine fo 9 V38 fI rfl <| lC rfl V24 fI ?_
 refine bF rfl rfl (fun _ => mA) rfl aWa oV (fun H hH => aVm (f := fun i => x (9 + i)) hH.lt (bG px (i := 9) rfl) (bG px (i := 10) rfl) (CellA.gr hH.gr _ _ _ (kY px (i := 11) rfl)) hm9) ?_
 refine ob rfl (by exact bE (v := ⟨⟨aA (nodeIts.take 10) c⟩⟩) (dA (fits (cA (l1 := nodeIts.take 9) (a := .msk 9) 10 rfl) hB)) (dF (bC rfl))) ?_
 refine oa rfl <| tq <| cC (E := E) mixed [4, 9, 14, 19, 24, 29] _ (List.Sublist.refl _) (by kernel_rfl) (by kernel_rfl) (by decide) ?_
 refine om rfl <| fo 12 V38 jN rfl <| fo 12 V26 aI rfl <| lB rfl V3 (bG px (i := 12) rfl) ?_
 refine bF rfl rfl (fun _ => mA) rfl eV oV (fun H hH => iU px rfl) ?_
 refine ob rfl (by exact bE (v := ⟨⟨aA (nodeIts.take 11) c⟩⟩) (dA (fits (cA (l1 := nodeIts.take 10) (a := .i 12) 11 rfl) hB)) (dF (bC rfl))) ?_
 refine fo 12 V38 jN rfl <| fo 13 V26 aI rfl <| lB rfl V3 (bG px (i := 13) rfl) ?_
 refine bF rfl rfl (fun _ => mA) rfl eV oV (fun H hH => iU px rfl) ?_
 refine ob rfl (by exact bE (v := ⟨⟨aA (nodeIts.take 12) c⟩⟩) (dA (fits (cA (l1 := nodeIts.take 11) (a := .i 13) 12 rfl) hB)) (dF (bC rfl))) ?_
 refine fo 12 V38 jN rfl <| fo 14 V26 aI rfl <| lB rfl V3 (bG px (i := 14) rfl) ?_
 refine bF rfl rfl (fun _ => mA) rfl eV oV (fun H hH => iU px rfl) ?_
 refine ob rfl (by exact bE (v := ⟨⟨aA (nodeIts.take 13) c⟩⟩) (dA (fits (cA (l1 := nodeIts.take 12) (a := .i 14) 13 rfl) hB)) (dF (bC rfl))) ?_
 refine fo 12 V38 jN rfl <| fo 15 V26 aI rfl <| lB rfl V3 (bG px (i := 15) rfl) ?_
 refine bF rfl rfl (fun _ => mA) rfl eV oV (fun H hH => iU px rfl) ?_
 refine ob rfl (by exact bE (v := ⟨⟨aA (nodeIts.take 14) c⟩⟩) (dA (fits (cA (l1 := nodeIts.take 13) (a := .i 15) 14 rfl) hB)) (dF (bC rfl))) ?_
 refine fo 12 V38 jN rfl <| fo 16 V26 aI rfl <| lB rfl V3 (bG px (i := 16) rfl) ?_
 refine bF rfl rfl (fun _ => mA) rfl eV oV (fun H hH => iU px rfl) ?_
 refine ob rfl (by exact bE (v := ⟨⟨aA (nodeIts.take 15) c⟩⟩) (dA (fits (cA (l1 := nodeIts.take 14) (a := .i 16) 15 rfl) hB)) (dF (bC rfl))) ?_
 refine fo 12 V38 jN rfl <| fo 17 V26 aI rfl <| lB rfl V3 (bG px (i := 17) rfl) ?_
 refine bF rfl rfl (fun _ => mA) rfl eV oV (fun H hH => iU px rfl) ?_
 refine ob rfl (by exact bE (v := ⟨⟨aA (nodeIts.take 16) c⟩⟩) (dA (fits (cA (l1 := nodeIts.take 15) (a := .i 17) 16 rfl) hB)) (dF (bC rfl))) ?_
 refine oa rfl <| tq <| cC (E := E) mixed [3, 7, 11, 15, 19, 23] _ (List.Sublist.refl _) (by kernel_rfl) (by kernel_rfl) (by decide) ?_
 refine om rfl <| fo 18 V38 aI rfl <| lB rfl V3 (bG px (i := 18) rfl) ?_
 refine bF rfl rfl (fun _ => mA) rfl eV oV (fun H hH => iU px rfl) ?_
 refine ob rfl (by exact bE (v := ⟨⟨aA (nodeIts.take 17) c⟩⟩) (dA (fits (cA (l1 := nodeIts.take 16) (a := .i 18) 17 rfl) hB)) (dF (bC rfl))) ?_
 refine fo 19 V38 fH rfl <| lC rfl V29 fH ?_
 refine bF rfl rfl (fun _ => mA) rfl aVq oV (fun H hH => aVu (f := fun i => x (19 + i)) hH.lt (bG px (i := 19) rfl) (bG px (i := 20) rfl) (CellA.gr hH.gr _ _ _ (kY px (i := 21) rfl)) hm19) ?_
 refine ob rfl (by exact bE (v := ⟨⟨aA (nodeIts.take 18) c⟩⟩) (dA (fits (cA (l1 := nodeIts.take 17) (a := .img 19) 18 rfl) hB)) (dF (bC rfl))) ?_
 refine fo 22 V38 bL rfl <| lC rfl V31 bL ?_
 refine bF rfl rfl (fun _ => mA) rfl aWc oV (fun H hH => aUz (f := fun i => x (22 + i)) (bG px (i := 22) rfl) (bG px (i := 23) rfl) (bG px (i := 24) rfl) (bG px (i := 25) rfl) (nH px (i := 22) rfl) (nH px (i := 23) rfl) (nH px (i := 24) rfl) (nH px (i := 25) rfl)) ?_
 refine ob rfl (by exact bE (v := ⟨⟨aA (nodeIts.take 22) c⟩⟩) (dA (fits (by rw [aOv]; exact fA (l1 := nodeIts.take 18) (l2 := [22, 23, 24, 25].map .i) 22 rfl) hB)) (dF (by rw [aOv]; exact bT rfl))) ?_
 refine fo 26 V38 aI rfl <| lB rfl V3 (bG px (i := 26) rfl) ?_
 refine bF rfl rfl (fun _ => mA) rfl eV oV (fun H hH => iU px rfl) ?_
 refine ob rfl (by exact bE (v := ⟨⟨aA (nodeIts.take 23) c⟩⟩) (dA (fits (cA (l1 := nodeIts.take 22) (a := .i 26) 23 rfl) hB)) (dF (bC rfl))) ?_
 refine fo 27 V38 eI rfl <| lA rfl V22 ?_
 refine bF rfl rfl (fun _ => mA) rfl has49 oV (fun H hH => xs_it (k := 27) hH.lt (CellA.gr hH.gr _ _ _ (kY px (i := 27) rfl)) (aFb (uR (c := c) (its := nodeIts) (a := .ints 27) (by simp [nodeIts])) hB)) ?_
 refine ob rfl (by exact bE (v := ⟨⟨aA (nodeIts.take 24) c⟩⟩) (dA (fits (cA (l1 := nodeIts.take 23) (a := .ints 27) 24 rfl) hB)) (dF (bC rfl))) ?_
 refine fo 28 V38 aI rfl <| lB rfl V3 (bG px (i := 28) rfl) ?_
 refine bF rfl rfl (fun _ => mA) rfl eV oV (fun H hH => iU px rfl) ?_
 refine ob rfl (by exact bE (v := ⟨⟨aA (nodeIts.take 25) c⟩⟩) (dA (fits (cA (l1 := nodeIts.take 24) (a := .i 28) 25 rfl) hB)) (dF (bC rfl))) ?_
 refine oa rfl <| rC <| om rfl <| fo 29 V38 nX rfl <| lB rfl V32 hx29 ?_
 refine ll rfl V32 <| oc jD oV (fun H hH => fD (n := l29.length) (by omega)) ?_
 refine ob rfl (by exact bE (v := ⟨⟨aA (nodeIts.take 25) c ++ aF l29.length⟩⟩) (dA (fits (gN (l1 := nodeIts.take 25) (r1 := nodeIts.drop 26) rfl hv29) hB)) rfl) ?_
 refine oa rfl <| tq <| rB <| oa rfl <| aB <| aK ?_
 refine bK (σ := Nat) (fun k => l29.length - k) (fun k => [(1, .pointer (some ⟨2 * N1 + 1, 0, none⟩)), (3, .string ⟨⟨aA (nodeIts.take 25) c ++ aF l29.length ++ aL stopIts (l29.take k)⟩⟩), (4, .int .i64 ((k : Nat) : Int))]) (fun _ => S) (fun _ => A) (fun _ => [(N1, .cells (cellsOf 43 x) (cI E 38) true)]) (fun k => k ≤ l29.length) (0) ((Nat.zero_le _)) (by repeat (first | exact .nil | refine .cons (by first | rfl | (show some _ = some (Value.string ⟨⟨aA (nodeIts.take 25) c ++ aF l29.length ++ aL stopIts (l29.take 0)⟩⟩); simp [aL])) ?_)) rfl rfl (List.Sublist.refl _) ?_
 intro k hJ2 t1
 refine aH <| aH ?_
 rcases Nat.lt_or_ge k l29.length with hk | hk
 ·obtain ⟨q, us, d, eq, ix, hd, lx, kx⟩ := r29.at' k hk
  cases eq
  obtain ⟨y, e, rfl, rfl, py⟩ := kx.fn (n := 5) rfl
  have hE : ∀ j, j < 5 → cfn (dJ 5 e) j = e j := fun j h => by rw [cfn, jL h]; rfl
  refine rA <| om rfl <| fo 29 V38 nX rfl <| lB rfl V32 hx29 ?_
  refine ll rfl V32 <| ob rfl (by exact aX (by omega)) ?_
  refine aB <| aO rfl <| aJ <| aD <| aH <| aK <| cC (E := E) mixed [7, 15] _ (List.Sublist.refl _) (by kernel_rfl) (by kernel_rfl) (by decide) ?_
  refine om rfl <| fo 29 V38 nX rfl <| lB rfl V32 hx29 ?_
  refine om rfl <| bH rfl rfl rfl rfl V32 lP rfl (by omega) ?_
  refine eP rfl rfl rfl rR rfl aI rfl rfl <| aV rfl rfl rfl (by exact cU V3 rfl (InA.add (InA.add ix)) ((nD lx (j := 0) (by decide)).trans ((cB rfl).trans (congrArg some (bG py (i := 0) rfl))))) ?_
  refine bF rfl rfl (fun _ => mA) rfl eV oV (fun H hH => gS (nH py (i := 0) rfl)) ?_
  refine ob rfl (by exact bE (v := ⟨⟨aA (nodeIts.take 25) c ++ aF l29.length ++ aL stopIts (l29.take k) ++ aA (stopIts.take 1) (cfn (dJ 5 e))⟩⟩) (dA (fits (by rw [show bO (iv (e 0)) = aA ([0].map .i) (cfn (dJ 5 e)) by simp only [List.map_cons, List.map_nil, aA, bB, List.append_nil, List.append_assoc]; rfl]; exact fG (l1 := nodeIts.take 25) (r1 := nodeIts.drop 26) (s2 := stopIts.drop 1) rfl hv29 hd rfl) hB)) (dF (congrArg _ (show bO (iv (e 0)) = aA ([0].map .i) (cfn (dJ 5 e)) by simp only [List.map_cons, List.map_nil, aA, bB, List.append_nil, List.append_assoc]; rfl)))) ?_
  refine fo 29 V38 nX rfl <| lB rfl V32 hx29 ?_
  refine om rfl <| bH rfl rfl rfl rfl V32 lP rfl (by omega) ?_
  refine eP rfl rfl rfl rR rfl bL rfl rfl <| aV rfl rfl rfl (by exact cS V31 rfl bL rfl (InA.add (InA.add ix)) (show aloads _ _ 4 = some (cellsOf 4 fun i => y (1 + i)) from (aJh lx (j := 1) (m := 4) (by decide)).trans (congrArg some (uN rfl)))) ?_
  refine bF rfl rfl (fun _ => mA) rfl aWc oV (fun H hH => aUz (f := fun i => y (1 + i)) (bG py (i := 1) rfl) (bG py (i := 2) rfl) (bG py (i := 3) rfl) (bG py (i := 4) rfl) (nH py (i := 1) rfl) (nH py (i := 2) rfl) (nH py (i := 3) rfl) (nH py (i := 4) rfl)) ?_
  refine ob rfl (by exact bE (v := ⟨⟨aA (nodeIts.take 25) c ++ aF l29.length ++ aL stopIts (l29.take (k + 1))⟩⟩) (dA (fits (by rw [show bO (iv (e 1)) ++ bO (iv (e 2)) ++ bO (iv (e 3)) ++ bO (iv (e 4)) = aA ([1, 2, 3, 4].map .i) (cfn (dJ 5 e)) by simp only [List.map_cons, List.map_nil, aA, bB, List.append_nil, List.append_assoc]; rfl, nT (s3 := stopIts) rfl]; exact fG (l1 := nodeIts.take 25) (r1 := nodeIts.drop 26) (s2 := []) rfl hv29 hd rfl) hB)) (dF (by rw [show bO (iv (e 1)) ++ bO (iv (e 2)) ++ bO (iv (e 3)) ++ bO (iv (e 4)) = aA ([1, 2, 3, 4].map .i) (cfn (dJ 5 e)) by simp only [List.map_cons, List.map_nil, aA, bB, List.append_nil, List.append_assoc]; rfl]; exact aVz (sub := stopIts) hd rfl))) ?_
  refine oa rfl <| aZ <| bA <| aD <| rA <| om rfl <| ob rfl (by exact aY (by omega)) ?_
  refine oa rfl <| aZ ?_
  refine rd' (k + 1) (show l29.length - (k + 1) < l29.length - k by omega) (show k + 1 ≤ l29.length by omega)
 ·obtain rfl : k = l29.length := by omega
  rw [iB (l3 := nodeIts.take 26) hv29 rfl]
  refine rA <| om rfl <| fo 29 V38 nX rfl <| lB rfl V32 hx29 ?_
  refine ll rfl V32 <| ob rfl (by exact aW (by omega)) ?_
  refine aB <| aG rfl <| bJ <| aR <| aS <| aN <| aD <| rB <| om rfl <| fo 30 V38 lN rfl <| lB rfl V33 hx30 ?_
  refine ll rfl V33 <| oc jD oV (fun H hH => fD (n := l30.length) (by omega)) ?_
  refine ob rfl (by exact bE (v := ⟨⟨aA (nodeIts.take 26) c ++ aF l30.length⟩⟩) (dA (fits (gN (l1 := nodeIts.take 26) (r1 := nodeIts.drop 27) rfl hv30) hB)) rfl) ?_
  refine oa rfl <| tq <| rB <| oa rfl <| aB <| aK ?_
  refine bK (σ := Nat) (fun k => l30.length - k) (fun k => [(1, .pointer (some ⟨2 * N1 + 1, 0, none⟩)), (3, .string ⟨⟨aA (nodeIts.take 26) c ++ aF l30.length ++ aL segIts (l30.take k)⟩⟩), (5, .int .i64 ((k : Nat) : Int))]) (fun _ => S) (fun _ => A) (fun _ => [(N1, .cells (cellsOf 43 x) (cI E 38) true)]) (fun k => k ≤ l30.length) (0) ((Nat.zero_le _)) (by repeat (first | exact .nil | refine .cons (by first | rfl | (show some _ = some (Value.string ⟨⟨aA (nodeIts.take 26) c ++ aF l30.length ++ aL segIts (l30.take 0)⟩⟩); simp [aL])) ?_)) rfl rfl (List.Sublist.refl _) ?_
  intro k hJ2 t2
  refine aH <| aH ?_
  rcases Nat.lt_or_ge k l30.length with hk | hk
  ·obtain ⟨q, us, d, eq, ix, hd, lx, kx⟩ := r30.at' k hk
   cases eq
   obtain ⟨y, e, rfl, rfl, py⟩ := kx.fn (n := 7) rfl
   have hE : ∀ j, j < 7 → cfn (dJ 7 e) j = e j := fun j h => by rw [cfn, jL h]; rfl
   refine rA <| om rfl <| fo 30 V38 lN rfl <| lB rfl V33 hx30 ?_
   refine ll rfl V33 <| ob rfl (by exact aX (by omega)) ?_
   refine aB <| aO rfl <| aJ <| aD <| aH <| aK <| rB <| om rfl <| fo 30 V38 lN rfl <| lB rfl V33 hx30 ?_
   refine om rfl <| bH rfl rfl rfl rfl V33 iE rfl (by omega) ?_
   refine eP rfl rfl rfl oG rfl aI rfl rfl <| aV rfl rfl rfl (by exact cU V3 rfl (InA.add (InA.add ix)) ((nD lx (j := 0) (by decide)).trans ((cB rfl).trans (congrArg some (bG py (i := 0) rfl))))) ?_
   refine oc eV oV (fun H hH => gS (nH py (i := 0) rfl)) ?_
   refine ob rfl (by exact bE (v := ⟨⟨aA (nodeIts.take 26) c ++ aF l30.length ++ aL segIts (l30.take k) ++ aA (segIts.take (1 + 2 * 0)) (cfn (dJ 7 e))⟩⟩) (dA (fits (by rw [show bO (iv (e 0)) = aA ([0].map .i) (cfn (dJ 7 e)) by simp only [List.map_cons, List.map_nil, aA, bB, List.append_nil, List.append_assoc]; rfl]; exact fG (l1 := nodeIts.take 26) (r1 := nodeIts.drop 27) (s2 := segIts.drop 1) rfl hv30 hd rfl) hB)) (dF (congrArg _ (show bO (iv (e 0)) = aA ([0].map .i) (cfn (dJ 7 e)) by simp only [List.map_cons, List.map_nil, aA, bB, List.append_nil, List.append_assoc]; rfl)))) ?_
   refine oa rfl <| rC <| oa rfl <| aB <| aK ?_
   refine bK (σ := Nat) (fun j => 3 - j) (fun j => [(1, .pointer (some ⟨2 * N1 + 1, 0, none⟩)), (3, .string ⟨⟨aA (nodeIts.take 26) c ++ aF l30.length ++ aL segIts (l30.take k) ++ aA (segIts.take (1 + 2 * j)) (cfn (dJ 7 e))⟩⟩), (5, .int .i64 ((k : Nat) : Int)), (6, .int .i64 ((j : Nat) : Int))]) (fun _ => S) (fun _ => A) (fun _ => [(N1, .cells (cellsOf 43 x) (cI E 38) true)]) (fun j => j ≤ 3) (0) ((Nat.zero_le _)) pK rfl rfl (List.Sublist.refl _) ?_
   intro j hJ2 t3
   refine aH <| aH ?_
   rcases (show j = 0 ∨ j = 1 ∨ j = 2 ∨ j = 3 by omega) with rfl | rfl | rfl | rfl
   ·refine rA <| om rfl <| ob rfl (by exact aX (by omega)) ?_
    refine aB <| aO rfl <| aJ <| aD <| aH <| aK <| cC (E := E) mixed [10, 21] _ (List.Sublist.refl _) (by kernel_rfl) (by kernel_rfl) (by decide) ?_
    refine om rfl <| fo 30 V38 lN rfl <| lB rfl V33 hx30 ?_
    refine om rfl <| om rfl <| bH rfl rfl rfl rfl V33 iE rfl (by omega) ?_
    refine eP rfl rfl rfl oG rfl lF rfl rfl <| mZ (j := 0) rfl rfl rfl rfl tD eB rfl (by decide) ?_
    refine eP rfl rfl rfl V44 rfl aI rfl rfl <| aV rfl rfl rfl (by exact cU V3 rfl (InA.add (InA.add (InA.add (InA.add ix)))) (xA lx (j := 1) rfl (by decide) ((cB rfl).trans (congrArg some (bG py (i := 1) rfl))))) ?_
    refine bF rfl rfl (fun _ => mA) rfl eV oV (fun H hH => gS (nH py (i := 1) rfl)) ?_
    refine ob rfl (by exact bE (v := ⟨⟨aA (nodeIts.take 26) c ++ aF l30.length ++ aL segIts (l30.take k) ++ aA (segIts.take (2)) (cfn (dJ 7 e))⟩⟩) (dA (fits (by rw [show bO (iv (e 1)) = aA ([1].map .i) (cfn (dJ 7 e)) by simp only [List.map_cons, List.map_nil, aA, bB, List.append_nil, List.append_assoc]; rfl, nT (s3 := segIts.take 2) rfl]; exact fG (l1 := nodeIts.take 26) (r1 := nodeIts.drop 27) (s2 := segIts.drop 2) rfl hv30 hd rfl) hB)) (dF (by rw [show bO (iv (e 1)) = aA ([1].map .i) (cfn (dJ 7 e)) by simp only [List.map_cons, List.map_nil, aA, bB, List.append_nil, List.append_assoc]; rfl]; exact nT rfl))) ?_
    refine fo 30 V38 lN rfl <| lB rfl V33 hx30 ?_
    refine om rfl <| om rfl <| bH rfl rfl rfl rfl V33 iE rfl (by omega) ?_
    refine eP rfl rfl rfl oG rfl lF rfl rfl <| mZ (j := 0) rfl rfl rfl rfl tD eB rfl (by decide) ?_
    refine eP rfl rfl rfl V44 rfl aI rfl rfl <| aV rfl rfl rfl (by exact cU V3 rfl (InA.add (InA.add (InA.add (InA.add ix)))) (xA lx (j := 2) rfl (by decide) ((cB rfl).trans (congrArg some (bG py (i := 2) rfl))))) ?_
    refine bF rfl rfl (fun _ => mA) rfl eV oV (fun H hH => gS (nH py (i := 2) rfl)) ?_
    refine ob rfl (by exact bE (v := ⟨⟨aA (nodeIts.take 26) c ++ aF l30.length ++ aL segIts (l30.take k) ++ aA (segIts.take (3)) (cfn (dJ 7 e))⟩⟩) (dA (fits (by rw [show bO (iv (e 2)) = aA ([2].map .i) (cfn (dJ 7 e)) by simp only [List.map_cons, List.map_nil, aA, bB, List.append_nil, List.append_assoc]; rfl, nT (s3 := segIts.take 3) rfl]; exact fG (l1 := nodeIts.take 26) (r1 := nodeIts.drop 27) (s2 := segIts.drop 3) rfl hv30 hd rfl) hB)) (dF (by rw [show bO (iv (e 2)) = aA ([2].map .i) (cfn (dJ 7 e)) by simp only [List.map_cons, List.map_nil, aA, bB, List.append_nil, List.append_assoc]; rfl]; exact nT rfl))) ?_
    refine oa rfl <| aZ <| bA <| aD <| rA <| om rfl <| ob rfl (by exact aY (by omega)) ?_
    refine oa rfl <| aZ ?_
    refine rd' 1 (show 3 - 1 < 3 - 0 by omega) (show 1 ≤ 3 by omega)
   ·refine rA <| om rfl <| ob rfl (by exact aX (by omega)) ?_
    refine aB <| aO rfl <| aJ <| aD <| aH <| aK <| cC (E := E) mixed [10, 21] _ (List.Sublist.refl _) (by kernel_rfl) (by kernel_rfl) (by decide) ?_
    refine om rfl <| fo 30 V38 lN rfl <| lB rfl V33 hx30 ?_
    refine om rfl <| om rfl <| bH rfl rfl rfl rfl V33 iE rfl (by omega) ?_
    refine eP rfl rfl rfl oG rfl lF rfl rfl <| mZ (j := 1) rfl rfl rfl rfl tD eB rfl (by decide) ?_
    refine eP rfl rfl rfl V44 rfl aI rfl rfl <| aV rfl rfl rfl (by exact cU V3 rfl (InA.add (InA.add (InA.add (InA.add ix)))) (xA lx (j := 3) rfl (by decide) ((cB rfl).trans (congrArg some (bG py (i := 3) rfl))))) ?_
    refine bF rfl rfl (fun _ => mA) rfl eV oV (fun H hH => gS (nH py (i := 3) rfl)) ?_
    refine ob rfl (by exact bE (v := ⟨⟨aA (nodeIts.take 26) c ++ aF l30.length ++ aL segIts (l30.take k) ++ aA (segIts.take (4)) (cfn (dJ 7 e))⟩⟩) (dA (fits (by rw [show bO (iv (e 3)) = aA ([3].map .i) (cfn (dJ 7 e)) by simp only [List.map_cons, List.map_nil, aA, bB, List.append_nil, List.append_assoc]; rfl, nT (s3 := segIts.take 4) rfl]; exact fG (l1 := nodeIts.take 26) (r1 := nodeIts.drop 27) (s2 := segIts.drop 4) rfl hv30 hd rfl) hB)) (dF (by rw [show bO (iv (e 3)) = aA ([3].map .i) (cfn (dJ 7 e)) by simp only [List.map_cons, List.map_nil, aA, bB, List.append_nil, List.append_assoc]; rfl]; exact nT rfl))) ?_
    refine fo 30 V38 lN rfl <| lB rfl V33 hx30 ?_
    refine om rfl <| om rfl <| bH rfl rfl rfl rfl V33 iE rfl (by omega) ?_
    refine eP rfl rfl rfl oG rfl lF rfl rfl <| mZ (j := 1) rfl rfl rfl rfl tD eB rfl (by decide) ?_
    refine eP rfl rfl rfl V44 rfl aI rfl rfl <| aV rfl rfl rfl (by exact cU V3 rfl (InA.add (InA.add (InA.add (InA.add ix)))) (xA lx (j := 4) rfl (by decide) ((cB rfl).trans (congrArg some (bG py (i := 4) rfl))))) ?_
    refine bF rfl rfl (fun _ => mA) rfl eV oV (fun H hH => gS (nH py (i := 4) rfl)) ?_
    refine ob rfl (by exact bE (v := ⟨⟨aA (nodeIts.take 26) c ++ aF l30.length ++ aL segIts (l30.take k) ++ aA (segIts.take (5)) (cfn (dJ 7 e))⟩⟩) (dA (fits (by rw [show bO (iv (e 4)) = aA ([4].map .i) (cfn (dJ 7 e)) by simp only [List.map_cons, List.map_nil, aA, bB, List.append_nil, List.append_assoc]; rfl, nT (s3 := segIts.take 5) rfl]; exact fG (l1 := nodeIts.take 26) (r1 := nodeIts.drop 27) (s2 := segIts.drop 5) rfl hv30 hd rfl) hB)) (dF (by rw [show bO (iv (e 4)) = aA ([4].map .i) (cfn (dJ 7 e)) by simp only [List.map_cons, List.map_nil, aA, bB, List.append_nil, List.append_assoc]; rfl]; exact nT rfl))) ?_
    refine oa rfl <| aZ <| bA <| aD <| rA <| om rfl <| ob rfl (by exact aY (by omega)) ?_
    refine oa rfl <| aZ ?_
    refine rd' 2 (show 3 - 2 < 3 - 1 by omega) (show 2 ≤ 3 by omega)
   ·refine rA <| om rfl <| ob rfl (by exact aX (by omega)) ?_
    refine aB <| aO rfl <| aJ <| aD <| aH <| aK <| cC (E := E) mixed [10, 21] _ (List.Sublist.refl _) (by kernel_rfl) (by kernel_rfl) (by decide) ?_
    refine om rfl <| fo 30 V38 lN rfl <| lB rfl V33 hx30 ?_
    refine om rfl <| om rfl <| bH rfl rfl rfl rfl V33 iE rfl (by omega) ?_
    refine eP rfl rfl rfl oG rfl lF rfl rfl <| mZ (j := 2) rfl rfl rfl rfl tD eB rfl (by decide) ?_
    refine eP rfl rfl rfl V44 rfl aI rfl rfl <| aV rfl rfl rfl (by exact cU V3 rfl (InA.add (InA.add (InA.add (InA.add ix)))) (xA lx (j := 5) rfl (by decide) ((cB rfl).trans (congrArg some (bG py (i := 5) rfl))))) ?_
    refine bF rfl rfl (fun _ => mA) rfl eV oV (fun H hH => gS (nH py (i := 5) rfl)) ?_
    refine ob rfl (by exact bE (v := ⟨⟨aA (nodeIts.take 26) c ++ aF l30.length ++ aL segIts (l30.take k) ++ aA (segIts.take (6)) (cfn (dJ 7 e))⟩⟩) (dA (fits (by rw [show bO (iv (e 5)) = aA ([5].map .i) (cfn (dJ 7 e)) by simp only [List.map_cons, List.map_nil, aA, bB, List.append_nil, List.append_assoc]; rfl, nT (s3 := segIts.take 6) rfl]; exact fG (l1 := nodeIts.take 26) (r1 := nodeIts.drop 27) (s2 := segIts.drop 6) rfl hv30 hd rfl) hB)) (dF (by rw [show bO (iv (e 5)) = aA ([5].map .i) (cfn (dJ 7 e)) by simp only [List.map_cons, List.map_nil, aA, bB, List.append_nil, List.append_assoc]; rfl]; exact nT rfl))) ?_
    refine fo 30 V38 lN rfl <| lB rfl V33 hx30 ?_
    refine om rfl <| om rfl <| bH rfl rfl rfl rfl V33 iE rfl (by omega) ?_
    refine eP rfl rfl rfl oG rfl lF rfl rfl <| mZ (j := 2) rfl rfl rfl rfl tD eB rfl (by decide) ?_
    refine eP rfl rfl rfl V44 rfl aI rfl rfl <| aV rfl rfl rfl (by exact cU V3 rfl (InA.add (InA.add (InA.add (InA.add ix)))) (xA lx (j := 6) rfl (by decide) ((cB rfl).trans (congrArg some (bG py (i := 6) rfl))))) ?_
    refine bF rfl rfl (fun _ => mA) rfl eV oV (fun H hH => gS (nH py (i := 6) rfl)) ?_
    refine ob rfl (by exact bE (v := ⟨⟨aA (nodeIts.take 26) c ++ aF l30.length ++ aL segIts (l30.take k) ++ aA (segIts.take (7)) (cfn (dJ 7 e))⟩⟩) (dA (fits (by rw [show bO (iv (e 6)) = aA ([6].map .i) (cfn (dJ 7 e)) by simp only [List.map_cons, List.map_nil, aA, bB, List.append_nil, List.append_assoc]; rfl, nT (s3 := segIts.take 7) rfl]; exact fG (l1 := nodeIts.take 26) (r1 := nodeIts.drop 27) (s2 := segIts.drop 7) rfl hv30 hd rfl) hB)) (dF (by rw [show bO (iv (e 6)) = aA ([6].map .i) (cfn (dJ 7 e)) by simp only [List.map_cons, List.map_nil, aA, bB, List.append_nil, List.append_assoc]; rfl]; exact nT rfl))) ?_
    refine oa rfl <| aZ <| bA <| aD <| rA <| om rfl <| ob rfl (by exact aY (by omega)) ?_
    refine oa rfl <| aZ ?_
    refine rd' 3 (show 3 - 3 < 3 - 2 by omega) (show 3 ≤ 3 by omega)
   ·rw [show aA (nodeIts.take 26) c ++ aF l30.length ++ aL segIts (l30.take k) ++ aA (segIts.take (1 + 2 * 3)) (cfn (dJ 7 e)) = aA (nodeIts.take 26) c ++ aF l30.length ++ aL segIts (l30.take (k + 1)) by rw [List.append_assoc]; exact congrArg _ (dN (sub := segIts) hd)]
    refine rA <| om rfl <| ob rfl (by exact aW (by omega)) ?_
    refine aB <| aG rfl <| bJ <| aR <| aS <| aN <| bA <| aD <| rA <| om rfl <| ob rfl (by exact aY (by omega)) ?_
    refine oa rfl <| aZ ?_
    refine rd' (k + 1) (show l30.length - (k + 1) < l30.length - k by omega) (show k + 1 ≤ l30.length by omega)
  ·obtain rfl : k = l30.length := by omega
   rw [iB (l3 := nodeIts.take 27) hv30 rfl]
   refine rA <| om rfl <| fo 30 V38 lN rfl <| lB rfl V33 hx30 ?_
   refine ll rfl V33 <| ob rfl (by exact aW (by omega)) ?_
   refine aB <| aG rfl <| bJ <| aR <| aS <| aN <| aD <| aH <| cC (E := E) mixed [3, 7, 11, 15, 19, 23, 27, 31] _ (List.Sublist.refl _) (by kernel_rfl) (by kernel_rfl) (by decide) ?_
   refine om rfl <| fo 31 V38 aI rfl <| lB rfl V3 (bG px (i := 31) rfl) ?_
   refine bF rfl rfl (fun _ => mA) rfl eV oV (fun H hH => iU px rfl) ?_
   refine ob rfl (by exact bE (v := ⟨⟨aA (nodeIts.take 28) c⟩⟩) (dA (fits (cA (l1 := nodeIts.take 27) (a := .i 31) 28 rfl) hB)) (dF (bC rfl))) ?_
   refine fo 32 V38 aI rfl <| lB rfl V3 (bG px (i := 32) rfl) ?_
   refine bF rfl rfl (fun _ => mA) rfl eV oV (fun H hH => iU px rfl) ?_
   refine ob rfl (by exact bE (v := ⟨⟨aA (nodeIts.take 29) c⟩⟩) (dA (fits (cA (l1 := nodeIts.take 28) (a := .i 32) 29 rfl) hB)) (dF (bC rfl))) ?_
   refine fo 33 V38 aI rfl <| lB rfl V3 (bG px (i := 33) rfl) ?_
   refine bF rfl rfl (fun _ => mA) rfl eV oV (fun H hH => iU px rfl) ?_
   refine ob rfl (by exact bE (v := ⟨⟨aA (nodeIts.take 30) c⟩⟩) (dA (fits (cA (l1 := nodeIts.take 29) (a := .i 33) 30 rfl) hB)) (dF (bC rfl))) ?_
   refine fo 34 V38 aI rfl <| lB rfl V3 (bG px (i := 34) rfl) ?_
   refine bF rfl rfl (fun _ => mA) rfl eV oV (fun H hH => iU px rfl) ?_
   refine ob rfl (by exact bE (v := ⟨⟨aA (nodeIts.take 31) c⟩⟩) (dA (fits (cA (l1 := nodeIts.take 30) (a := .i 34) 31 rfl) hB)) (dF (bC rfl))) ?_
   refine fo 35 V38 gJ rfl <| lB rfl V9 (tA px (i := 35) rfl) ?_
   refine bF rfl rfl (fun _ => mA) rfl aJv oV (fun H hH => aKz (by have := uR (c := c) (its := nodeIts) (a := .t 35) (by simp [nodeIts]); rw [bB, fJ, List.length_append] at this; omega)) ?_
   refine ob rfl (by exact bE (v := ⟨⟨aA (nodeIts.take 32) c⟩⟩) (dA (fits (cA (l1 := nodeIts.take 31) (a := .t 35) 32 rfl) hB)) (dF (bC rfl))) ?_
   refine fo 36 V38 aI rfl <| lB rfl V3 (bG px (i := 36) rfl) ?_
   refine bF rfl rfl (fun _ => mA) rfl eV oV (fun H hH => iU px rfl) ?_
   refine ob rfl (by exact bE (v := ⟨⟨aA (nodeIts.take 33) c⟩⟩) (dA (fits (cA (l1 := nodeIts.take 32) (a := .i 36) 33 rfl) hB)) (dF (bC rfl))) ?_
   refine fo 37 V38 aI rfl <| lB rfl V3 (bG px (i := 37) rfl) ?_
   refine bF rfl rfl (fun _ => mA) rfl eV oV (fun H hH => iU px rfl) ?_
   refine ob rfl (by exact bE (v := ⟨⟨aA (nodeIts.take 34) c⟩⟩) (dA (fits (cA (l1 := nodeIts.take 33) (a := .i 37) 34 rfl) hB)) (dF (bC rfl))) ?_
   refine fo 38 V38 aI rfl <| lB rfl V3 (bG px (i := 38) rfl) ?_
   refine bF rfl rfl (fun _ => mA) rfl eV oV (fun H hH => iU px rfl) ?_
   refine ob rfl (by exact bE (v := ⟨⟨aA (nodeIts.take 35) c⟩⟩) (dA (fits (cA (l1 := nodeIts.take 34) (a := .i 38) 35 rfl) hB)) (dF (bC rfl))) ?_
   refine oa rfl <| tq <| cC (E := E) mixed [4, 9, 14, 20] _ (List.Sublist.refl _) (by kernel_rfl) (by kernel_rfl) (by decide) ?_
   refine om rfl <| fo 39 V38 gU rfl <| fo 39 V36 aI rfl <| lB rfl V3 (bG px (i := 39) rfl) ?_
   refine bF rfl rfl (fun _ => mA) rfl eV oV (fun H hH => iU px rfl) ?_
   refine ob rfl (by exact bE (v := ⟨⟨aA (nodeIts.take 36) c⟩⟩) (dA (fits (cA (l1 := nodeIts.take 35) (a := .i 39) 36 rfl) hB)) (dF (bC rfl))) ?_
   refine fo 39 V38 gU rfl <| fo 40 V36 aI rfl <| lB rfl V3 (bG px (i := 40) rfl) ?_
   refine bF rfl rfl (fun _ => mA) rfl eV oV (fun H hH => iU px rfl) ?_
   refine ob rfl (by exact bE (v := ⟨⟨aA (nodeIts.take 37) c⟩⟩) (dA (fits (cA (l1 := nodeIts.take 36) (a := .i 40) 37 rfl) hB)) (dF (bC rfl))) ?_
   refine fo 39 V38 gU rfl <| fo 41 V36 aI rfl <| lB rfl V3 (bG px (i := 41) rfl) ?_
   refine bF rfl rfl (fun _ => mA) rfl eV oV (fun H hH => iU px rfl) ?_
   refine ob rfl (by exact bE (v := ⟨⟨aA (nodeIts.take 38) c⟩⟩) (dA (fits (cA (l1 := nodeIts.take 37) (a := .i 41) 38 rfl) hB)) (dF (bC rfl))) ?_
   refine fo 39 V38 gU rfl <| fo 42 V36 oC rfl <| lB rfl V34 hx42 ?_
   refine ll rfl V34 <| bF rfl rfl (fun _ => mA) rfl jD oV (fun H hH => fD (n := l42.length) (by omega)) ?_
   refine ob rfl (by exact bE (v := ⟨⟨aA (nodeIts.take 38) c ++ aF l42.length⟩⟩) (dA (fits (gN (l1 := nodeIts.take 38) (r1 := nodeIts.drop 39) rfl hv42) hB)) rfl) ?_
   refine oa rfl <| tq <| rB <| oa rfl <| aB <| aK ?_
   refine bK (σ := Nat) (fun k => l42.length - k) (fun k => [(1, .pointer (some ⟨2 * N1 + 1, 0, none⟩)), (3, .string ⟨⟨aA (nodeIts.take 38) c ++ aF l42.length ++ aL ptIts (l42.take k)⟩⟩), (7, .int .i64 ((k : Nat) : Int))]) (fun _ => S) (fun _ => A) (fun _ => [(N1, .cells (cellsOf 43 x) (cI E 38) true)]) (fun k => k ≤ l42.length) (0) ((Nat.zero_le _)) (by repeat (first | exact .nil | refine .cons (by first | rfl | (show some _ = some (Value.string ⟨⟨aA (nodeIts.take 38) c ++ aF l42.length ++ aL ptIts (l42.take 0)⟩⟩); simp [aL])) ?_)) rfl rfl (List.Sublist.refl _) ?_
   intro k hJ2 t4
   refine aH <| aH ?_
   rcases Nat.lt_or_ge k l42.length with hk | hk
   ·obtain ⟨q, us, d, eq, ix, hd, lx, kx⟩ := r42.at' k hk
    cases eq
    obtain ⟨y, e, rfl, rfl, py⟩ := kx.fn (n := 2) rfl
    have hE : ∀ j, j < 2 → cfn (dJ 2 e) j = e j := fun j h => by rw [cfn, jL h]; rfl
    refine rA <| om rfl <| fo 39 V38 gU rfl <| fo 42 V36 oC rfl <| lB rfl V34 hx42 ?_
    refine ll rfl V34 <| ob rfl (by exact aX (by omega)) ?_
    refine aB <| aO rfl <| aJ <| aD <| aH <| aK <| cC (E := E) mixed [8, 17] _ (List.Sublist.refl _) (by kernel_rfl) (by kernel_rfl) (by decide) ?_
    refine om rfl <| fo 39 V38 gU rfl <| fo 42 V36 oC rfl <| lB rfl V34 hx42 ?_
    refine om rfl <| bH rfl rfl rfl rfl V34 eB rfl (by omega) ?_
    refine eP rfl rfl rfl V44 rfl aI rfl rfl <| aV rfl rfl rfl (by exact cU V3 rfl (InA.add (InA.add ix)) ((nD lx (j := 0) (by decide)).trans ((cB rfl).trans (congrArg some (bG py (i := 0) rfl))))) ?_
    refine bF rfl rfl (fun _ => mA) rfl eV oV (fun H hH => gS (nH py (i := 0) rfl)) ?_
    refine ob rfl (by exact bE (v := ⟨⟨aA (nodeIts.take 38) c ++ aF l42.length ++ aL ptIts (l42.take k) ++ aA (ptIts.take 1) (cfn (dJ 2 e))⟩⟩) (dA (fits (by rw [show bO (iv (e 0)) = aA ([0].map .i) (cfn (dJ 2 e)) by simp only [List.map_cons, List.map_nil, aA, bB, List.append_nil, List.append_assoc]; rfl]; exact fG (l1 := nodeIts.take 38) (r1 := nodeIts.drop 39) (s2 := ptIts.drop 1) rfl hv42 hd rfl) hB)) (dF (congrArg _ (show bO (iv (e 0)) = aA ([0].map .i) (cfn (dJ 2 e)) by simp only [List.map_cons, List.map_nil, aA, bB, List.append_nil, List.append_assoc]; rfl)))) ?_
    refine fo 39 V38 gU rfl <| fo 42 V36 oC rfl <| lB rfl V34 hx42 ?_
    refine om rfl <| bH rfl rfl rfl rfl V34 eB rfl (by omega) ?_
    refine eP rfl rfl rfl V44 rfl aI rfl rfl <| aV rfl rfl rfl (by exact cU V3 rfl (InA.add (InA.add ix)) ((nD lx (j := 1) (by decide)).trans ((cB rfl).trans (congrArg some (bG py (i := 1) rfl))))) ?_
    refine bF rfl rfl (fun _ => mA) rfl eV oV (fun H hH => gS (nH py (i := 1) rfl)) ?_
    refine ob rfl (by exact bE (v := ⟨⟨aA (nodeIts.take 38) c ++ aF l42.length ++ aL ptIts (l42.take (k + 1))⟩⟩) (dA (fits (by rw [show bO (iv (e 1)) = aA ([1].map .i) (cfn (dJ 2 e)) by simp only [List.map_cons, List.map_nil, aA, bB, List.append_nil, List.append_assoc]; rfl, nT (s3 := ptIts) rfl]; exact fG (l1 := nodeIts.take 38) (r1 := nodeIts.drop 39) (s2 := []) rfl hv42 hd rfl) hB)) (dF (by rw [show bO (iv (e 1)) = aA ([1].map .i) (cfn (dJ 2 e)) by simp only [List.map_cons, List.map_nil, aA, bB, List.append_nil, List.append_assoc]; rfl]; exact aVz (sub := ptIts) hd rfl))) ?_
    refine oa rfl <| aZ <| bA <| aD <| rA <| om rfl <| ob rfl (by exact aY (by omega)) ?_
    refine oa rfl <| aZ ?_
    refine rd' (k + 1) (show l42.length - (k + 1) < l42.length - k by omega) (show k + 1 ≤ l42.length by omega)
   ·obtain rfl : k = l42.length := by omega
    rw [iB (l3 := nodeIts.take 39) hv42 rfl]
    refine rA <| om rfl <| fo 39 V38 gU rfl <| fo 42 V36 oC rfl <| lB rfl V34 hx42 ?_
    refine ll rfl V34 <| ob rfl (by exact aW (by omega)) ?_
    refine aB <| aG rfl <| bJ <| aR <| aS <| aN <| aD <| rB <| om rfl <| oa rfl <| aB <| aT <| aE (.tmp rfl .nil) ?_
    exact fun H hH => ⟨rfl, hH.kept⟩
end Go.Proofs.YteklajiaicmogaaGreatDoor
namespace Go.Proofs.YteklajiaicmogaaGreatDoor
open Go Go.AM
theorem pY {S : AH} {A : Nat → Prop} (hA : ∀ j, A j → j < S.nx) {w h : Int} {f : Nat → Value} {l : List (List CT)} (h0 : f 0 = .int .i64 w) (h1 : f 1 = .int .i64 h) (hx : CellA A S (.row 32 kP) (f 2) (.row l)) : XCall Tryz.prog 44 [.agg ⟨cellsOf 3 f⟩] S fun v H' => v = .int .i64 (ckE kV w h l) ∧ Kept S.nx S H' := by
 rw [show cellsOf 3 f = [f 0, f 1, f 2] from rfl, h0, h1]
 exact aAx hA hx
theorem pU {S : AH} {A : Nat → Prop} (hA : ∀ j, A j → j < S.nx) {w h : Int} {f : Nat → Value} {l : List (List CT)} (h0 : f 0 = .int .i64 w) (h1 : f 1 = .int .i64 h) (hx : CellA A S (.row 8 [.int .i64]) (f 2) (.row l)) : XCall Tryz.prog 45 [.agg ⟨cellsOf 3 f⟩] S fun v H' => v = .int .i64 (ckE iI w h l) ∧ Kept S.nx S H' := by
 rw [show cellsOf 3 f = [f 0, f 1, f 2] from rfl, h0, h1]
 exact zX hA hx
set_option maxHeartbeats 4000000 in
theorem aCp {S : AH} {A : Nat → Prop} (hA : ∀ j, A j → j < S.nx) {x : Nat → Value} {c : Nat → CT} (px : Pts A S jQ x c) : XCall Tryz.prog 12 [.agg ⟨cellsOf 84 x⟩] S fun v H' => v = .bool (decide (cY c)) ∧ Kept S.nx S H' := by
 obtain ⟨l73, a73, c73, e73, hx73, r73⟩ := (px 73 _ rfl).rowD
 have hv73 : rv (c 73) = l73 := by rw [e73]; rfl
 have hb73 := r73.len
 obtain ⟨l71, a71, c71, e71, hx71, r71⟩ := (px 71 _ rfl).rowD
 have hv71 : rv (c 71) = l71 := by rw [e71]; rfl
 have hb71 := r71.len
 obtain ⟨l35, a35, c35, e35, hx35, r35⟩ := (px 35 _ rfl).rowD
 have hv35 : rv (c 35) = l35 := by rw [e35]; rfl
 have hb35 := r35.len
 obtain ⟨l37, a37, c37, e37, hx37, r37⟩ := (px 37 _ rfl).rowD
 have hv37 : rv (c 37) = l37 := by rw [e37]; rfl
 have hb37 := r37.len
 obtain ⟨l38, a38, c38, e38, hx38, r38⟩ := (px 38 _ rfl).rowD
 have hv38 : rv (c 38) = l38 := by rw [e38]; rfl
 have hb38 := r38.len
 obtain ⟨l50, a50, c50, e50, hx50, r50⟩ := (px 50 _ rfl).rowD
 have hv50 : rv (c 50) = l50 := by rw [e50]; rfl
 have hb50 := r50.len
 refine bN (E := E) (n := 103) (rs := [.tmp 2]) (l := [(0, _)]) (aQ Tryz.func12 rfl rfl rfl) hA rfl ?_
 refine rB <| cZ rfl rfl nM rfl ?_
 intro N1
 refine oa rfl <| tq <| aH ?_
 rcases Decidable.em (ckE kV (iv (c 54)) (iv (c 55)) (rv (c 56)) = 0) with h0 | q
 ·refine rA <| fo 54 V48 fH rfl <| lC rfl V29 fH ?_
  refine oc aEt oV (fun H hH => pY (f := fun i => x (54 + i)) hH.lt (bG px (i := 54) rfl) (bG px (i := 55) rfl) (CellA.gr hH.gr (.row 32 kP) (x 56) _ (kY px (i := 56) rfl))) ?_
  refine ob rfl (by exact bP (by assumption)) ?_
  refine om rfl <| fo 8 V48 fU rfl <| fo 27 V38 fH rfl <| lC rfl V29 fH ?_
  rcases Decidable.em (ckE kV (iv (c 27)) (iv (c 28)) (rv (c 29)) = 0) with h1 | q
  ·refine oc aEt oV (fun H hH => pY (f := fun i => x (27 + i)) hH.lt (bG px (i := 27) rfl) (bG px (i := 28) rfl) (CellA.gr hH.gr (.row 32 kP) (x 29) _ (kY px (i := 29) rfl))) ?_
   refine ob rfl (by exact bP (by assumption)) ?_
   refine pQ rfl <| om rfl <| fo 51 V48 fI rfl <| lC rfl V24 fI ?_
   rcases Decidable.em (ckE iI (iv (c 51)) (iv (c 52)) (rv (c 53)) = 0) with h2 | q
   ·refine oc aGq oV (fun H hH => pU (f := fun i => x (51 + i)) hH.lt (bG px (i := 51) rfl) (bG px (i := 52) rfl) (CellA.gr hH.gr (.row 8 [.int .i64]) (x 53) _ (kY px (i := 53) rfl))) ?_
    refine ob rfl (by exact bP (by assumption)) ?_
    refine pQ rfl <| om rfl <| fo 8 V48 fU rfl <| fo 17 V38 fI rfl <| lC rfl V24 fI ?_
    rcases Decidable.em (ckE iI (iv (c 17)) (iv (c 18)) (rv (c 19)) = 0) with h3 | q
    ·refine oc aGq oV (fun H hH => pU (f := fun i => x (17 + i)) hH.lt (bG px (i := 17) rfl) (bG px (i := 18) rfl) (CellA.gr hH.gr (.row 8 [.int .i64]) (x 19) _ (kY px (i := 19) rfl))) ?_
     refine ob rfl (by exact bP (by assumption)) ?_
     refine pQ rfl <| aB <| aG rfl <| aJ <| aD <| aH <| rB <| fo 6 V48 gJ rfl <| lB rfl V9 (tA px (i := 6) rfl) ?_
     refine fo 7 V48 gJ rfl <| lB rfl V9 (tA px (i := 7) rfl) ?_
     refine fo 8 V48 fU rfl <| fo 11 V38 gJ rfl <| lB rfl V9 (tA px (i := 11) rfl) ?_
     refine fo 8 V48 fU rfl <| fo 43 V38 gJ rfl <| lB rfl V9 (tA px (i := 43) rfl) ?_
     refine aM (out := [.string ⟨⟨tv (c 6)⟩⟩, .string ⟨⟨tv (c 7)⟩⟩, .string ⟨⟨tv (c 11)⟩⟩, .string ⟨⟨tv (c 43)⟩⟩]) rfl rfl nM oP V96 gJ rfl rfl (by kernel_rfl) rfl rfl ?_
     intro N42
     refine ll rfl V96 <| om rfl <| aB <| aK ?_
     refine bK (σ := Nat) (fun k => 4 - k) (fun k => [(1, .pointer (some ⟨2 * N1 + 1, 0, none⟩)), (42, .slice (some ⟨2 * N42 + 1, 0, none⟩) 4 4), (43, .int .i64 ((4 : Nat) : Int)), (44, .int .i64 ((k : Nat) : Int))]) (fun _ => S) (fun _ => A) (fun _ => ([(N42, .cells ([.string ⟨⟨tv (c 6)⟩⟩, .string ⟨⟨tv (c 7)⟩⟩, .string ⟨⟨tv (c 11)⟩⟩, .string ⟨⟨tv (c 43)⟩⟩]) 1 true)] : OL) ++ [(N1, .cells (cellsOf 84 x) (cI E 48) true)]) (fun k => k ≤ 4 ∧ ∀ j, j < k → (tv (c (txs j))).length ≤ 256) (0) (⟨Nat.zero_le _, fun j h => absurd h (Nat.not_lt_zero _)⟩) pK rfl rfl sU ?_
     intro k hJ2 t1
     obtain ⟨hJ, hg⟩ := hJ2
     refine aH ?_
     rcases (show k = 0 ∨ k = 1 ∨ k = 2 ∨ k = 3 ∨ k = 4 by omega) with rfl | rfl | rfl | rfl | rfl
     ·refine rA <| ob rfl (by exact aX (by omega)) ?_
      refine tq <| aO rfl <| aJ <| aD <| aH <| aK <| rB <| dP rfl rfl rfl rfl V96 gJ rfl (by omega) rfl ?_
      refine lG rfl V9 ?_
      refine oa rfl <| tq ?_
      rcases Nat.lt_or_ge 256 (tv (c 6)).length with q | q
      ·refine rA <| om rfl <| dB rfl rfl rfl rfl rfl rfl V9 <| ob rfl (by exact cR (by dsimp only; omega)) ?_
       refine aB <| aO rfl <| rB <| oa rfl <| aB <| aT <| bD <| aP <| cP <| bD <| aP <| aE (.tmp rfl .nil) ?_
       exact fun H hH => ⟨congrArg Value.bool (decide_eq_false (p := cY c) (fun h => (Nat.not_le_of_lt q) h.2.2.2.2.1)).symm, hH.kept⟩
      ·refine rA <| om rfl <| dB rfl rfl rfl rfl rfl rfl V9 <| ob rfl (by exact bW (by dsimp only; omega)) ?_
       refine aB <| aG rfl <| aJ <| bA <| aD <| rA <| ob rfl (by exact aY (by omega)) ?_
       refine om rfl <| aZ ?_
       refine rd' 1 (show 4 - 1 < 4 - 0 by omega) ⟨by omega, fun j hj => ?_⟩
       rcases (show j < 0 ∨ j = 0 by omega) with e | e
       ·exact hg j e
       ·subst e; exact q
     ·refine rA <| ob rfl (by exact aX (by omega)) ?_
      refine tq <| aO rfl <| aJ <| aD <| aH <| aK <| rB <| dP rfl rfl rfl rfl V96 gJ rfl (by omega) rfl ?_
      refine lG rfl V9 ?_
      refine oa rfl <| tq ?_
      rcases Nat.lt_or_ge 256 (tv (c 7)).length with q | q
      ·refine rA <| om rfl <| dB rfl rfl rfl rfl rfl rfl V9 <| ob rfl (by exact cR (by dsimp only; omega)) ?_
       refine aB <| aO rfl <| rB <| oa rfl <| aB <| aT <| bD <| aP <| cP <| bD <| aP <| aE (.tmp rfl .nil) ?_
       exact fun H hH => ⟨congrArg Value.bool (decide_eq_false (p := cY c) (fun h => (Nat.not_le_of_lt q) h.2.2.2.2.2.1)).symm, hH.kept⟩
      ·refine rA <| om rfl <| dB rfl rfl rfl rfl rfl rfl V9 <| ob rfl (by exact bW (by dsimp only; omega)) ?_
       refine aB <| aG rfl <| aJ <| bA <| aD <| rA <| ob rfl (by exact aY (by omega)) ?_
       refine om rfl <| aZ ?_
       refine rd' 2 (show 4 - 2 < 4 - 1 by omega) ⟨by omega, fun j hj => ?_⟩
       rcases (show j < 1 ∨ j = 1 by omega) with e | e
       ·exact hg j e
       ·subst e; exact q
     ·refine rA <| ob rfl (by exact aX (by omega)) ?_
      refine tq <| aO rfl <| aJ <| aD <| aH <| aK <| rB <| dP rfl rfl rfl rfl V96 gJ rfl (by omega) rfl ?_
      refine lG rfl V9 ?_
      refine oa rfl <| tq ?_
      rcases Nat.lt_or_ge 256 (tv (c 11)).length with q | q
      ·refine rA <| om rfl <| dB rfl rfl rfl rfl rfl rfl V9 <| ob rfl (by exact cR (by dsimp only; omega)) ?_
       refine aB <| aO rfl <| rB <| oa rfl <| aB <| aT <| bD <| aP <| cP <| bD <| aP <| aE (.tmp rfl .nil) ?_
       exact fun H hH => ⟨congrArg Value.bool (decide_eq_false (p := cY c) (fun h => (Nat.not_le_of_lt q) h.2.2.2.2.2.2.1)).symm, hH.kept⟩
      ·refine rA <| om rfl <| dB rfl rfl rfl rfl rfl rfl V9 <| ob rfl (by exact bW (by dsimp only; omega)) ?_
       refine aB <| aG rfl <| aJ <| bA <| aD <| rA <| ob rfl (by exact aY (by omega)) ?_
       refine om rfl <| aZ ?_
       refine rd' 3 (show 4 - 3 < 4 - 2 by omega) ⟨by omega, fun j hj => ?_⟩
       rcases (show j < 2 ∨ j = 2 by omega) with e | e
       ·exact hg j e
       ·subst e; exact q
     ·refine rA <| ob rfl (by exact aX (by omega)) ?_
      refine tq <| aO rfl <| aJ <| aD <| aH <| aK <| rB <| dP rfl rfl rfl rfl V96 gJ rfl (by omega) rfl ?_
      refine lG rfl V9 ?_
      refine oa rfl <| tq ?_
      rcases Nat.lt_or_ge 256 (tv (c 43)).length with q | q
      ·refine rA <| om rfl <| dB rfl rfl rfl rfl rfl rfl V9 <| ob rfl (by exact cR (by dsimp only; omega)) ?_
       refine aB <| aO rfl <| rB <| oa rfl <| aB <| aT <| bD <| aP <| cP <| bD <| aP <| aE (.tmp rfl .nil) ?_
       exact fun H hH => ⟨congrArg Value.bool (decide_eq_false (p := cY c) (fun h => (Nat.not_le_of_lt q) h.2.2.2.2.2.2.2.1)).symm, hH.kept⟩
      ·refine rA <| om rfl <| dB rfl rfl rfl rfl rfl rfl V9 <| ob rfl (by exact bW (by dsimp only; omega)) ?_
       refine aB <| aG rfl <| aJ <| bA <| aD <| rA <| ob rfl (by exact aY (by omega)) ?_
       refine om rfl <| aZ ?_
       refine rd' 4 (show 4 - 4 < 4 - 3 by omega) ⟨by omega, fun j hj => ?_⟩
       rcases (show j < 3 ∨ j = 3 by omega) with e | e
       ·exact hg j e
       ·subst e; exact q
     ·have hs := (⟨hg 0 (by omega), hg 1 (by omega), hg 2 (by omega), hg 3 (by omega)⟩ : _ ∧ _ ∧ _ ∧ _)
      dsimp only [txs] at hs
      refine rA <| ob rfl (by exact aW (by omega)) ?_
      refine tq <| aG rfl <| bJ <| aR <| aS <| aN <| aD <| aH <| rB <| fo 57 V48 jT rfl <| fo 71 V41 rL rfl <| lB rfl V39 hx71 ?_
      refine ll rfl V39 <| om rfl <| aB <| aK ?_
      refine bK (σ := Nat) (fun k => l71.length - k) (fun k => [(1, .pointer (some ⟨2 * N1 + 1, 0, none⟩)), (54, .slice a71 l71.length c71), (55, .int .i64 ((l71.length : Nat) : Int)), (56, .int .i64 ((k : Nat) : Int))]) (fun _ => S) (fun _ => A) (fun _ => [(N1, .cells (cellsOf 84 x) (cI E 48) true)]) (fun k => k ≤ l71.length ∧ ∀ j r, j < k → l71[j]? = some r → (rv (cfn r 2)).length ≤ 16) (0) (⟨Nat.zero_le _, fun j r h => absurd h (Nat.not_lt_zero _)⟩) pK rfl rfl sU ?_
      intro k hJ2 t2
      obtain ⟨hJ, hJ3⟩ := hJ2
      refine aH ?_
      rcases Nat.lt_or_ge k l71.length with hk | hk
      ·obtain ⟨qD, usD, dD, rfl, ixD, hcD, lxD, kxD⟩ := r71.at' k hk
       obtain ⟨yD, eD, rfl, rfl, pyD⟩ := kxD.fn (n := 3) rfl
       obtain ⟨l2, a2, c2, e2, hx2, r2⟩ := (pyD 2 _ rfl).rowD
       have hv2 : rv (eD 2) = l2 := by rw [e2]; rfl
       have hb2 := r2.len
       refine rA <| ob rfl (by exact aX (by omega)) ?_
       refine tq <| aO rfl <| aJ <| aD <| aH <| aK <| rB <| bH rfl rfl rfl rfl V39 kS rfl (by omega) ?_
       refine aV rfl rfl rfl (by exact cS V68 rfl kS rfl (InA.add ixD) lxD) ?_
       refine bR (cs := (.int .i64 0 :: .int .i64 0 :: .slice none 0 0 :: [])) rfl rfl nM kS rfl rfl ?_
       intro N6
       refine bX rfl nM rfl rfl kS (by exact aU _ _) (CellsA.one kxD) uP (by exact cF rfl) (by exact cH rfl rfl) nM ?_
       refine tq ?_
       rcases Nat.lt_or_ge 16 l2.length with q | q
       ·refine rA <| fo 2 V68 rE rfl <| lB rfl V66 hx2 ?_
        refine ll rfl V66 <| ob rfl (by exact cR (by omega)) ?_
        refine aB <| aO rfl <| rB <| oa rfl <| aB <| aT <| bD <| aP <| cP <| bD <| aP <| aE (.tmp rfl .nil) ?_
        exact fun H hH => ⟨congrArg Value.bool (decide_eq_false (p := cY c) (fun h => by have h3 := h.2.2.2.2.2.2.2.2.2.2.1 _ (by rw [hv71]; exact List.mem_of_getElem? hcD); rw [show cfn (dJ 3 eD) 2 = eD 2 from rfl, hv2] at h3; omega)).symm, hH.kept⟩
       ·refine rA <| fo 2 V68 rE rfl <| lB rfl V66 hx2 ?_
        refine ll rfl V66 <| ob rfl (by exact bW (by omega)) ?_
        refine aB <| aG rfl <| aJ <| bA <| aD <| rA <| ob rfl (by exact aY (by omega)) ?_
        refine om rfl <| aZ ?_
        refine rd' (k + 1) (show l71.length - (k + 1) < l71.length - k by omega) ⟨by omega, fun j r hj hr => ?_⟩
        rcases (show j < k ∨ j = k by omega) with e | e
        ·exact hJ3 j r e hr
        ·subst e; rw [hcD] at hr; cases hr; show (rv (eD 2)).length ≤ 16; rw [hv2]; exact q
      ·have hcur : ∀ r ∈ l71, (rv (cfn r 2)).length ≤ 16 := fun r hr => by
        obtain ⟨j, hj⟩ := List.getElem?_of_mem hr
        exact hJ3 j r (by have := lt_of_getElem? hj; omega) hj
       refine rA <| ob rfl (by exact aW (by omega)) ?_
       refine tq <| aG rfl <| bJ <| aR <| aS <| aN <| aD <| rB <| fo 8 V48 fU rfl <| lC rfl V38 fU ?_
       refine bR (cs := (.int .i64 0 :: .int .i64 0 :: .int .i64 0 :: .string ⟨#[]⟩ :: .bool false :: .bool false :: .bool false :: .int .i64 0 :: .int .i64 0 :: .int .i64 0 :: .int .i64 0 :: .slice none 0 0 :: .int .i64 0 :: .int .i64 0 :: .int .i64 0 :: .int .i64 0 :: .int .i64 0 :: .int .i64 0 :: .int .i64 0 :: .int .i64 0 :: .int .i64 0 :: .slice none 0 0 :: .int .i64 0 :: .int .i64 0 :: .int .i64 0 :: .int .i64 0 :: .int .i64 0 :: .slice none 0 0 :: .int .i64 0 :: .slice none 0 0 :: .slice none 0 0 :: .int .i64 0 :: .int .i64 0 :: .int .i64 0 :: .int .i64 0 :: .string ⟨#[]⟩ :: .int .i64 0 :: .int .i64 0 :: .int .i64 0 :: .int .i64 0 :: .int .i64 0 :: .int .i64 0 :: .slice none 0 0 :: [])) rfl rfl nM fU rfl rfl ?_
       intro N7
       refine bX rfl nM rfl rfl fU (by exact aU _ _) ((nN px 8 (ks2 := kNode) rfl).cells (n := 43) rfl).one uP (by exact cF rfl) (by exact cH rfl rfl) nM ?_
       refine tq ?_
       rcases Nat.lt_or_ge 128 l73.length with q | q73
       ·refine rA <| fo 73 V48 nI rfl <| lB rfl V42 hx73 ?_
        refine ll rfl V42 <| ob rfl (by exact gH (by omega)) ?_
        refine om rfl <| aC rfl rfl rfl <| aC rfl rfl rfl <| aC rfl rfl rfl <| aC rfl rfl rfl <| aC rfl rfl rfl <| pQ rfl <| om rfl <| aC rfl rfl rfl <| aC rfl rfl rfl <| aC rfl rfl rfl <| aC rfl rfl rfl <| pQ rfl <| om rfl <| aC rfl rfl rfl <| aC rfl rfl rfl <| aC rfl rfl rfl <| aC rfl rfl rfl <| pQ rfl <| om rfl <| aC rfl rfl rfl <| aC rfl rfl rfl <| aC rfl rfl rfl <| aC rfl rfl rfl <| pQ rfl <| om rfl <| aC rfl rfl rfl <| aC rfl rfl rfl <| aC rfl rfl rfl <| aC rfl rfl rfl <| aC rfl rfl rfl <| pQ rfl <| oa rfl <| aB <| aT <| aE (.tmp rfl .nil) ?_
        exact fun H hH => ⟨congrArg Value.bool (decide_eq_false (p := cY c) (fun h => by have h2 := h.2.2.2.2.2.2.2.2.1; rw [hv73] at h2; omega)).symm, hH.kept⟩
       ·refine rA <| fo 73 V48 nI rfl <| lB rfl V42 hx73 ?_
        refine ll rfl V42 <| ob rfl (by exact dU (by omega)) ?_
        refine om rfl <| fo 57 V48 jT rfl <| fo 71 V41 rL rfl <| lB rfl V39 hx71 ?_
        refine ll rfl V39 ?_
        rcases Nat.lt_or_ge 8 l71.length with q | q71
        ·refine ob rfl (by exact gH (by omega)) ?_
         refine pt rfl <| om rfl <| aC rfl rfl rfl <| aC rfl rfl rfl <| aC rfl rfl rfl <| aC rfl rfl rfl <| pQ rfl <| om rfl <| aC rfl rfl rfl <| aC rfl rfl rfl <| aC rfl rfl rfl <| aC rfl rfl rfl <| pQ rfl <| om rfl <| aC rfl rfl rfl <| aC rfl rfl rfl <| aC rfl rfl rfl <| aC rfl rfl rfl <| pQ rfl <| om rfl <| aC rfl rfl rfl <| aC rfl rfl rfl <| aC rfl rfl rfl <| aC rfl rfl rfl <| aC rfl rfl rfl <| pQ rfl <| oa rfl <| aB <| aT <| aE (.tmp rfl .nil) ?_
         exact fun H hH => ⟨congrArg Value.bool (decide_eq_false (p := cY c) (fun h => by have h2 := h.2.2.2.2.2.2.2.2.2.1; rw [hv71] at h2; omega)).symm, hH.kept⟩
        ·refine ob rfl (by exact dU (by omega)) ?_
         refine pt rfl <| om rfl <| fo 27 V38 eI rfl <| lB rfl V22 hx35 ?_
         refine ll rfl V22 ?_
         rcases Nat.lt_or_ge 16 l35.length with q | q35
         ·refine ob rfl (by exact gH (by omega)) ?_
          refine pt rfl <| om rfl <| aC rfl rfl rfl <| aC rfl rfl rfl <| aC rfl rfl rfl <| aC rfl rfl rfl <| pQ rfl <| om rfl <| aC rfl rfl rfl <| aC rfl rfl rfl <| aC rfl rfl rfl <| aC rfl rfl rfl <| pQ rfl <| om rfl <| aC rfl rfl rfl <| aC rfl rfl rfl <| aC rfl rfl rfl <| aC rfl rfl rfl <| aC rfl rfl rfl <| pQ rfl <| oa rfl <| aB <| aT <| aE (.tmp rfl .nil) ?_
          exact fun H hH => ⟨congrArg Value.bool (decide_eq_false (p := cY c) (fun h => by have h2 := h.2.2.2.2.2.2.2.2.2.2.2.1; rw [hv35] at h2; omega)).symm, hH.kept⟩
         ·refine ob rfl (by exact dU (by omega)) ?_
          refine pt rfl <| om rfl <| fo 29 V38 nX rfl <| lB rfl V32 hx37 ?_
          refine ll rfl V32 ?_
          rcases Nat.lt_or_ge 16 l37.length with q | q37
          ·refine ob rfl (by exact gH (by omega)) ?_
           refine pt rfl <| om rfl <| aC rfl rfl rfl <| aC rfl rfl rfl <| aC rfl rfl rfl <| aC rfl rfl rfl <| pQ rfl <| om rfl <| aC rfl rfl rfl <| aC rfl rfl rfl <| aC rfl rfl rfl <| aC rfl rfl rfl <| aC rfl rfl rfl <| pQ rfl <| oa rfl <| aB <| aT <| aE (.tmp rfl .nil) ?_
           exact fun H hH => ⟨congrArg Value.bool (decide_eq_false (p := cY c) (fun h => by have h2 := h.2.2.2.2.2.2.2.2.2.2.2.2.1; rw [hv37] at h2; omega)).symm, hH.kept⟩
          ·refine ob rfl (by exact dU (by omega)) ?_
           refine pt rfl <| om rfl <| fo 30 V38 lN rfl <| lB rfl V33 hx38 ?_
           refine ll rfl V33 ?_
           rcases Nat.lt_or_ge 128 l38.length with q | q38
           ·refine ob rfl (by exact gH (by omega)) ?_
            refine pt rfl <| om rfl <| aC rfl rfl rfl <| aC rfl rfl rfl <| aC rfl rfl rfl <| aC rfl rfl rfl <| aC rfl rfl rfl <| pQ rfl <| oa rfl <| aB <| aT <| aE (.tmp rfl .nil) ?_
            exact fun H hH => ⟨congrArg Value.bool (decide_eq_false (p := cY c) (fun h => by have h2 := h.2.2.2.2.2.2.2.2.2.2.2.2.2.1; rw [hv38] at h2; omega)).symm, hH.kept⟩
           ·refine ob rfl (by exact dU (by omega)) ?_
            refine pt rfl <| om rfl <| fo 39 V38 gU rfl <| fo 42 V36 oC rfl <| lB rfl V34 hx50 ?_
            refine ll rfl V34 ?_
            rcases Nat.lt_or_ge 64 l50.length with q | q50
            ·refine ob rfl (by exact gH (by omega)) ?_
             refine pt rfl <| oa rfl <| aB <| aT <| aE (.tmp rfl .nil) ?_
             exact fun H hH => ⟨congrArg Value.bool (decide_eq_false (p := cY c) (fun h => by have h2 := h.2.2.2.2.2.2.2.2.2.2.2.2.2.2; rw [hv50] at h2; omega)).symm, hH.kept⟩
            ·refine ob rfl (by exact dU (by omega)) ?_
             refine pt rfl <| oa rfl <| aB <| aT <| aE (.tmp rfl .nil) ?_
             exact fun H hH => ⟨congrArg Value.bool (decide_eq_true (p := cY c) ⟨h0, h1, h2, h3, hs.1, hs.2.1, hs.2.2.1, hs.2.2.2, by rw [hv73]; exact q73, by rw [hv71]; exact q71, by rw [hv71]; exact hcur, by rw [hv35]; exact q35, by rw [hv37]; exact q37, by rw [hv38]; exact q38, by rw [hv50]; exact q50⟩).symm, hH.kept⟩
    ·refine oc aGq oV (fun H hH => pU (f := fun i => x (17 + i)) hH.lt (bG px (i := 17) rfl) (bG px (i := 18) rfl) (CellA.gr hH.gr (.row 8 [.int .i64]) (x 19) _ (kY px (i := 19) rfl))) ?_
     refine ob rfl (by exact dZ (by assumption)) ?_
     refine pQ rfl <| aB <| aO rfl <| rB <| oa rfl <| aB <| aT <| aP <| aE (.tmp rfl .nil) ?_
     exact fun H hH => ⟨congrArg Value.bool (decide_eq_false (p := cY c) (fun h => q h.2.2.2.1)).symm, hH.kept⟩
   ·refine oc aGq oV (fun H hH => pU (f := fun i => x (51 + i)) hH.lt (bG px (i := 51) rfl) (bG px (i := 52) rfl) (CellA.gr hH.gr (.row 8 [.int .i64]) (x 53) _ (kY px (i := 53) rfl))) ?_
    refine ob rfl (by exact dZ (by assumption)) ?_
    refine pQ rfl <| om rfl <| aC rfl rfl rfl <| aC rfl rfl rfl <| aC rfl rfl rfl <| aC rfl rfl rfl <| aC rfl rfl rfl <| pt rfl <| aB <| aO rfl <| rB <| oa rfl <| aB <| aT <| aP <| aE (.tmp rfl .nil) ?_
    exact fun H hH => ⟨congrArg Value.bool (decide_eq_false (p := cY c) (fun h => q h.2.2.1)).symm, hH.kept⟩
  ·refine oc aEt oV (fun H hH => pY (f := fun i => x (27 + i)) hH.lt (bG px (i := 27) rfl) (bG px (i := 28) rfl) (CellA.gr hH.gr (.row 32 kP) (x 29) _ (kY px (i := 29) rfl))) ?_
   refine ob rfl (by exact dZ (by assumption)) ?_
   refine pQ rfl <| om rfl <| aC rfl rfl rfl <| aC rfl rfl rfl <| aC rfl rfl rfl <| aC rfl rfl rfl <| pt rfl <| om rfl <| aC rfl rfl rfl <| aC rfl rfl rfl <| aC rfl rfl rfl <| aC rfl rfl rfl <| aC rfl rfl rfl <| pt rfl <| aB <| aO rfl <| rB <| oa rfl <| aB <| aT <| aP <| aE (.tmp rfl .nil) ?_
   exact fun H hH => ⟨congrArg Value.bool (decide_eq_false (p := cY c) (fun h => q h.2.1)).symm, hH.kept⟩
 ·refine rA <| fo 54 V48 fH rfl <| lC rfl V29 fH ?_
  refine oc aEt oV (fun H hH => pY (f := fun i => x (54 + i)) hH.lt (bG px (i := 54) rfl) (bG px (i := 55) rfl) (CellA.gr hH.gr (.row 32 kP) (x 56) _ (kY px (i := 56) rfl))) ?_
  refine ob rfl (by exact dZ (by assumption)) ?_
  refine om rfl <| aC rfl rfl rfl <| aC rfl rfl rfl <| aC rfl rfl rfl <| aC rfl rfl rfl <| aC rfl rfl rfl <| pt rfl <| om rfl <| aC rfl rfl rfl <| aC rfl rfl rfl <| aC rfl rfl rfl <| aC rfl rfl rfl <| pt rfl <| om rfl <| aC rfl rfl rfl <| aC rfl rfl rfl <| aC rfl rfl rfl <| aC rfl rfl rfl <| aC rfl rfl rfl <| pt rfl <| aB <| aO rfl <| rB <| oa rfl <| aB <| aT <| aP <| aE (.tmp rfl .nil) ?_
  exact fun H hH => ⟨congrArg Value.bool (decide_eq_false (p := cY c) (fun h => q h.1)).symm, hH.kept⟩
end Go.Proofs.YteklajiaicmogaaGreatDoor
namespace Go.Proofs.YteklajiaicmogaaGreatDoor
open Go Go.AM
theorem aVb : ∃ fn, E.fn 12 = some fn := ⟨_, aQ Tryz.func12 rfl rfl rfl⟩
theorem tH : ∃ fn, E.fn 13 = some fn := ⟨_, aQ Tryz.func13 rfl rfl rfl⟩
theorem has15 : ∃ fn, E.fn 15 = some fn := ⟨_, aQ Tryz.func15 rfl rfl rfl⟩
theorem aKt : ∃ fn, E.fn 19 = some fn := ⟨_, aQ Tryz.func19 rfl rfl rfl⟩
theorem kK {S0 S : AH} {A : Nat → Prop} {ks : List Kd} {x : Nat → Value} {c : Nat → CT} (px : Pts A S0 ks x c) (js : List Nat) (hj : js.all (fun j => oW ks[j]?) = true) {K m : Nat} {ex : Bool} (hg : S.tr.get K = some (.cells (js.map fun k => Value.int .i64 (iv (c k))) 1 ex)) (hlt : K < S.nx) (hl : js.length ≤ 1000) (hm : m = js.length) : XCall Tryz.prog 13 [.slice (some ⟨2 * K + 1, 0, none⟩) m m] S fun v H' => v = .string ⟨⟨aA (js.map .i) c⟩⟩ ∧ Kept S.nx S H' := by
 rw [jM, ← lV]
 exact aGz (A := fun j => j < S.nx) (fun _ h => h) (rS (ns := js.map fun k => iv (c k)) (by rw [List.map_map]; rfl) hg hlt (yI px hj) (by rw [List.length_map]; exact hl) (by rw [List.length_map]; exact hm)) (by simp [hU]; omega)
theorem aPl {S : AH} {n : Int} (hn : I64 n) {K : Nat} {ex : Bool} (hg : S.tr.get K = some (.cells [.int .i64 n] 1 ex)) (hlt : K < S.nx) : XCall Tryz.prog 13 [.slice (some ⟨2 * K + 1, 0, none⟩) 1 1] S fun v H' => v = .string ⟨⟨bO n⟩⟩ ∧ Kept S.nx S H' := by
 have e : bO n = eJ (hU [n]) := by simp [eJ, hU, gY]
 rw [e]
 exact aGz (A := fun j => j < S.nx) (fun _ h => h) (rS (ns := [n]) rfl hg hlt (fun m hm => by rw [List.mem_singleton] at hm; subst hm; exact hn) (by simp) rfl) (by simp [hU])
theorem aMw {S : AH} {A : Nat → Prop} (hA : ∀ j, A j → j < S.nx) {ks : List Kd} {x : Nat → Value} {c : Nat → CT} (px : Pts A S ks x c) (o : Nat) (e : (ks.drop o).take kNode.length = kNode) (h9 : ckE iI (iv (c (o + 9))) (iv (c (o + 10))) (rv (c (o + 11))) = 0) (h19 : ckE kV (iv (c (o + 19))) (iv (c (o + 20))) (rv (c (o + 21))) = 0) (hB : (aA (nodeIts.map (jR o)) c).length ≤ 1073741824) : XCall Tryz.prog 15 [.agg ⟨cellsOf 43 fun i => x (o + i)⟩] S fun v H' => v = .string ⟨⟨aA (nodeIts.map (jR o)) c⟩⟩ ∧ Kept S.nx S H' := by
 rw [← mY] at hB ⊢
 exact aLv (x := fun i => x (o + i)) (c := fun i => c (o + i)) hA (nN px o e) h9 h19 hB
set_option maxHeartbeats 4000000 in
theorem uL {S : AH} {A : Nat → Prop} (hA : ∀ j, A j → j < S.nx) {x : Nat → Value} {c : Nat → CT} (px : Pts A S jQ x c) (hB0 : cY c → (aA editIts c).length ≤ 1073741824) : XCall Tryz.prog 5 [.agg ⟨cellsOf 84 x⟩] S fun v H' => v = fV c ∧ Kept S.nx S H' := by
 obtain ⟨l71, a71, c71, e71, hx71, r71⟩ := (px 71 _ rfl).rowD
 have hv71 : rv (c 71) = l71 := by rw [e71]; rfl
 have hb71 := r71.len
 obtain ⟨l73, a73, c73, e73, hx73, r73⟩ := (px 73 _ rfl).rowD
 have hv73 : rv (c 73) = l73 := by rw [e73]; rfl
 have hb73 := r73.len
 refine bN (E := E) (n := 217) (rs := [.tmp 2, .tmp 3]) (l := [(0, _)]) (aQ Tryz.func5 rfl rfl rfl) hA rfl ?_
 refine rB <| cZ rfl rfl nM rfl ?_
 intro N1
 refine oa rfl <| oa rfl <| tq <| aH ?_
 by_cases hP : cY c
 ·have hB := hB0 hP
  obtain ⟨hm54, hm27, hm51, hm17, h6, h7, h11, h43, h73, h71, h712, h35, h37, h38, h50⟩ := id hP
  refine rA <| aV rfl rfl rfl (by exact bV V48 rfl gP rfl mA (by exact bQ rfl) (by exact bZ)) ?_
  refine oc aVb oV (fun H hH => (aCp hH.lt (px.gr hH.gr)).b (decide_eq_true hP)) ?_
  refine eZ rfl rfl rfl rfl <| aB <| aG rfl <| aJ <| aD <| aH <| cC (E := E) mixed [12, 13, 16, 20, 24, 28, 32] _ (List.Sublist.refl _) (by kernel_rfl) (by kernel_rfl) (by decide) ?_
  refine fo 0 V48 aI rfl <| lB rfl V3 (bG px (i := 0) rfl) ?_
  refine fo 1 V48 aI rfl <| lB rfl V3 (bG px (i := 1) rfl) ?_
  refine fo 2 V48 aI rfl <| lB rfl V3 (bG px (i := 2) rfl) ?_
  refine fo 3 V48 aI rfl <| lB rfl V3 (bG px (i := 3) rfl) ?_
  refine fo 4 V48 aI rfl <| lB rfl V3 (bG px (i := 4) rfl) ?_
  refine fo 5 V48 aI rfl <| lB rfl V3 (bG px (i := 5) rfl) ?_
  refine aM (out := [0, 1, 2, 3, 4, 5].map fun k => Value.int .i64 (iv (c k))) rfl rfl (fun _ => mA) oP V22 aI rfl rfl (by kernel_rfl) rfl rfl ?_
  intro N30
  refine bF rfl rfl (fun _ => mA) rfl tH oV (fun H hH => kK (ex := true) px [0, 1, 2, 3, 4, 5] rfl (hH.own (N30, _) mA).1 (hH.own (N30, _) mA).2.2.1 (by simp) rfl) ?_
  refine fo 6 V48 gJ rfl <| lB rfl V9 (tA px (i := 6) rfl) ?_
  refine bF rfl rfl (fun _ => mA) rfl aJv oV (fun H hH => aKz (by omega)) ?_
  refine ob rfl (by exact bE (v := ⟨⟨aA (editIts.take 7) c⟩⟩) (dA (fits (cA (l1 := [0, 1, 2, 3, 4, 5].map .i) (a := .t 6) 7 rfl) hB)) (dF (bC (l1 := [0, 1, 2, 3, 4, 5].map .i) rfl))) ?_
  refine fo 7 V48 gJ rfl <| lB rfl V9 (tA px (i := 7) rfl) ?_
  refine bF rfl rfl (fun _ => mA) rfl aJv oV (fun H hH => aKz (by omega)) ?_
  refine ob rfl (by exact bE (v := ⟨⟨aA (editIts.take 8) c⟩⟩) (dA (fits (cA (l1 := editIts.take 7) (a := .t 7) 8 rfl) hB)) (dF (bC rfl))) ?_
  refine fo 8 V48 fU rfl <| lC rfl V38 fU ?_
  refine bF rfl rfl (fun _ => mA) rfl has15 oV (fun H hH => aMw hH.lt (px.gr hH.gr) 8 rfl hm17 hm27 (Nat.le_trans (yH (its := editIts) (l1 := editIts.take 8) (l3 := editIts.drop 47) rfl) hB)) ?_
  refine ob rfl (by exact bE (v := ⟨⟨aA (editIts.take 47) c⟩⟩) (dA (fits (fA (l1 := editIts.take 8) (l2 := nodeIts.map (jR 8)) 47 rfl) hB)) (dF (bT rfl))) ?_
  refine fo 51 V48 fI rfl <| lC rfl V24 fI ?_
  refine bF rfl rfl (fun _ => mA) rfl aWa oV (fun H hH => aVm (f := fun i => x (51 + i)) hH.lt (bG px (i := 51) rfl) (bG px (i := 52) rfl) (CellA.gr hH.gr _ _ _ (kY px (i := 53) rfl)) hm51) ?_
  refine ob rfl (by exact bE (v := ⟨⟨aA (editIts.take 48) c⟩⟩) (dA (fits (cA (l1 := editIts.take 47) (a := .msk 51) 48 rfl) hB)) (dF (bC rfl))) ?_
  refine fo 54 V48 fH rfl <| lC rfl V29 fH ?_
  refine bF rfl rfl (fun _ => mA) rfl aVq oV (fun H hH => aVu (f := fun i => x (54 + i)) hH.lt (bG px (i := 54) rfl) (bG px (i := 55) rfl) (CellA.gr hH.gr _ _ _ (kY px (i := 56) rfl)) hm54) ?_
  refine ob rfl (by exact bE (v := ⟨⟨aA (editIts.take 49) c⟩⟩) (dA (fits (cA (l1 := editIts.take 48) (a := .img 54) 49 rfl) hB)) (dF (bC rfl))) ?_
  refine oa rfl <| rC <| fo 57 V48 jT rfl <| lC rfl V41 jT ?_
  refine bR (cs := (.int .i64 0 :: .int .i64 0 :: .int .i64 0 :: .int .i64 0 :: .int .i64 0 :: .int .i64 0 :: .int .i64 0 :: .int .i64 0 :: .int .i64 0 :: .int .i64 0 :: .int .i64 0 :: .int .i64 0 :: .int .i64 0 :: .int .i64 0 :: .slice none 0 0 :: .bool false :: [])) rfl rfl nM jT rfl rfl ?_
  intro N5
  refine bX rfl nM rfl rfl jT (by exact aU _ _) ((nN px 57 (ks2 := kBrush) rfl).cells (n := 16) rfl).one uP (by exact cF rfl) (by exact cH rfl rfl) nM ?_
  refine rC <| om rfl <| fo 0 V41 aI rfl <| lB rfl V3 (bG px (i := 57) rfl) ?_
  refine fo 1 V41 aI rfl <| lB rfl V3 (bG px (i := 58) rfl) ?_
  refine fo 2 V41 aI rfl <| lB rfl V3 (bG px (i := 59) rfl) ?_
  refine fo 3 V41 aI rfl <| lB rfl V3 (bG px (i := 60) rfl) ?_
  refine fo 4 V41 aI rfl <| lB rfl V3 (bG px (i := 61) rfl) ?_
  refine fo 5 V41 aI rfl <| lB rfl V3 (bG px (i := 62) rfl) ?_
  refine fo 6 V41 aI rfl <| lB rfl V3 (bG px (i := 63) rfl) ?_
  refine fo 7 V41 aI rfl <| lB rfl V3 (bG px (i := 64) rfl) ?_
  refine fo 8 V41 aI rfl <| lB rfl V3 (bG px (i := 65) rfl) ?_
  refine fo 9 V41 bL rfl <| fo 9 V31 aI rfl <| lB rfl V3 (bG px (i := 66) rfl) ?_
  refine fo 9 V41 bL rfl <| fo 10 V31 aI rfl <| lB rfl V3 (bG px (i := 67) rfl) ?_
  refine fo 9 V41 bL rfl <| fo 11 V31 aI rfl <| lB rfl V3 (bG px (i := 68) rfl) ?_
  refine fo 9 V41 bL rfl <| fo 12 V31 aI rfl <| lB rfl V3 (bG px (i := 69) rfl) ?_
  refine fo 13 V41 aI rfl <| lB rfl V3 (bG px (i := 70) rfl) ?_
  refine aM (out := [57, 58, 59, 60, 61, 62, 63, 64, 65, 66, 67, 68, 69, 70].map fun k => Value.int .i64 (iv (c k))) rfl rfl nM oP V22 aI rfl rfl (by kernel_rfl) rfl rfl ?_
  intro N87
  refine oc tH oV (fun H hH => kK (ex := true) px [57, 58, 59, 60, 61, 62, 63, 64, 65, 66, 67, 68, 69, 70] rfl (hH.own (N87, _) mA).1 (hH.own (N87, _) mA).2.2.1 (by simp) rfl) ?_
  refine ob rfl (by exact bE (v := ⟨⟨aA (editIts.take 63) c⟩⟩) (dA (fits (fA (l1 := editIts.take 49) (l2 := [57, 58, 59, 60, 61, 62, 63, 64, 65, 66, 67, 68, 69, 70].map .i) 63 rfl) hB)) (dF (bT rfl))) ?_
  refine oa rfl <| rC <| om rfl <| fo 14 V41 rL rfl <| lB rfl V39 hx71 ?_
  refine ll rfl V39 <| cE rfl rfl rfl V3 V65 (dH _ (by omega) (by omega)) ?_
  refine oc vK oV (fun H hH => kX (n := l71.length) (by omega)) ?_
  refine ob rfl (by exact bE (v := ⟨⟨aA (editIts.take 63) c ++ aF l71.length⟩⟩) (dA (fits (gN (l1 := editIts.take 63) (r1 := editIts.drop 64) rfl hv71) hB)) (dF (rfl))) ?_
  refine oa rfl <| tq <| rB <| fo 14 V41 rL rfl <| lB rfl V39 hx71 ?_
  refine ll rfl V39 <| om rfl <| aB <| aK ?_
  refine bK (σ := Nat) (fun k => l71.length - k) (fun k => [(1, .pointer (some ⟨2 * N1 + 1, 0, none⟩)), (5, .pointer (some ⟨2 * N5 + 1, 0, none⟩)), (4, .string ⟨⟨aA (editIts.take 63) c ++ aF l71.length ++ aL dynIts (l71.take k)⟩⟩), (98, .slice a71 l71.length c71), (99, .int .i64 ((l71.length : Nat) : Int)), (100, .int .i64 ((k : Nat) : Int))]) (fun _ => S) (fun _ => A) (fun _ => [(N5, .cells (cellsOf 16 fun i => x (57 + i)) (cI E 41) true), (N1, .cells (cellsOf 84 x) (cI E 48) true)]) (fun k => k ≤ l71.length) (0) ((Nat.zero_le _)) (by repeat (first | exact .nil | refine .cons (by first | rfl | (show some _ = some (Value.string ⟨⟨aA (editIts.take 63) c ++ aF l71.length ++ aL dynIts (l71.take 0)⟩⟩); simp [aL])) ?_)) rfl rfl sU ?_
  intro k hJ2 t1
  refine aH ?_
  rcases Nat.lt_or_ge k l71.length with hk | hk
  ·obtain ⟨qD, usD, dD, rfl, ixD, hcD, lxD, kxD⟩ := r71.at' k hk
   obtain ⟨yD, eD, rfl, rfl, pyD⟩ := kxD.fn (n := 3) rfl
   obtain ⟨l2, a2, c2, e2, hx2, r2⟩ := (pyD 2 _ rfl).rowD
   have hv2 : rv (eD 2) = l2 := by rw [e2]; rfl
   have hb2 := r2.len
   have hcf : aA dynIts (cfn (dJ 3 eD)) = aA dynIts eD := by simp only [dynIts, aA, bB]; rfl
   have hQ : ∀ w, Pre w dynIts eD → Pre (aA (editIts.take 63) c ++ aF l71.length ++ aL dynIts (l71.take k) ++ w) editIts c := fun w ⟨z, h⟩ => aEv (l1 := editIts.take 63) (r1 := editIts.drop 64) rfl hv71 hcD ⟨z, h.trans hcf.symm⟩
   refine rA <| ob rfl (by exact aX (by omega)) ?_
   refine tq <| aO rfl <| aJ <| aD <| aH <| aK <| rB <| bH rfl rfl rfl rfl V39 kS rfl (by omega) ?_
   refine aV rfl rfl rfl (by exact cS V68 rfl kS rfl (InA.add ixD) lxD) ?_
   refine bR (cs := (.int .i64 0 :: .int .i64 0 :: .slice none 0 0 :: [])) rfl rfl nM kS rfl rfl ?_
   intro N7
   refine bX rfl nM rfl rfl kS (by exact aU _ _) (CellsA.one kxD) uP (by exact cF rfl) (by exact cH rfl rfl) nM ?_
   refine tq <| cC (E := E) mixed [5, 6, 11] _ (List.Sublist.refl _) (by kernel_rfl) (by kernel_rfl) (by decide) ?_
   refine om rfl <| fo 0 V68 aI rfl <| lB rfl V3 (bG pyD (i := 0) rfl) ?_
   refine fo 1 V68 aI rfl <| lB rfl V3 (bG pyD (i := 1) rfl) ?_
   refine aM (out := [0, 1].map fun k => Value.int .i64 (iv (eD k))) rfl rfl (fun _ => mA) oP V22 aI rfl rfl (by kernel_rfl) rfl rfl ?_
   intro N109
   refine bF rfl rfl (fun _ => mA) rfl tH oV (fun H hH => kK (ex := true) pyD [0, 1] rfl (hH.own (N109, _) mA).1 (hH.own (N109, _) mA).2.2.1 (by simp) rfl) ?_
   refine fo 2 V68 rE rfl <| lB rfl V66 hx2 ?_
   refine ll rfl V66 <| cE rfl rfl rfl V3 V65 (dH _ (by omega) (by omega)) ?_
   refine bF rfl rfl (fun _ => mA) rfl vK oV (fun H hH => kX (n := l2.length) (by omega)) ?_
   refine ob rfl (by exact bE (v := ⟨⟨aA ([0, 1].map .i) eD ++ aF l2.length⟩⟩) (dA (by have h9 := fits (hQ _ (gN (l1 := dynIts.take 2) (r1 := []) rfl hv2)) hB; have h8 : (aA (dynIts.take 2) eD ++ aF l2.length).length = (aA ([0, 1].map .i) eD).length + (aF l2.length).length := List.length_append; show (aA ([0, 1].map .i) eD).length + (aF l2.length).length ≤ _; omega)) rfl) ?_
   refine ob rfl (by exact bE (v := ⟨⟨aA (editIts.take 63) c ++ aF l71.length ++ aL dynIts (l71.take k) ++ (aA ([0, 1].map .i) eD ++ aF l2.length)⟩⟩) (dA (fits (hQ _ (gN (l1 := dynIts.take 2) (r1 := []) rfl hv2)) hB)) (dF (rfl))) ?_
   refine oa rfl <| rC <| fo 2 V68 rE rfl <| lB rfl V66 hx2 ?_
   refine ll rfl V66 <| om rfl <| aB <| aK ?_
   refine bK (σ := Nat) (fun j => l2.length - j) (fun j => [(1, .pointer (some ⟨2 * N1 + 1, 0, none⟩)), (5, .pointer (some ⟨2 * N5 + 1, 0, none⟩)), (4, .string ⟨⟨aA (editIts.take 63) c ++ aF l71.length ++ aL dynIts (l71.take k) ++ (aA (dynIts.take 2) eD ++ aF l2.length ++ aL ptIts (l2.take j))⟩⟩), (98, .slice (some qD) l71.length c71), (99, .int .i64 ((l71.length : Nat) : Int)), (100, .int .i64 ((k : Nat) : Int)), (119, .slice a2 l2.length c2), (120, .int .i64 ((l2.length : Nat) : Int)), (121, .int .i64 ((j : Nat) : Int))]) (fun _ => S) (fun _ => A) (fun _ => [(N5, .cells (cellsOf 16 fun i => x (57 + i)) (cI E 41) true), (N1, .cells (cellsOf 84 x) (cI E 48) true)]) (fun j => j ≤ l2.length) (0) ((Nat.zero_le _)) (by repeat (first | exact .nil | refine .cons (by first | rfl | (show some _ = some (Value.string ⟨⟨aA (editIts.take 63) c ++ aF l71.length ++ aL dynIts (l71.take k) ++ (aA (dynIts.take 2) eD ++ aF l2.length ++ aL ptIts (l2.take 0))⟩⟩); simp [aL, dynIts])) ?_)) rfl rfl sU ?_
   intro j hJ2 t2
   refine aH ?_
   rcases Nat.lt_or_ge j l2.length with hj | hj
   ·obtain ⟨qK, usK, dK, rfl, ixK, hcK, lxK, kxK⟩ := r2.at' j hj
    obtain ⟨yK, eK, rfl, rfl, pyK⟩ := kxK.fn (n := 2) rfl
    refine rA <| ob rfl (by exact aX (by omega)) ?_
    refine tq <| aO rfl <| aJ <| aD <| aH <| aK <| rB <| bH rfl rfl rfl rfl V66 qP rfl (by omega) ?_
    refine aV rfl rfl rfl (by exact cS V69 rfl qP rfl (InA.add ixK) lxK) ?_
    refine bR (cs := (.int .i64 0 :: .int .i64 0 :: [])) rfl rfl nM qP rfl rfl ?_
    intro N9
    refine bX rfl nM rfl rfl qP (by exact aU _ _) (CellsA.one kxK) uP (by exact cF rfl) (by exact cH rfl rfl) nM ?_
    refine rD <| om rfl <| fo 0 V69 aI rfl <| lB rfl V3 (bG pyK (i := 0) rfl) ?_
    refine fo 1 V69 aI rfl <| lB rfl V3 (bG pyK (i := 1) rfl) ?_
    refine aM (out := [0, 1].map fun k => Value.int .i64 (iv (eK k))) rfl rfl nM oP V22 aI rfl rfl (by kernel_rfl) rfl rfl ?_
    intro N130
    refine oc tH oV (fun H hH => kK (ex := true) pyK [0, 1] rfl (hH.own (N130, _) mA).1 (hH.own (N130, _) mA).2.2.1 (by simp) rfl) ?_
    refine ob rfl (by exact bE (v := ⟨⟨aA (editIts.take 63) c ++ aF l71.length ++ aL dynIts (l71.take k) ++ (aA (dynIts.take 2) eD ++ aF l2.length ++ aL ptIts (l2.take (j + 1)))⟩⟩) (dA (fits (by rw [← dO (n := 2) (e := eK) [0, 1] rfl, List.append_assoc]; exact hQ _ (fG (s2 := []) (l1 := dynIts.take 2) (r1 := []) rfl hv2 hcK rfl)) hB)) (dF (by rw [← dO (n := 2) (e := eK) [0, 1] rfl]; exact (List.append_assoc _ _ _).trans (congrArg _ ((List.append_assoc _ _ _).trans (congrArg _ (dN hcK))))))) ?_
    refine oa rfl <| aZ <| bA <| aD <| rA <| ob rfl (by exact aY (by omega)) ?_
    refine om rfl <| aZ ?_
    refine rd' (j + 1) (show l2.length - (j + 1) < l2.length - j by omega) (show j + 1 ≤ l2.length by omega)
   ·obtain rfl : j = l2.length := by omega
    rw [show aA (editIts.take 63) c ++ aF l71.length ++ aL dynIts (l71.take k) ++ (aA (dynIts.take 2) eD ++ aF l2.length ++ aL ptIts (l2.take l2.length)) = aA (editIts.take 63) c ++ aF l71.length ++ aL dynIts (l71.take (k + 1)) by rw [iB (l3 := dynIts) hv2 rfl, ← hcf, List.append_assoc]; exact congrArg _ (dN hcD)]
    refine rA <| ob rfl (by exact aW (by omega)) ?_
    refine tq <| aG rfl <| bJ <| aR <| aS <| aN <| bA <| aD <| rA <| ob rfl (by exact aY (by omega)) ?_
    refine om rfl <| aZ ?_
    refine rd' (k + 1) (show l71.length - (k + 1) < l71.length - k by omega) (show k + 1 ≤ l71.length by omega)
  ·obtain rfl : k = l71.length := by omega
   rw [iB (l3 := editIts.take 64) hv71 rfl]
   refine rA <| ob rfl (by exact aW (by omega)) ?_
   refine tq <| aG rfl <| bJ <| aR <| aS <| aN <| aD <| rB <| oa rfl <| tq <| aH ?_
   cases hb : bv (c 72)
   ·refine rA <| fo 15 V41 lR rfl <| lB rfl V4 ((aBs px (i := 72) rfl).trans (congrArg Value.bool hb)) ?_
    refine aB <| aG rfl <| aJ <| aD <| aH <| cC (E := E) mixed [2, 3, 8] _ (List.Sublist.refl _) (by kernel_rfl) (by kernel_rfl) (by decide) ?_
    refine om rfl <| om rfl <| aM (out := [.int .i64 0]) rfl rfl (fun _ => mA) oP V22 aI rfl rfl (by kernel_rfl) rfl rfl ?_
    intro N139
    refine bF rfl rfl (fun _ => mA) rfl tH oV (fun H hH => aPl (n := 0) (ex := true) ⟨by omega, by omega⟩ (hH.own (N139, _) mA).1 (hH.own (N139, _) mA).2.2.1) ?_
    refine fo 73 V48 nI rfl <| lB rfl V42 hx73 ?_
    refine ll rfl V42 <| cE rfl rfl rfl V3 V65 (dH _ (by omega) (by omega)) ?_
    refine bF rfl rfl (fun _ => mA) rfl vK oV (fun H hH => kX (n := l73.length) (by omega)) ?_
    refine ob rfl (by exact bE (v := ⟨⟨bO 0 ++ aF l73.length⟩⟩) (by have h9 := jJ (n := 0) ⟨by omega, by omega⟩; have h8 := bU (n := l73.length) (by omega); show (bO 0).length + (aF l73.length).length ≤ _; omega) rfl) ?_
    refine ob rfl (by exact bE (v := ⟨⟨aA (editIts.take 65) c ++ aF l73.length⟩⟩) (dA (fits (by rw [← List.append_assoc, show aA (editIts.take 64) c ++ bO 0 = aA (editIts.take 65) c by have h9 := bC (l1 := editIts.take 64) (a := .bi 72) (l3 := editIts.take 65) (c := c) rfl; rw [show bB (.bi 72) c = bO 0 by simp [bB, hb]] at h9; exact h9]; exact gN (l1 := editIts.take 65) (r1 := editIts.drop 66) rfl hv73) hB)) (dF (by rw [← List.append_assoc, show aA (editIts.take 64) c ++ bO 0 = aA (editIts.take 65) c by have h9 := bC (l1 := editIts.take 64) (a := .bi 72) (l3 := editIts.take 65) (c := c) rfl; rw [show bB (.bi 72) c = bO 0 by simp [bB, hb]] at h9; exact h9]))) ?_
    refine oa rfl <| tq <| rB <| fo 73 V48 nI rfl <| lB rfl V42 hx73 ?_
    refine ll rfl V42 <| om rfl <| aB <| aK ?_
    refine bK (σ := Nat) (fun k => l73.length - k) (fun k => [(1, .pointer (some ⟨2 * N1 + 1, 0, none⟩)), (5, .pointer (some ⟨2 * N5 + 1, 0, none⟩)), (4, .string ⟨⟨aA (editIts.take 65) c ++ aF l73.length ++ aL dV (l73.take k)⟩⟩), (149, .slice a73 l73.length c73), (150, .int .i64 ((l73.length : Nat) : Int)), (151, .int .i64 ((k : Nat) : Int))]) (fun _ => S) (fun _ => A) (fun _ => [(N5, .cells (cellsOf 16 fun i => x (57 + i)) (cI E 41) true), (N1, .cells (cellsOf 84 x) (cI E 48) true)]) (fun k => k ≤ l73.length) (0) ((Nat.zero_le _)) (by repeat (first | exact .nil | refine .cons (by first | rfl | (show some _ = some (Value.string ⟨⟨aA (editIts.take 65) c ++ aF l73.length ++ aL dV (l73.take 0)⟩⟩); simp [aL])) ?_)) rfl rfl sU ?_
    intro k hJ2 t3
    refine aH ?_
    rcases Nat.lt_or_ge k l73.length with hk | hk
    ·obtain ⟨qS, usS, dS, rfl, ixS, hcS, lxS, kxS⟩ := r73.at' k hk
     obtain ⟨yS, eS, rfl, rfl, pyS⟩ := kxS.fn (n := 5) rfl
     refine rA <| ob rfl (by exact aX (by omega)) ?_
     refine tq <| aO rfl <| aJ <| aD <| aH <| aK <| rB <| bH rfl rfl rfl rfl V42 mP rfl (by omega) ?_
     refine aV rfl rfl rfl (by exact cS V71 rfl mP rfl (InA.add ixS) lxS) ?_
     refine bR (cs := (.int .i64 0 :: .int .i64 0 :: .int .i64 0 :: .int .i64 0 :: .int .i64 0 :: [])) rfl rfl nM mP rfl rfl ?_
     intro N12
     refine bX rfl nM rfl rfl mP (by exact aU _ _) (CellsA.one kxS) uP (by exact cF rfl) (by exact cH rfl rfl) nM ?_
     refine rD <| om rfl <| fo 0 V71 aI rfl <| lB rfl V3 (bG pyS (i := 0) rfl) ?_
     refine fo 1 V71 aI rfl <| lB rfl V3 (bG pyS (i := 1) rfl) ?_
     refine fo 2 V71 aI rfl <| lB rfl V3 (bG pyS (i := 2) rfl) ?_
     refine fo 3 V71 aI rfl <| lB rfl V3 (bG pyS (i := 3) rfl) ?_
     refine fo 4 V71 aI rfl <| lB rfl V3 (bG pyS (i := 4) rfl) ?_
     refine aM (out := [0, 1, 2, 3, 4].map fun k => Value.int .i64 (iv (eS k))) rfl rfl nM oP V22 aI rfl rfl (by kernel_rfl) rfl rfl ?_
     intro N166
     refine oc tH oV (fun H hH => kK (ex := true) pyS [0, 1, 2, 3, 4] rfl (hH.own (N166, _) mA).1 (hH.own (N166, _) mA).2.2.1 (by simp) rfl) ?_
     refine ob rfl (by exact bE (v := ⟨⟨aA (editIts.take 65) c ++ aF l73.length ++ aL dV (l73.take (k + 1))⟩⟩) (dA (fits (by rw [← dO (n := 5) (e := eS) [0, 1, 2, 3, 4] rfl]; exact fG (l1 := editIts.take 65) (r1 := editIts.drop 66) (s2 := []) rfl hv73 hcS rfl) hB)) (dF (by rw [← dO (n := 5) (e := eS) [0, 1, 2, 3, 4] rfl, List.append_assoc]; exact congrArg _ (dN (sub := dV) hcS)))) ?_
     refine oa rfl <| aZ <| bA <| aD <| rA <| ob rfl (by exact aY (by omega)) ?_
     refine om rfl <| aZ ?_
     refine rd' (k + 1) (show l73.length - (k + 1) < l73.length - k by omega) (show k + 1 ≤ l73.length by omega)
    ·obtain rfl : k = l73.length := by omega
     rw [iB (l3 := editIts.take 66) hv73 rfl]
     refine rA <| ob rfl (by exact aW (by omega)) ?_
     refine tq <| aG rfl <| bJ <| aR <| aS <| aN <| aD <| rB <| om rfl <| fo 74 V48 eB rfl <| fo 74 V44 aI rfl <| lB rfl V3 (bG px (i := 74) rfl) ?_
     refine fo 74 V48 eB rfl <| fo 75 V44 aI rfl <| lB rfl V3 (bG px (i := 75) rfl) ?_
     refine fo 76 V48 kJ rfl <| fo 76 V46 aI rfl <| lB rfl V3 (bG px (i := 76) rfl) ?_
     refine fo 76 V48 kJ rfl <| fo 77 V46 aI rfl <| lB rfl V3 (bG px (i := 77) rfl) ?_
     refine fo 76 V48 kJ rfl <| fo 78 V46 aI rfl <| lB rfl V3 (bG px (i := 78) rfl) ?_
     refine fo 76 V48 kJ rfl <| fo 79 V46 aI rfl <| lB rfl V3 (bG px (i := 79) rfl) ?_
     refine fo 80 V48 bL rfl <| fo 80 V31 aI rfl <| lB rfl V3 (bG px (i := 80) rfl) ?_
     refine fo 80 V48 bL rfl <| fo 81 V31 aI rfl <| lB rfl V3 (bG px (i := 81) rfl) ?_
     refine fo 80 V48 bL rfl <| fo 82 V31 aI rfl <| lB rfl V3 (bG px (i := 82) rfl) ?_
     refine fo 80 V48 bL rfl <| fo 83 V31 aI rfl <| lB rfl V3 (bG px (i := 83) rfl) ?_
     refine aM (out := [74, 75, 76, 77, 78, 79, 80, 81, 82, 83].map fun k => Value.int .i64 (iv (c k))) rfl rfl nM oP V22 aI rfl rfl (by kernel_rfl) rfl rfl ?_
     intro N201
     refine oc tH oV (fun H hH => kK (ex := true) px [74, 75, 76, 77, 78, 79, 80, 81, 82, 83] rfl (hH.own (N201, _) mA).1 (hH.own (N201, _) mA).2.2.1 (by simp) rfl) ?_
     refine ob rfl (by exact bE (v := ⟨⟨aA editIts c⟩⟩) (dA (fits (fA (its := editIts) (l1 := editIts.take 66) (l2 := [74, 75, 76, 77, 78, 79, 80, 81, 82, 83].map .i) 76 rfl) hB)) (dF (bT (l3 := editIts) rfl))) ?_
     refine oa rfl <| tq ?_
     rcases Nat.lt_or_ge 1048576 (aA editIts c).length with h1 | h1
     ·refine rA <| om rfl <| oc aKt oV (fun H hH => aAp ⟨⟨aA editIts c⟩⟩ h1 (by show (aA editIts c).length ≤ _; omega)) ?_
      refine om rfl <| bS rfl rfl rfl rfl <| bS rfl rfl rfl rfl <| oa rfl <| oa rfl <| tq <| rB <| om rfl <| ob rfl (by exact dZ (by omega)) ?_
      refine om rfl <| aC rfl rfl rfl <| aC rfl rfl rfl <| aC rfl rfl rfl <| pt rfl <| aB <| aO rfl <| rB <| oa rfl <| oa rfl <| aB <| aT <| aP <| dX (.tmp rfl (.tmp rfl .nil)) ?_
      exact fun H hH => ⟨by rw [fV, if_pos hP, if_neg (fun h => absurd h.1 (by omega))], hH.kept⟩
     ·refine rA <| om rfl <| oc aKt oV (fun H hH => aCo ⟨⟨aA editIts c⟩⟩ h1) ?_
      refine om rfl <| bS rfl rfl rfl rfl <| bS rfl rfl rfl rfl <| oa rfl <| oa rfl <| tq <| rB <| om rfl <| ob rfl (by exact bP (by rfl)) ?_
      refine om rfl <| om rfl <| dB rfl rfl rfl rfl rfl rfl V9 ?_
      rcases Nat.lt_or_ge 1048576 (dE (aA editIts c)).length with h2 | h2
      ·refine ob rfl (by exact cR (by show (1048576 : Int) < ((dE (aA editIts c)).length : Int); omega)) ?_
       refine pQ rfl <| aB <| aO rfl <| rB <| oa rfl <| oa rfl <| aB <| aT <| aP <| dX (.tmp rfl (.tmp rfl .nil)) ?_
       exact fun H hH => ⟨by rw [fV, if_pos hP, if_neg (fun h => absurd h.2 (by omega))], hH.kept⟩
      ·refine ob rfl (by exact bW (by show ((dE (aA editIts c)).length : Int) ≤ 1048576; omega)) ?_
       refine pQ rfl <| aB <| aG rfl <| aJ <| aD <| rB <| om rfl <| oa rfl <| oa rfl <| aB <| aT <| dX (.tmp rfl (.tmp rfl .nil)) ?_
       exact fun H hH => ⟨by rw [fV, if_pos hP, if_pos ⟨h1, h2⟩], hH.kept⟩
   ·refine rA <| fo 15 V41 lR rfl <| lB rfl V4 ((aBs px (i := 72) rfl).trans (congrArg Value.bool hb)) ?_
    refine aB <| aO rfl <| rA <| oa rfl <| tq <| cC (E := E) mixed [2, 3, 8] _ (List.Sublist.refl _) (by kernel_rfl) (by kernel_rfl) (by decide) ?_
    refine om rfl <| om rfl <| aM (out := [.int .i64 1]) rfl rfl (fun _ => mA) oP V22 aI rfl rfl (by kernel_rfl) rfl rfl ?_
    intro N139
    refine bF rfl rfl (fun _ => mA) rfl tH oV (fun H hH => aPl (n := 1) (ex := true) ⟨by omega, by omega⟩ (hH.own (N139, _) mA).1 (hH.own (N139, _) mA).2.2.1) ?_
    refine fo 73 V48 nI rfl <| lB rfl V42 hx73 ?_
    refine ll rfl V42 <| cE rfl rfl rfl V3 V65 (dH _ (by omega) (by omega)) ?_
    refine bF rfl rfl (fun _ => mA) rfl vK oV (fun H hH => kX (n := l73.length) (by omega)) ?_
    refine ob rfl (by exact bE (v := ⟨⟨bO 1 ++ aF l73.length⟩⟩) (by have h9 := jJ (n := 1) ⟨by omega, by omega⟩; have h8 := bU (n := l73.length) (by omega); show (bO 1).length + (aF l73.length).length ≤ _; omega) rfl) ?_
    refine ob rfl (by exact bE (v := ⟨⟨aA (editIts.take 65) c ++ aF l73.length⟩⟩) (dA (fits (by rw [← List.append_assoc, show aA (editIts.take 64) c ++ bO 1 = aA (editIts.take 65) c by have h9 := bC (l1 := editIts.take 64) (a := .bi 72) (l3 := editIts.take 65) (c := c) rfl; rw [show bB (.bi 72) c = bO 1 by simp [bB, hb]] at h9; exact h9]; exact gN (l1 := editIts.take 65) (r1 := editIts.drop 66) rfl hv73) hB)) (dF (by rw [← List.append_assoc, show aA (editIts.take 64) c ++ bO 1 = aA (editIts.take 65) c by have h9 := bC (l1 := editIts.take 64) (a := .bi 72) (l3 := editIts.take 65) (c := c) rfl; rw [show bB (.bi 72) c = bO 1 by simp [bB, hb]] at h9; exact h9]))) ?_
    refine oa rfl <| tq <| rB <| fo 73 V48 nI rfl <| lB rfl V42 hx73 ?_
    refine ll rfl V42 <| om rfl <| aB <| aK ?_
    refine bK (σ := Nat) (fun k => l73.length - k) (fun k => [(1, .pointer (some ⟨2 * N1 + 1, 0, none⟩)), (5, .pointer (some ⟨2 * N5 + 1, 0, none⟩)), (4, .string ⟨⟨aA (editIts.take 65) c ++ aF l73.length ++ aL dV (l73.take k)⟩⟩), (149, .slice a73 l73.length c73), (150, .int .i64 ((l73.length : Nat) : Int)), (151, .int .i64 ((k : Nat) : Int))]) (fun _ => S) (fun _ => A) (fun _ => [(N5, .cells (cellsOf 16 fun i => x (57 + i)) (cI E 41) true), (N1, .cells (cellsOf 84 x) (cI E 48) true)]) (fun k => k ≤ l73.length) (0) ((Nat.zero_le _)) (by repeat (first | exact .nil | refine .cons (by first | rfl | (show some _ = some (Value.string ⟨⟨aA (editIts.take 65) c ++ aF l73.length ++ aL dV (l73.take 0)⟩⟩); simp [aL])) ?_)) rfl rfl sU ?_
    intro k hJ2 t3
    refine aH ?_
    rcases Nat.lt_or_ge k l73.length with hk | hk
    ·obtain ⟨qS, usS, dS, rfl, ixS, hcS, lxS, kxS⟩ := r73.at' k hk
     obtain ⟨yS, eS, rfl, rfl, pyS⟩ := kxS.fn (n := 5) rfl
     refine rA <| ob rfl (by exact aX (by omega)) ?_
     refine tq <| aO rfl <| aJ <| aD <| aH <| aK <| rB <| bH rfl rfl rfl rfl V42 mP rfl (by omega) ?_
     refine aV rfl rfl rfl (by exact cS V71 rfl mP rfl (InA.add ixS) lxS) ?_
     refine bR (cs := (.int .i64 0 :: .int .i64 0 :: .int .i64 0 :: .int .i64 0 :: .int .i64 0 :: [])) rfl rfl nM mP rfl rfl ?_
     intro N12
     refine bX rfl nM rfl rfl mP (by exact aU _ _) (CellsA.one kxS) uP (by exact cF rfl) (by exact cH rfl rfl) nM ?_
     refine rD <| om rfl <| fo 0 V71 aI rfl <| lB rfl V3 (bG pyS (i := 0) rfl) ?_
     refine fo 1 V71 aI rfl <| lB rfl V3 (bG pyS (i := 1) rfl) ?_
     refine fo 2 V71 aI rfl <| lB rfl V3 (bG pyS (i := 2) rfl) ?_
     refine fo 3 V71 aI rfl <| lB rfl V3 (bG pyS (i := 3) rfl) ?_
     refine fo 4 V71 aI rfl <| lB rfl V3 (bG pyS (i := 4) rfl) ?_
     refine aM (out := [0, 1, 2, 3, 4].map fun k => Value.int .i64 (iv (eS k))) rfl rfl nM oP V22 aI rfl rfl (by kernel_rfl) rfl rfl ?_
     intro N166
     refine oc tH oV (fun H hH => kK (ex := true) pyS [0, 1, 2, 3, 4] rfl (hH.own (N166, _) mA).1 (hH.own (N166, _) mA).2.2.1 (by simp) rfl) ?_
     refine ob rfl (by exact bE (v := ⟨⟨aA (editIts.take 65) c ++ aF l73.length ++ aL dV (l73.take (k + 1))⟩⟩) (dA (fits (by rw [← dO (n := 5) (e := eS) [0, 1, 2, 3, 4] rfl]; exact fG (l1 := editIts.take 65) (r1 := editIts.drop 66) (s2 := []) rfl hv73 hcS rfl) hB)) (dF (by rw [← dO (n := 5) (e := eS) [0, 1, 2, 3, 4] rfl, List.append_assoc]; exact congrArg _ (dN (sub := dV) hcS)))) ?_
     refine oa rfl <| aZ <| bA <| aD <| rA <| ob rfl (by exact aY (by omega)) ?_
     refine om rfl <| aZ ?_
     refine rd' (k + 1) (show l73.length - (k + 1) < l73.length - k by omega) (show k + 1 ≤ l73.length by omega)
    ·obtain rfl : k = l73.length := by omega
     rw [iB (l3 := editIts.take 66) hv73 rfl]
     refine rA <| ob rfl (by exact aW (by omega)) ?_
     refine tq <| aG rfl <| bJ <| aR <| aS <| aN <| aD <| rB <| om rfl <| fo 74 V48 eB rfl <| fo 74 V44 aI rfl <| lB rfl V3 (bG px (i := 74) rfl) ?_
     refine fo 74 V48 eB rfl <| fo 75 V44 aI rfl <| lB rfl V3 (bG px (i := 75) rfl) ?_
     refine fo 76 V48 kJ rfl <| fo 76 V46 aI rfl <| lB rfl V3 (bG px (i := 76) rfl) ?_
     refine fo 76 V48 kJ rfl <| fo 77 V46 aI rfl <| lB rfl V3 (bG px (i := 77) rfl) ?_
     refine fo 76 V48 kJ rfl <| fo 78 V46 aI rfl <| lB rfl V3 (bG px (i := 78) rfl) ?_
     refine fo 76 V48 kJ rfl <| fo 79 V46 aI rfl <| lB rfl V3 (bG px (i := 79) rfl) ?_
     refine fo 80 V48 bL rfl <| fo 80 V31 aI rfl <| lB rfl V3 (bG px (i := 80) rfl) ?_
     refine fo 80 V48 bL rfl <| fo 81 V31 aI rfl <| lB rfl V3 (bG px (i := 81) rfl) ?_
     refine fo 80 V48 bL rfl <| fo 82 V31 aI rfl <| lB rfl V3 (bG px (i := 82) rfl) ?_
     refine fo 80 V48 bL rfl <| fo 83 V31 aI rfl <| lB rfl V3 (bG px (i := 83) rfl) ?_
     refine aM (out := [74, 75, 76, 77, 78, 79, 80, 81, 82, 83].map fun k => Value.int .i64 (iv (c k))) rfl rfl nM oP V22 aI rfl rfl (by kernel_rfl) rfl rfl ?_
     intro N201
     refine oc tH oV (fun H hH => kK (ex := true) px [74, 75, 76, 77, 78, 79, 80, 81, 82, 83] rfl (hH.own (N201, _) mA).1 (hH.own (N201, _) mA).2.2.1 (by simp) rfl) ?_
     refine ob rfl (by exact bE (v := ⟨⟨aA editIts c⟩⟩) (dA (fits (fA (its := editIts) (l1 := editIts.take 66) (l2 := [74, 75, 76, 77, 78, 79, 80, 81, 82, 83].map .i) 76 rfl) hB)) (dF (bT (l3 := editIts) rfl))) ?_
     refine oa rfl <| tq ?_
     rcases Nat.lt_or_ge 1048576 (aA editIts c).length with h1 | h1
     ·refine rA <| om rfl <| oc aKt oV (fun H hH => aAp ⟨⟨aA editIts c⟩⟩ h1 (by show (aA editIts c).length ≤ _; omega)) ?_
      refine om rfl <| bS rfl rfl rfl rfl <| bS rfl rfl rfl rfl <| oa rfl <| oa rfl <| tq <| rB <| om rfl <| ob rfl (by exact dZ (by omega)) ?_
      refine om rfl <| aC rfl rfl rfl <| aC rfl rfl rfl <| aC rfl rfl rfl <| pt rfl <| aB <| aO rfl <| rB <| oa rfl <| oa rfl <| aB <| aT <| aP <| dX (.tmp rfl (.tmp rfl .nil)) ?_
      exact fun H hH => ⟨by rw [fV, if_pos hP, if_neg (fun h => absurd h.1 (by omega))], hH.kept⟩
     ·refine rA <| om rfl <| oc aKt oV (fun H hH => aCo ⟨⟨aA editIts c⟩⟩ h1) ?_
      refine om rfl <| bS rfl rfl rfl rfl <| bS rfl rfl rfl rfl <| oa rfl <| oa rfl <| tq <| rB <| om rfl <| ob rfl (by exact bP (by rfl)) ?_
      refine om rfl <| om rfl <| dB rfl rfl rfl rfl rfl rfl V9 ?_
      rcases Nat.lt_or_ge 1048576 (dE (aA editIts c)).length with h2 | h2
      ·refine ob rfl (by exact cR (by show (1048576 : Int) < ((dE (aA editIts c)).length : Int); omega)) ?_
       refine pQ rfl <| aB <| aO rfl <| rB <| oa rfl <| oa rfl <| aB <| aT <| aP <| dX (.tmp rfl (.tmp rfl .nil)) ?_
       exact fun H hH => ⟨by rw [fV, if_pos hP, if_neg (fun h => absurd h.2 (by omega))], hH.kept⟩
      ·refine ob rfl (by exact bW (by show ((dE (aA editIts c)).length : Int) ≤ 1048576; omega)) ?_
       refine pQ rfl <| aB <| aG rfl <| aJ <| aD <| rB <| om rfl <| oa rfl <| oa rfl <| aB <| aT <| dX (.tmp rfl (.tmp rfl .nil)) ?_
       exact fun H hH => ⟨by rw [fV, if_pos hP, if_pos ⟨h1, h2⟩], hH.kept⟩
 ·refine rA <| aV rfl rfl rfl (by exact bV V48 rfl gP rfl mA (by exact bQ rfl) (by exact bZ)) ?_
  refine oc aVb oV (fun H hH => (aCp hH.lt (px.gr hH.gr)).b (decide_eq_false hP)) ?_
  refine eZ rfl rfl rfl rfl <| aB <| aO rfl <| rB <| oa rfl <| oa rfl <| aB <| aT <| aP <| dX (.tmp rfl (.tmp rfl .nil)) ?_
  exact fun H hH => ⟨by rw [fV, if_neg hP], hH.kept⟩
end Go.Proofs.YteklajiaicmogaaGreatDoor
namespace Go.Proofs.YteklajiaicmogaaGreatDoor
open Go Go.AM
theorem has24 : ∃ fn, E.fn 24 = some fn := ⟨_, aQ Tryz.func24 rfl rfl rfl⟩
theorem has25 : ∃ fn, E.fn 25 = some fn := ⟨_, aQ Tryz.func25 rfl rfl rfl⟩
theorem has26 : ∃ fn, E.fn 26 = some fn := ⟨_, aQ Tryz.func26 rfl rfl rfl⟩
theorem aVt : ∃ fn, E.fn 63 = some fn := ⟨_, aQ Tryz.func63 rfl rfl rfl⟩
theorem has64 : ∃ fn, E.fn 64 = some fn := ⟨_, aQ Tryz.func64 rfl rfl rfl⟩
theorem has97 : ∃ fn, E.fn 97 = some fn := ⟨_, aQ Tryz.func97 rfl rfl rfl⟩
theorem has98 : ∃ fn, E.fn 98 = some fn := ⟨_, aQ Tryz.func98 rfl rfl rfl⟩
theorem has99 : ∃ fn, E.fn 99 = some fn := ⟨_, aQ Tryz.func99 rfl rfl rfl⟩
theorem aWe : ∃ fn, E.fn 100 = some fn := ⟨_, aQ Tryz.func100 rfl rfl rfl⟩
theorem aWt : ∃ fn, E.fn 139 = some fn := ⟨_, aQ Tryz.func139 rfl rfl rfl⟩
theorem xN {S : AH} {A : Nat → Prop} (hA : ∀ j, A j → j < S.nx) {x y : Value} {c : CT} (hx : CellA A S (.row 8 [.int .i64]) x c) (hy : CellA A S (.row 8 [.int .i64]) y c) : XCall Tryz.prog 63 [x, y] S fun v H' => v = .bool true ∧ Kept S.nx S H' := by
 obtain ⟨l, ax, cx, rfl, rfl, rx⟩ := hx.rowD
 obtain ⟨l2, ay, cy, e2, rfl, ry⟩ := hy.rowD
 cases e2
 have hb := rx.len
 refine bN (E := E) (n := 26) (rs := [.tmp 4]) (l := [(1, _), (0, _)]) (aQ Tryz.func63 rfl rfl rfl) hA rfl ?_
 refine rB <| oa rfl <| tq <| rB <| om rfl <| ll rfl V22 <| om rfl <| ll rfl V22 <| ob rfl (by exact bP (by rfl)) ?_
 refine aB <| aG rfl <| aJ <| aD <| aH <| rB <| om rfl <| ll rfl V22 <| om rfl <| aB <| aK ?_
 refine bK (σ := Nat) (fun k => l.length - k) (fun k => [(0, .slice ax l.length cx), (1, .slice ay l.length cy), (12, .int .i64 ((l.length : Nat) : Int)), (13, .int .i64 ((k : Nat) : Int))]) (fun _ => S) (fun _ => A) (fun _ => []) (fun k => k ≤ l.length) (0) (Nat.zero_le _) pK rfl rfl sV ?_
 intro s hJ t1
 replace hJ : s ≤ l.length := hJ
 refine aH ?_
 rcases Nat.lt_or_ge s l.length with hk | hk
 ·obtain ⟨px, xs, c, rfl, ix, hc, lx, kx⟩ := rx.at' s hk
  obtain ⟨py, ys, c2, rfl, iy, hc2, ly, ky⟩ := ry.at' s hk
  rw [hc] at hc2; cases hc2
  obtain ⟨x0, rfl, lx⟩ := dW lx
  obtain ⟨y0, rfl, ly⟩ := dW ly
  obtain ⟨c0, rfl⟩ : ∃ c0, c = [c0] := List.length_eq_one_iff.1 (kx.len.2)
  simp only [CellsA] at kx ky
  refine rA <| ob rfl (by exact aX (by omega)) ?_
  refine tq <| aO rfl <| aJ <| aD <| aH <| aK <| rB <| om rfl <| oa rfl <| tq <| cC (E := E) mixed [] _ (List.Sublist.refl _) (by kernel_rfl) (by kernel_rfl) (by decide) ?_
  refine om rfl <| om rfl <| bH rfl rfl rfl rfl V22 aI rfl (by omega) ?_
  refine aV rfl rfl rfl (by exact cU V3 rfl (by exact InA.add (by assumption)) (by assumption)) ?_
  refine om rfl <| om rfl <| bH rfl rfl rfl rfl V22 aI rfl (by omega) ?_
  refine aV rfl rfl rfl (by exact cU V3 rfl (by exact InA.add (by assumption)) (by assumption)) ?_
  refine ob rfl (by exact cK V3 rfl kx.1 ky.1) ?_
  refine aB <| aG rfl <| aJ <| bA <| aD <| rA <| ob rfl (by exact aY (by omega)) ?_
  refine om rfl <| aZ ?_
  exact rd' (s + 1) (show l.length - (s + 1) < l.length - s by omega) (show s + 1 ≤ l.length by omega)
 ·refine rA <| ob rfl (by exact aW (by omega)) ?_
  refine tq <| aG rfl <| bJ <| aR <| aS <| aN <| aD <| rB <| oa rfl <| aB <| aT <| aE (.tmp rfl .nil) ?_
  exact fun H hH => ⟨rfl, hH.kept⟩
theorem aDe {S : AH} {A : Nat → Prop} (hA : ∀ j, A j → j < S.nx) {x y : Value} {c : CT} (hx : CellA A S (.row 40 vF) x c) (hy : CellA A S (.row 40 vF) y c) : XCall Tryz.prog 98 [x, y] S fun v H' => v = .bool true ∧ Kept S.nx S H' := by
 obtain ⟨l, ax, cx, rfl, rfl, rx⟩ := hx.rowD
 obtain ⟨l2, ay, cy, e2, rfl, ry⟩ := hy.rowD
 cases e2
 have hb := rx.len
 refine bN (E := E) (n := 26) (rs := [.tmp 4]) (l := [(1, _), (0, _)]) (aQ Tryz.func98 rfl rfl rfl) hA rfl ?_
 refine rB <| oa rfl <| tq <| rB <| om rfl <| ll rfl V32 <| om rfl <| ll rfl V32 <| ob rfl (by exact bP (by rfl)) ?_
 refine aB <| aG rfl <| aJ <| aD <| aH <| rB <| om rfl <| ll rfl V32 <| om rfl <| aB <| aK ?_
 refine bK (σ := Nat) (fun k => l.length - k) (fun k => [(0, .slice ax l.length cx), (1, .slice ay l.length cy), (12, .int .i64 ((l.length : Nat) : Int)), (13, .int .i64 ((k : Nat) : Int))]) (fun _ => S) (fun _ => A) (fun _ => []) (fun k => k ≤ l.length) (0) (Nat.zero_le _) pK rfl rfl sV ?_
 intro s hJ t1
 replace hJ : s ≤ l.length := hJ
 refine aH ?_
 rcases Nat.lt_or_ge s l.length with hk | hk
 ·obtain ⟨px, xs, c, rfl, ix, hc, lx, kx⟩ := rx.at' s hk
  obtain ⟨py, ys, c2, rfl, iy, hc2, ly, ky⟩ := ry.at' s hk
  rw [hc] at hc2; cases hc2
  refine rA <| ob rfl (by exact aX (by omega)) ?_
  refine tq <| aO rfl <| aJ <| aD <| aH <| aK <| rB <| om rfl <| oa rfl <| tq <| cC (E := E) mixed [] _ (List.Sublist.refl _) (by kernel_rfl) (by kernel_rfl) (by decide) ?_
  refine om rfl <| om rfl <| bH rfl rfl rfl rfl V32 lP rfl (by omega) ?_
  refine aV rfl rfl rfl (by exact cS rR rfl lP rfl (InA.add ix) lx) ?_
  refine om rfl <| om rfl <| bH rfl rfl rfl rfl V32 lP rfl (by omega) ?_
  refine aV rfl rfl rfl (by exact cS rR rfl lP rfl (InA.add iy) ly) ?_
  refine ob rfl (by exact (gF rR rfl (by kernel_rfl) rfl kx ky).2) ?_
  refine aB <| aG rfl <| aJ <| bA <| aD <| rA <| ob rfl (by exact aY (by omega)) ?_
  refine om rfl <| aZ ?_
  exact rd' (s + 1) (show l.length - (s + 1) < l.length - s by omega) (show s + 1 ≤ l.length by omega)
 ·refine rA <| ob rfl (by exact aW (by omega)) ?_
  refine tq <| aG rfl <| bJ <| aR <| aS <| aN <| aD <| rB <| oa rfl <| aB <| aT <| aE (.tmp rfl .nil) ?_
  exact fun H hH => ⟨rfl, hH.kept⟩
theorem aFl {S : AH} {A : Nat → Prop} (hA : ∀ j, A j → j < S.nx) {x y : Value} {c : CT} (hx : CellA A S (.row 56 aGi) x c) (hy : CellA A S (.row 56 aGi) y c) : XCall Tryz.prog 99 [x, y] S fun v H' => v = .bool true ∧ Kept S.nx S H' := by
 obtain ⟨l, ax, cx, rfl, rfl, rx⟩ := hx.rowD
 obtain ⟨l2, ay, cy, e2, rfl, ry⟩ := hy.rowD
 cases e2
 have hb := rx.len
 refine bN (E := E) (n := 26) (rs := [.tmp 4]) (l := [(1, _), (0, _)]) (aQ Tryz.func99 rfl rfl rfl) hA rfl ?_
 refine rB <| oa rfl <| tq <| rB <| om rfl <| ll rfl V33 <| om rfl <| ll rfl V33 <| ob rfl (by exact bP (by rfl)) ?_
 refine aB <| aG rfl <| aJ <| aD <| aH <| rB <| om rfl <| ll rfl V33 <| om rfl <| aB <| aK ?_
 refine bK (σ := Nat) (fun k => l.length - k) (fun k => [(0, .slice ax l.length cx), (1, .slice ay l.length cy), (12, .int .i64 ((l.length : Nat) : Int)), (13, .int .i64 ((k : Nat) : Int))]) (fun _ => S) (fun _ => A) (fun _ => []) (fun k => k ≤ l.length) (0) (Nat.zero_le _) pK rfl rfl sV ?_
 intro s hJ t1
 replace hJ : s ≤ l.length := hJ
 refine aH ?_
 rcases Nat.lt_or_ge s l.length with hk | hk
 ·obtain ⟨px, xs, c, rfl, ix, hc, lx, kx⟩ := rx.at' s hk
  obtain ⟨py, ys, c2, rfl, iy, hc2, ly, ky⟩ := ry.at' s hk
  rw [hc] at hc2; cases hc2
  refine rA <| ob rfl (by exact aX (by omega)) ?_
  refine tq <| aO rfl <| aJ <| aD <| aH <| aK <| rB <| om rfl <| oa rfl <| tq <| cC (E := E) mixed [] _ (List.Sublist.refl _) (by kernel_rfl) (by kernel_rfl) (by decide) ?_
  refine om rfl <| om rfl <| bH rfl rfl rfl rfl V33 iE rfl (by omega) ?_
  refine aV rfl rfl rfl (by exact cS oG rfl iE rfl (InA.add ix) lx) ?_
  refine om rfl <| om rfl <| bH rfl rfl rfl rfl V33 iE rfl (by omega) ?_
  refine aV rfl rfl rfl (by exact cS oG rfl iE rfl (InA.add iy) ly) ?_
  refine ob rfl (by exact (gF oG rfl (by kernel_rfl) rfl kx ky).2) ?_
  refine aB <| aG rfl <| aJ <| bA <| aD <| rA <| ob rfl (by exact aY (by omega)) ?_
  refine om rfl <| aZ ?_
  exact rd' (s + 1) (show l.length - (s + 1) < l.length - s by omega) (show s + 1 ≤ l.length by omega)
 ·refine rA <| ob rfl (by exact aW (by omega)) ?_
  refine tq <| aG rfl <| bJ <| aR <| aS <| aN <| aD <| rB <| oa rfl <| aB <| aT <| aE (.tmp rfl .nil) ?_
  exact fun H hH => ⟨rfl, hH.kept⟩
theorem aIw {S : AH} {A : Nat → Prop} (hA : ∀ j, A j → j < S.nx) {x y : Value} {c : CT} (hx : CellA A S (.row 16 [.int .i64, .int .i64]) x c) (hy : CellA A S (.row 16 [.int .i64, .int .i64]) y c) : XCall Tryz.prog 100 [x, y] S fun v H' => v = .bool true ∧ Kept S.nx S H' := by
 obtain ⟨l, ax, cx, rfl, rfl, rx⟩ := hx.rowD
 obtain ⟨l2, ay, cy, e2, rfl, ry⟩ := hy.rowD
 cases e2
 have hb := rx.len
 refine bN (E := E) (n := 26) (rs := [.tmp 4]) (l := [(1, _), (0, _)]) (aQ Tryz.func100 rfl rfl rfl) hA rfl ?_
 refine rB <| oa rfl <| tq <| rB <| om rfl <| ll rfl V34 <| om rfl <| ll rfl V34 <| ob rfl (by exact bP (by rfl)) ?_
 refine aB <| aG rfl <| aJ <| aD <| aH <| rB <| om rfl <| ll rfl V34 <| om rfl <| aB <| aK ?_
 refine bK (σ := Nat) (fun k => l.length - k) (fun k => [(0, .slice ax l.length cx), (1, .slice ay l.length cy), (12, .int .i64 ((l.length : Nat) : Int)), (13, .int .i64 ((k : Nat) : Int))]) (fun _ => S) (fun _ => A) (fun _ => []) (fun k => k ≤ l.length) (0) (Nat.zero_le _) pK rfl rfl sV ?_
 intro s hJ t1
 replace hJ : s ≤ l.length := hJ
 refine aH ?_
 rcases Nat.lt_or_ge s l.length with hk | hk
 ·obtain ⟨px, xs, c, rfl, ix, hc, lx, kx⟩ := rx.at' s hk
  obtain ⟨py, ys, c2, rfl, iy, hc2, ly, ky⟩ := ry.at' s hk
  rw [hc] at hc2; cases hc2
  refine rA <| ob rfl (by exact aX (by omega)) ?_
  refine tq <| aO rfl <| aJ <| aD <| aH <| aK <| rB <| om rfl <| oa rfl <| tq <| cC (E := E) mixed [] _ (List.Sublist.refl _) (by kernel_rfl) (by kernel_rfl) (by decide) ?_
  refine om rfl <| om rfl <| bH rfl rfl rfl rfl V34 eB rfl (by omega) ?_
  refine aV rfl rfl rfl (by exact cS V44 rfl eB rfl (InA.add ix) lx) ?_
  refine om rfl <| om rfl <| bH rfl rfl rfl rfl V34 eB rfl (by omega) ?_
  refine aV rfl rfl rfl (by exact cS V44 rfl eB rfl (InA.add iy) ly) ?_
  refine ob rfl (by exact (gF V44 rfl (by kernel_rfl) rfl kx ky).2) ?_
  refine aB <| aG rfl <| aJ <| bA <| aD <| rA <| ob rfl (by exact aY (by omega)) ?_
  refine om rfl <| aZ ?_
  exact rd' (s + 1) (show l.length - (s + 1) < l.length - s by omega) (show s + 1 ≤ l.length by omega)
 ·refine rA <| ob rfl (by exact aW (by omega)) ?_
  refine tq <| aG rfl <| bJ <| aR <| aS <| aN <| aD <| rB <| oa rfl <| aB <| aT <| aE (.tmp rfl .nil) ?_
  exact fun H hH => ⟨rfl, hH.kept⟩
theorem aHs {S : AH} {A : Nat → Prop} (hA : ∀ j, A j → j < S.nx) {x y : Value} {c : CT} (hx : CellA A S (.row 32 kP) x c) (hy : CellA A S (.row 32 kP) y c) : XCall Tryz.prog 139 [x, y] S fun v H' => v = .bool true ∧ Kept S.nx S H' := by
 obtain ⟨l, ax, cx, rfl, rfl, rx⟩ := hx.rowD
 obtain ⟨l2, ay, cy, e2, rfl, ry⟩ := hy.rowD
 cases e2
 have hb := rx.len
 refine bN (E := E) (n := 26) (rs := [.tmp 4]) (l := [(1, _), (0, _)]) (aQ Tryz.func139 rfl rfl rfl) hA rfl ?_
 refine rB <| oa rfl <| tq <| rB <| om rfl <| ll rfl V27 <| om rfl <| ll rfl V27 <| ob rfl (by exact bP (by rfl)) ?_
 refine aB <| aG rfl <| aJ <| aD <| aH <| rB <| om rfl <| ll rfl V27 <| om rfl <| aB <| aK ?_
 refine bK (σ := Nat) (fun k => l.length - k) (fun k => [(0, .slice ax l.length cx), (1, .slice ay l.length cy), (12, .int .i64 ((l.length : Nat) : Int)), (13, .int .i64 ((k : Nat) : Int))]) (fun _ => S) (fun _ => A) (fun _ => []) (fun k => k ≤ l.length) (0) (Nat.zero_le _) pK rfl rfl sV ?_
 intro s hJ t1
 replace hJ : s ≤ l.length := hJ
 refine aH ?_
 rcases Nat.lt_or_ge s l.length with hk | hk
 ·obtain ⟨px, xs, c, rfl, ix, hc, lx, kx⟩ := rx.at' s hk
  obtain ⟨py, ys, c2, rfl, iy, hc2, ly, ky⟩ := ry.at' s hk
  rw [hc] at hc2; cases hc2
  refine rA <| ob rfl (by exact aX (by omega)) ?_
  refine tq <| aO rfl <| aJ <| aD <| aH <| aK <| rB <| om rfl <| oa rfl <| tq <| cC (E := E) mixed [] _ (List.Sublist.refl _) (by kernel_rfl) (by kernel_rfl) (by decide) ?_
  refine om rfl <| om rfl <| bH rfl rfl rfl rfl V27 bL rfl (by omega) ?_
  refine aV rfl rfl rfl (by exact cS V31 rfl bL rfl (InA.add ix) lx) ?_
  refine om rfl <| om rfl <| bH rfl rfl rfl rfl V27 bL rfl (by omega) ?_
  refine aV rfl rfl rfl (by exact cS V31 rfl bL rfl (InA.add iy) ly) ?_
  refine ob rfl (by exact (gF V31 rfl (by kernel_rfl) rfl kx ky).2) ?_
  refine aB <| aG rfl <| aJ <| bA <| aD <| rA <| ob rfl (by exact aY (by omega)) ?_
  refine om rfl <| aZ ?_
  exact rd' (s + 1) (show l.length - (s + 1) < l.length - s by omega) (show s + 1 ≤ l.length by omega)
 ·refine rA <| ob rfl (by exact aW (by omega)) ?_
  refine tq <| aG rfl <| bJ <| aR <| aS <| aN <| aD <| rB <| oa rfl <| aB <| aT <| aE (.tmp rfl .nil) ?_
  exact fun H hH => ⟨rfl, hH.kept⟩
set_option maxHeartbeats 4000000 in
theorem aIz {S : AH} {A : Nat → Prop} (hA : ∀ j, A j → j < S.nx) {x y : Nat → Value} {c : Nat → CT} (px : Pts A S kI x c) (py : Pts A S kI y c) : XCall Tryz.prog 97 [.agg ⟨cellsOf 3 x⟩, .agg ⟨cellsOf 3 y⟩] S fun v H' => v = .bool true ∧ Kept S.nx S H' := by
 refine bN (E := E) (n := 24) (rs := [.tmp 4]) (l := [(1, _), (0, _)]) (aQ Tryz.func97 rfl rfl rfl) hA rfl ?_
 refine rB <| cZ rfl rfl nM rfl ?_
 intro N2
 refine cZ rfl rfl nM rfl ?_
 intro N3
 refine oa rfl <| rC <| fo 0 V29 aI rfl <| lA rfl V3 ?_
 refine fo 0 V29 aI rfl <| lA rfl V3 ?_
 refine ob rfl (by exact iM V3 (by rfl) (px _ _ rfl) (py _ _ rfl)) ?_
 refine om rfl <| fo 1 V29 aI rfl <| lA rfl V3 ?_
 refine fo 1 V29 aI rfl <| lA rfl V3 ?_
 refine ob rfl (by exact iM V3 (by rfl) (px _ _ rfl) (py _ _ rfl)) ?_
 refine pt rfl <| om rfl <| fo 2 V29 gZ rfl <| lA rfl V27 ?_
 refine fo 2 V29 gZ rfl <| lA rfl V27 ?_
 refine oc aWt oV (fun H hH => aHs hH.lt (CellA.gr hH.gr _ _ _ (px 2 _ rfl)) (CellA.gr hH.gr _ _ _ (py 2 _ rfl))) ?_
 refine pt rfl <| oa rfl <| aB <| aT <| aE (.tmp rfl .nil) ?_
 exact fun H hH => ⟨rfl, hH.kept⟩
set_option maxHeartbeats 4000000 in
theorem aFq {S : AH} {A : Nat → Prop} (hA : ∀ j, A j → j < S.nx) {x y : Nat → Value} {c : Nat → CT} (px : Pts A S kI x c) (py : Pts A S kI y c) : XCall Tryz.prog 25 [.agg ⟨cellsOf 3 x⟩, .agg ⟨cellsOf 3 y⟩] S fun v H' => v = .bool true ∧ Kept S.nx S H' := by
 obtain ⟨l, ax, cx, ec, hx2, rx⟩ := (px 2 _ rfl).rowD
 obtain ⟨l2, ay, cy, e2, hy2, ry⟩ := (py 2 _ rfl).rowD
 rw [ec] at e2; cases e2
 have hb := rx.len
 refine bN (E := E) (n := 45) (rs := [.tmp 4]) (l := [(1, _), (0, _)]) (aQ Tryz.func25 rfl rfl rfl) hA rfl ?_
 refine rB <| cZ rfl rfl nM rfl ?_
 intro N2
 refine cZ rfl rfl nM rfl ?_
 intro N3
 refine oa rfl <| tq <| rB <| fo 0 V29 aI rfl <| lA rfl V3 ?_
 refine fo 0 V29 aI rfl <| lA rfl V3 ?_
 refine ob rfl (by exact cK V3 (by rfl) (px _ _ rfl) (py _ _ rfl)) ?_
 refine om rfl <| fo 1 V29 aI rfl <| lA rfl V3 ?_
 refine fo 1 V29 aI rfl <| lA rfl V3 ?_
 refine ob rfl (by exact cK V3 (by rfl) (px _ _ rfl) (py _ _ rfl)) ?_
 refine pQ rfl <| om rfl <| fo 2 V29 gZ rfl <| lB rfl V27 hx2 ?_
 refine ll rfl V27 <| fo 2 V29 gZ rfl <| lB rfl V27 hy2 ?_
 refine ll rfl V27 <| ob rfl (by exact bP (by rfl)) ?_
 refine pQ rfl <| aB <| aG rfl <| aJ <| aD <| aH <| rB <| fo 2 V29 gZ rfl <| lB rfl V27 hx2 ?_
 refine ll rfl V27 <| om rfl <| aB <| aK ?_
 refine bK (σ := Nat) (fun k => l.length - k) (fun k => [(2, .pointer (some ⟨2 * N2 + 1, 0, none⟩)), (3, .pointer (some ⟨2 * N3 + 1, 0, none⟩)), (29, .int .i64 ((l.length : Nat) : Int)), (30, .int .i64 ((k : Nat) : Int))]) (fun _ => S) (fun _ => A) (fun _ => [(N3, .cells (cellsOf 3 y) (cI E 29) true), (N2, .cells (cellsOf 3 x) (cI E 29) true)]) (fun k => k ≤ l.length) (0) (Nat.zero_le _) pK rfl rfl sV ?_
 intro s hJ t1
 replace hJ : s ≤ l.length := hJ
 refine aH ?_
 rcases Nat.lt_or_ge s l.length with hk | hk
 ·obtain ⟨qx, us, d, rfl, ix, hc, lx, kx⟩ := rx.at' s hk
  obtain ⟨qy, vs, d2, rfl, iy, hc2, ly, ky⟩ := ry.at' s hk
  rw [hc] at hc2; cases hc2
  refine rA <| ob rfl (by exact aX (by omega)) ?_
  refine tq <| aO rfl <| aJ <| aD <| aH <| aK <| rB <| om rfl <| oa rfl <| tq <| cC (E := E) mixed [] _ (List.Sublist.refl _) (by kernel_rfl) (by kernel_rfl) (by decide) ?_
  refine fo 2 V29 gZ rfl <| lB rfl V27 hx2 ?_
  refine om rfl <| bH rfl rfl rfl rfl V27 bL rfl (by omega) ?_
  refine aV rfl rfl rfl (by exact cS V31 rfl bL rfl (InA.add ix) lx) ?_
  refine fo 2 V29 gZ rfl <| lB rfl V27 hy2 ?_
  refine om rfl <| bH rfl rfl rfl rfl V27 bL rfl (by omega) ?_
  refine aV rfl rfl rfl (by exact cS V31 rfl bL rfl (InA.add iy) ly) ?_
  refine ob rfl (by exact (gF V31 rfl (by kernel_rfl) rfl kx ky).2) ?_
  refine aB <| aG rfl <| aJ <| bA <| aD <| rA <| ob rfl (by exact aY (by omega)) ?_
  refine om rfl <| aZ ?_
  exact rd' (s + 1) (show l.length - (s + 1) < l.length - s by omega) (show s + 1 ≤ l.length by omega)
 ·refine rA <| ob rfl (by exact aW (by omega)) ?_
  refine tq <| aG rfl <| bJ <| aR <| aS <| aN <| aD <| rB <| oa rfl <| aB <| aT <| aE (.tmp rfl .nil) ?_
  exact fun H hH => ⟨rfl, hH.kept⟩
set_option maxHeartbeats 4000000 in
theorem aHa {S : AH} {A : Nat → Prop} (hA : ∀ j, A j → j < S.nx) {x y : Nat → Value} {c : Nat → CT} (px : Pts A S kM x c) (py : Pts A S kM y c) : XCall Tryz.prog 26 [.agg ⟨cellsOf 3 x⟩, .agg ⟨cellsOf 3 y⟩] S fun v H' => v = .bool true ∧ Kept S.nx S H' := by
 obtain ⟨l, ax, cx, ec, hx2, rx⟩ := (px 2 _ rfl).rowD
 obtain ⟨l2, ay, cy, e2, hy2, ry⟩ := (py 2 _ rfl).rowD
 rw [ec] at e2; cases e2
 have hb := rx.len
 refine bN (E := E) (n := 45) (rs := [.tmp 4]) (l := [(1, _), (0, _)]) (aQ Tryz.func26 rfl rfl rfl) hA rfl ?_
 refine rB <| cZ rfl rfl nM rfl ?_
 intro N2
 refine cZ rfl rfl nM rfl ?_
 intro N3
 refine oa rfl <| tq <| rB <| fo 0 V24 aI rfl <| lA rfl V3 ?_
 refine fo 0 V24 aI rfl <| lA rfl V3 ?_
 refine ob rfl (by exact cK V3 (by rfl) (px _ _ rfl) (py _ _ rfl)) ?_
 refine om rfl <| fo 1 V24 aI rfl <| lA rfl V3 ?_
 refine fo 1 V24 aI rfl <| lA rfl V3 ?_
 refine ob rfl (by exact cK V3 (by rfl) (px _ _ rfl) (py _ _ rfl)) ?_
 refine pQ rfl <| om rfl <| fo 2 V24 eI rfl <| lB rfl V22 hx2 ?_
 refine ll rfl V22 <| fo 2 V24 eI rfl <| lB rfl V22 hy2 ?_
 refine ll rfl V22 <| ob rfl (by exact bP (by rfl)) ?_
 refine pQ rfl <| aB <| aG rfl <| aJ <| aD <| aH <| rB <| fo 2 V24 eI rfl <| lB rfl V22 hx2 ?_
 refine ll rfl V22 <| om rfl <| aB <| aK ?_
 refine bK (σ := Nat) (fun k => l.length - k) (fun k => [(2, .pointer (some ⟨2 * N2 + 1, 0, none⟩)), (3, .pointer (some ⟨2 * N3 + 1, 0, none⟩)), (29, .int .i64 ((l.length : Nat) : Int)), (30, .int .i64 ((k : Nat) : Int))]) (fun _ => S) (fun _ => A) (fun _ => [(N3, .cells (cellsOf 3 y) (cI E 24) true), (N2, .cells (cellsOf 3 x) (cI E 24) true)]) (fun k => k ≤ l.length) (0) (Nat.zero_le _) pK rfl rfl sV ?_
 intro s hJ t1
 replace hJ : s ≤ l.length := hJ
 refine aH ?_
 rcases Nat.lt_or_ge s l.length with hk | hk
 ·obtain ⟨qx, us, d, rfl, ix, hc, lx, kx⟩ := rx.at' s hk
  obtain ⟨qy, vs, d2, rfl, iy, hc2, ly, ky⟩ := ry.at' s hk
  rw [hc] at hc2; cases hc2
  obtain ⟨x0, rfl, lx⟩ := dW lx
  obtain ⟨y0, rfl, ly⟩ := dW ly
  obtain ⟨c0, rfl⟩ : ∃ c0, d = [c0] := List.length_eq_one_iff.1 (kx.len.2)
  simp only [CellsA] at kx ky
  refine rA <| ob rfl (by exact aX (by omega)) ?_
  refine tq <| aO rfl <| aJ <| aD <| aH <| aK <| rB <| om rfl <| oa rfl <| tq <| cC (E := E) mixed [] _ (List.Sublist.refl _) (by kernel_rfl) (by kernel_rfl) (by decide) ?_
  refine fo 2 V24 eI rfl <| lB rfl V22 hx2 ?_
  refine om rfl <| bH rfl rfl rfl rfl V22 aI rfl (by omega) ?_
  refine aV rfl rfl rfl (by exact cU V3 rfl (by exact InA.add (by assumption)) (by assumption)) ?_
  refine fo 2 V24 eI rfl <| lB rfl V22 hy2 ?_
  refine om rfl <| bH rfl rfl rfl rfl V22 aI rfl (by omega) ?_
  refine aV rfl rfl rfl (by exact cU V3 rfl (by exact InA.add (by assumption)) (by assumption)) ?_
  refine ob rfl (by exact cK V3 rfl kx.1 ky.1) ?_
  refine aB <| aG rfl <| aJ <| bA <| aD <| rA <| ob rfl (by exact aY (by omega)) ?_
  refine om rfl <| aZ ?_
  exact rd' (s + 1) (show l.length - (s + 1) < l.length - s by omega) (show s + 1 ≤ l.length by omega)
 ·refine rA <| ob rfl (by exact aW (by omega)) ?_
  refine tq <| aG rfl <| bJ <| aR <| aS <| aN <| aD <| rB <| oa rfl <| aB <| aT <| aE (.tmp rfl .nil) ?_
  exact fun H hH => ⟨rfl, hH.kept⟩
set_option maxHeartbeats 4000000 in
theorem aAz {S : AH} {A : Nat → Prop} (hA : ∀ j, A j → j < S.nx) {x y : Nat → Value} {c : Nat → CT} (px : Pts A S kNode x c) (py : Pts A S kNode y c) : XCall Tryz.prog 64 [.agg ⟨cellsOf 43 x⟩, .agg ⟨cellsOf 43 y⟩] S fun v H' => v = .bool true ∧ Kept S.nx S H' := by
 refine bN (E := E) (n := 136) (rs := [.tmp 4]) (l := [(1, _), (0, _)]) (aQ Tryz.func64 rfl rfl rfl) hA rfl ?_
 refine rB <| cZ rfl rfl nM rfl ?_
 intro N2
 refine cZ rfl rfl nM rfl ?_
 intro N3
 refine oa rfl <| tq <| rB <| fo 19 V38 fH rfl <| lC rfl V29 fH ?_
 refine fo 19 V38 fH rfl <| lC rfl V29 fH ?_
 refine oc has97 oV (fun H hH => aIz hH.lt ((nN px 19 (ks2 := kI) rfl).gr hH.gr) ((nN py 19 (ks2 := kI) rfl).gr hH.gr)) ?_
 refine eZ rfl rfl rfl rfl <| om rfl <| fo 22 V38 bL rfl <| lC rfl V31 bL ?_
 refine fo 22 V38 bL rfl <| lC rfl V31 bL ?_
 refine ob rfl (by exact (gF V31 rfl (by kernel_rfl) rfl (px.part 22 4 rfl) (py.part 22 4 rfl)).2) ?_
 refine pQ rfl <| aB <| aG rfl <| aJ <| aD <| aH <| rB <| fo 26 V38 aI rfl <| lA rfl V3 ?_
 refine fo 26 V38 aI rfl <| lA rfl V3 ?_
 refine ob rfl (by exact cK V3 (by rfl) (px _ _ rfl) (py _ _ rfl)) ?_
 refine om rfl <| fo 28 V38 aI rfl <| lA rfl V3 ?_
 refine fo 28 V38 aI rfl <| lA rfl V3 ?_
 refine ob rfl (by exact cK V3 (by rfl) (px _ _ rfl) (py _ _ rfl)) ?_
 refine pQ rfl <| aB <| aG rfl <| aJ <| aD <| aH <| rB <| fo 27 V38 eI rfl <| lA rfl V22 ?_
 refine fo 27 V38 eI rfl <| lA rfl V22 ?_
 refine oc aVt oV (fun H hH => xN hH.lt (CellA.gr hH.gr _ _ _ (px 27 _ rfl)) (CellA.gr hH.gr _ _ _ (py 27 _ rfl))) ?_
 refine eZ rfl rfl rfl rfl <| om rfl <| fo 29 V38 nX rfl <| lA rfl V32 ?_
 refine fo 29 V38 nX rfl <| lA rfl V32 ?_
 refine oc has98 oV (fun H hH => aDe hH.lt (CellA.gr hH.gr _ _ _ (px 29 _ rfl)) (CellA.gr hH.gr _ _ _ (py 29 _ rfl))) ?_
 refine eZ rfl rfl rfl rfl <| pQ rfl <| om rfl <| fo 30 V38 lN rfl <| lA rfl V33 ?_
 refine fo 30 V38 lN rfl <| lA rfl V33 ?_
 refine oc has99 oV (fun H hH => aFl hH.lt (CellA.gr hH.gr _ _ _ (px 30 _ rfl)) (CellA.gr hH.gr _ _ _ (py 30 _ rfl))) ?_
 refine eZ rfl rfl rfl rfl <| pQ rfl <| aB <| aG rfl <| aJ <| aD <| aH <| rB <| fo 31 V38 aI rfl <| lA rfl V3 ?_
 refine fo 31 V38 aI rfl <| lA rfl V3 ?_
 refine ob rfl (by exact cK V3 (by rfl) (px _ _ rfl) (py _ _ rfl)) ?_
 refine om rfl <| fo 32 V38 aI rfl <| lA rfl V3 ?_
 refine fo 32 V38 aI rfl <| lA rfl V3 ?_
 refine ob rfl (by exact cK V3 (by rfl) (px _ _ rfl) (py _ _ rfl)) ?_
 refine pQ rfl <| om rfl <| fo 33 V38 aI rfl <| lA rfl V3 ?_
 refine fo 33 V38 aI rfl <| lA rfl V3 ?_
 refine ob rfl (by exact cK V3 (by rfl) (px _ _ rfl) (py _ _ rfl)) ?_
 refine pQ rfl <| om rfl <| fo 34 V38 aI rfl <| lA rfl V3 ?_
 refine fo 34 V38 aI rfl <| lA rfl V3 ?_
 refine ob rfl (by exact cK V3 (by rfl) (px _ _ rfl) (py _ _ rfl)) ?_
 refine pQ rfl <| aB <| aG rfl <| aJ <| aD <| aH <| rB <| fo 35 V38 gJ rfl <| lA rfl V9 ?_
 refine fo 35 V38 gJ rfl <| lA rfl V9 ?_
 refine ob rfl (by exact cK V9 (by rfl) (px _ _ rfl) (py _ _ rfl)) ?_
 refine om rfl <| fo 36 V38 aI rfl <| lA rfl V3 ?_
 refine fo 36 V38 aI rfl <| lA rfl V3 ?_
 refine ob rfl (by exact cK V3 (by rfl) (px _ _ rfl) (py _ _ rfl)) ?_
 refine pQ rfl <| om rfl <| fo 37 V38 aI rfl <| lA rfl V3 ?_
 refine fo 37 V38 aI rfl <| lA rfl V3 ?_
 refine ob rfl (by exact cK V3 (by rfl) (px _ _ rfl) (py _ _ rfl)) ?_
 refine pQ rfl <| om rfl <| fo 38 V38 aI rfl <| lA rfl V3 ?_
 refine fo 38 V38 aI rfl <| lA rfl V3 ?_
 refine ob rfl (by exact cK V3 (by rfl) (px _ _ rfl) (py _ _ rfl)) ?_
 refine pQ rfl <| aB <| aG rfl <| aJ <| aD <| aH <| rB <| fo 39 V38 gU rfl <| fo 39 V36 aI rfl <| lA rfl V3 ?_
 refine fo 39 V38 gU rfl <| fo 39 V36 aI rfl <| lA rfl V3 ?_
 refine ob rfl (by exact cK V3 (by rfl) (px _ _ rfl) (py _ _ rfl)) ?_
 refine om rfl <| fo 39 V38 gU rfl <| fo 40 V36 aI rfl <| lA rfl V3 ?_
 refine fo 39 V38 gU rfl <| fo 40 V36 aI rfl <| lA rfl V3 ?_
 refine ob rfl (by exact cK V3 (by rfl) (px _ _ rfl) (py _ _ rfl)) ?_
 refine pQ rfl <| om rfl <| fo 39 V38 gU rfl <| fo 41 V36 aI rfl <| lA rfl V3 ?_
 refine fo 39 V38 gU rfl <| fo 41 V36 aI rfl <| lA rfl V3 ?_
 refine ob rfl (by exact cK V3 (by rfl) (px _ _ rfl) (py _ _ rfl)) ?_
 refine pQ rfl <| aB <| aG rfl <| aJ <| aD <| rB <| fo 39 V38 gU rfl <| fo 42 V36 oC rfl <| lA rfl V34 ?_
 refine fo 39 V38 gU rfl <| fo 42 V36 oC rfl <| lA rfl V34 ?_
 refine oc aWe oV (fun H hH => aIw hH.lt (CellA.gr hH.gr _ _ _ (px 42 _ rfl)) (CellA.gr hH.gr _ _ _ (py 42 _ rfl))) ?_
 refine oa rfl <| aB <| aT <| aE (.tmp rfl .nil) ?_
 exact fun H hH => ⟨rfl, hH.kept⟩
set_option maxHeartbeats 4000000 in
theorem aFy {S : AH} {A : Nat → Prop} (hA : ∀ j, A j → j < S.nx) {x y : Nat → Value} {c : Nat → CT} (px : Pts A S kNode x c) (py : Pts A S kNode y c) : XCall Tryz.prog 24 [.agg ⟨cellsOf 43 x⟩, .agg ⟨cellsOf 43 y⟩] S fun v H' => v = .bool true ∧ Kept S.nx S H' := by
 refine bN (E := E) (n := 105) (rs := [.tmp 4]) (l := [(1, _), (0, _)]) (aQ Tryz.func24 rfl rfl rfl) hA rfl ?_
 refine rB <| cZ rfl rfl nM rfl ?_
 intro N2
 refine cZ rfl rfl nM rfl ?_
 intro N3
 refine oa rfl <| tq <| rB <| fo 0 V38 aI rfl <| lA rfl V3 ?_
 refine fo 0 V38 aI rfl <| lA rfl V3 ?_
 refine ob rfl (by exact cK V3 (by rfl) (px _ _ rfl) (py _ _ rfl)) ?_
 refine om rfl <| fo 1 V38 aI rfl <| lA rfl V3 ?_
 refine fo 1 V38 aI rfl <| lA rfl V3 ?_
 refine ob rfl (by exact cK V3 (by rfl) (px _ _ rfl) (py _ _ rfl)) ?_
 refine pQ rfl <| om rfl <| fo 2 V38 aI rfl <| lA rfl V3 ?_
 refine fo 2 V38 aI rfl <| lA rfl V3 ?_
 refine ob rfl (by exact cK V3 (by rfl) (px _ _ rfl) (py _ _ rfl)) ?_
 refine pQ rfl <| om rfl <| fo 3 V38 gJ rfl <| lA rfl V9 ?_
 refine fo 3 V38 gJ rfl <| lA rfl V9 ?_
 refine ob rfl (by exact cK V9 (by rfl) (px _ _ rfl) (py _ _ rfl)) ?_
 refine pQ rfl <| aB <| aG rfl <| aJ <| aD <| aH <| rB <| fo 4 V38 lR rfl <| lA rfl V4 ?_
 refine fo 4 V38 lR rfl <| lA rfl V4 ?_
 refine ob rfl (by exact cK V4 (by rfl) (px _ _ rfl) (py _ _ rfl)) ?_
 refine om rfl <| fo 5 V38 lR rfl <| lA rfl V4 ?_
 refine fo 5 V38 lR rfl <| lA rfl V4 ?_
 refine ob rfl (by exact cK V4 (by rfl) (px _ _ rfl) (py _ _ rfl)) ?_
 refine pQ rfl <| om rfl <| fo 6 V38 lR rfl <| lA rfl V4 ?_
 refine fo 6 V38 lR rfl <| lA rfl V4 ?_
 refine ob rfl (by exact cK V4 (by rfl) (px _ _ rfl) (py _ _ rfl)) ?_
 refine pQ rfl <| aB <| aG rfl <| aJ <| aD <| aH <| rB <| fo 7 V38 aI rfl <| lA rfl V3 ?_
 refine fo 7 V38 aI rfl <| lA rfl V3 ?_
 refine ob rfl (by exact cK V3 (by rfl) (px _ _ rfl) (py _ _ rfl)) ?_
 refine om rfl <| fo 8 V38 aI rfl <| lA rfl V3 ?_
 refine fo 8 V38 aI rfl <| lA rfl V3 ?_
 refine ob rfl (by exact cK V3 (by rfl) (px _ _ rfl) (py _ _ rfl)) ?_
 refine pQ rfl <| om rfl <| fo 12 V38 jN rfl <| lC rfl V26 jN ?_
 refine fo 12 V38 jN rfl <| lC rfl V26 jN ?_
 refine ob rfl (by exact (gF V26 rfl (by kernel_rfl) rfl (px.part 12 6 rfl) (py.part 12 6 rfl)).2) ?_
 refine pQ rfl <| om rfl <| fo 18 V38 aI rfl <| lA rfl V3 ?_
 refine fo 18 V38 aI rfl <| lA rfl V3 ?_
 refine ob rfl (by exact cK V3 (by rfl) (px _ _ rfl) (py _ _ rfl)) ?_
 refine pQ rfl <| aB <| aG rfl <| aJ <| aD <| aH <| rB <| fo 9 V38 fI rfl <| fo 9 V24 aI rfl <| lA rfl V3 ?_
 refine fo 9 V38 fI rfl <| fo 9 V24 aI rfl <| lA rfl V3 ?_
 refine ob rfl (by exact cK V3 (by rfl) (px _ _ rfl) (py _ _ rfl)) ?_
 refine om rfl <| fo 9 V38 fI rfl <| fo 10 V24 aI rfl <| lA rfl V3 ?_
 refine fo 9 V38 fI rfl <| fo 10 V24 aI rfl <| lA rfl V3 ?_
 refine ob rfl (by exact cK V3 (by rfl) (px _ _ rfl) (py _ _ rfl)) ?_
 refine pQ rfl <| om rfl <| fo 9 V38 fI rfl <| fo 11 V24 eI rfl <| lA rfl V22 ?_
 refine fo 9 V38 fI rfl <| fo 11 V24 eI rfl <| lA rfl V22 ?_
 refine oc aVt oV (fun H hH => xN hH.lt (CellA.gr hH.gr _ _ _ (px 11 _ rfl)) (CellA.gr hH.gr _ _ _ (py 11 _ rfl))) ?_
 refine eZ rfl rfl rfl rfl <| pQ rfl <| aB <| aG rfl <| aJ <| aD <| rB <| aV rfl rfl rfl (by exact bV V38 rfl fU rfl mA (by exact bQ rfl) (by exact bZ)) ?_
 refine aV rfl rfl rfl (by exact bV V38 rfl fU rfl mA (by exact bQ rfl) (by exact bZ)) ?_
 refine oc has64 oV (fun H hH => aAz hH.lt (px.gr hH.gr) (py.gr hH.gr)) ?_
 refine oa rfl <| aB <| aT <| aE (.tmp rfl .nil) ?_
 exact fun H hH => ⟨rfl, hH.kept⟩
set_option maxHeartbeats 4000000 in
theorem aPk {S : AH} {A : Nat → Prop} (hA : ∀ j, A j → j < S.nx) {x y : Nat → Value} {c : Nat → CT} (px : Pts A S jQ x c) (py : Pts A S jQ y c) : XCall Tryz.prog 7 [.agg ⟨cellsOf 84 x⟩, .agg ⟨cellsOf 84 y⟩] S fun v H' => v = .bool true ∧ Kept S.nx S H' := by
 obtain ⟨l, ax, cx, ec, hx2, rx⟩ := (px 73 _ rfl).rowD
 obtain ⟨l2, ay, cy, e2, hy2, ry⟩ := (py 73 _ rfl).rowD
 rw [ec] at e2; cases e2
 have hb := rx.len
 refine bN (E := E) (n := 128) (rs := [.tmp 4]) (l := [(1, _), (0, _)]) (aQ Tryz.func7 rfl rfl rfl) hA rfl ?_
 refine rB <| cZ rfl rfl nM rfl ?_
 intro N2
 refine cZ rfl rfl nM rfl ?_
 intro N3
 refine oa rfl <| rC <| fo 0 V48 aI rfl <| lA rfl V3 ?_
 refine fo 0 V48 aI rfl <| lA rfl V3 ?_
 refine ob rfl (by exact iM V3 (by rfl) (px _ _ rfl) (py _ _ rfl)) ?_
 refine om rfl <| fo 1 V48 aI rfl <| lA rfl V3 ?_
 refine fo 1 V48 aI rfl <| lA rfl V3 ?_
 refine ob rfl (by exact iM V3 (by rfl) (px _ _ rfl) (py _ _ rfl)) ?_
 refine pt rfl <| om rfl <| fo 2 V48 aI rfl <| lA rfl V3 ?_
 refine fo 2 V48 aI rfl <| lA rfl V3 ?_
 refine ob rfl (by exact iM V3 (by rfl) (px _ _ rfl) (py _ _ rfl)) ?_
 refine pt rfl <| om rfl <| fo 3 V48 aI rfl <| lA rfl V3 ?_
 refine fo 3 V48 aI rfl <| lA rfl V3 ?_
 refine ob rfl (by exact iM V3 (by rfl) (px _ _ rfl) (py _ _ rfl)) ?_
 refine pt rfl <| om rfl <| fo 4 V48 aI rfl <| lA rfl V3 ?_
 refine fo 4 V48 aI rfl <| lA rfl V3 ?_
 refine ob rfl (by exact iM V3 (by rfl) (px _ _ rfl) (py _ _ rfl)) ?_
 refine pt rfl <| om rfl <| fo 5 V48 aI rfl <| lA rfl V3 ?_
 refine fo 5 V48 aI rfl <| lA rfl V3 ?_
 refine ob rfl (by exact iM V3 (by rfl) (px _ _ rfl) (py _ _ rfl)) ?_
 refine pt rfl <| om rfl <| fo 6 V48 gJ rfl <| lA rfl V9 ?_
 refine fo 6 V48 gJ rfl <| lA rfl V9 ?_
 refine ob rfl (by exact iM V9 (by rfl) (px _ _ rfl) (py _ _ rfl)) ?_
 refine pt rfl <| om rfl <| fo 7 V48 gJ rfl <| lA rfl V9 ?_
 refine fo 7 V48 gJ rfl <| lA rfl V9 ?_
 refine ob rfl (by exact iM V9 (by rfl) (px _ _ rfl) (py _ _ rfl)) ?_
 refine pt rfl <| om rfl <| fo 8 V48 fU rfl <| lC rfl V38 fU ?_
 refine fo 8 V48 fU rfl <| lC rfl V38 fU ?_
 refine oc has24 oV (fun H hH => aFy hH.lt ((nN px 8 (ks2 := kNode) rfl).gr hH.gr) ((nN py 8 (ks2 := kNode) rfl).gr hH.gr)) ?_
 refine pt rfl <| om rfl <| fo 54 V48 fH rfl <| lC rfl V29 fH ?_
 refine fo 54 V48 fH rfl <| lC rfl V29 fH ?_
 refine oc has25 oV (fun H hH => aFq hH.lt ((nN px 54 (ks2 := kI) rfl).gr hH.gr) ((nN py 54 (ks2 := kI) rfl).gr hH.gr)) ?_
 refine pt rfl <| om rfl <| fo 51 V48 fI rfl <| lC rfl V24 fI ?_
 refine fo 51 V48 fI rfl <| lC rfl V24 fI ?_
 refine oc has26 oV (fun H hH => aHa hH.lt ((nN px 51 (ks2 := kM) rfl).gr hH.gr) ((nN py 51 (ks2 := kM) rfl).gr hH.gr)) ?_
 refine pt rfl <| om rfl <| fo 74 V48 eB rfl <| lC rfl V44 eB ?_
 refine fo 74 V48 eB rfl <| lC rfl V44 eB ?_
 refine ob rfl (by exact (gF V44 rfl (by kernel_rfl) rfl (px.part 74 2 rfl) (py.part 74 2 rfl)).1) ?_
 refine pt rfl <| om rfl <| fo 76 V48 kJ rfl <| lC rfl V46 kJ ?_
 refine fo 76 V48 kJ rfl <| lC rfl V46 kJ ?_
 refine ob rfl (by exact (gF V46 rfl (by kernel_rfl) rfl (px.part 76 4 rfl) (py.part 76 4 rfl)).1) ?_
 refine pt rfl <| om rfl <| fo 80 V48 bL rfl <| lC rfl V31 bL ?_
 refine fo 80 V48 bL rfl <| lC rfl V31 bL ?_
 refine ob rfl (by exact (gF V31 rfl (by kernel_rfl) rfl (px.part 80 4 rfl) (py.part 80 4 rfl)).1) ?_
 refine pt rfl <| om rfl <| fo 73 V48 nI rfl <| lB rfl V42 hx2 ?_
 refine ll rfl V42 <| fo 73 V48 nI rfl <| lB rfl V42 hy2 ?_
 refine ll rfl V42 <| ob rfl (by exact cM (by rfl)) ?_
 refine pt rfl <| om rfl <| fo 57 V48 jT rfl <| fo 70 V41 aI rfl <| lA rfl V3 ?_
 refine fo 57 V48 jT rfl <| fo 70 V41 aI rfl <| lA rfl V3 ?_
 refine ob rfl (by exact iM V3 (by rfl) (px _ _ rfl) (py _ _ rfl)) ?_
 refine pt rfl <| om rfl <| fo 57 V48 jT rfl <| fo 72 V41 lR rfl <| lA rfl V4 ?_
 refine fo 57 V48 jT rfl <| fo 72 V41 lR rfl <| lA rfl V4 ?_
 refine ob rfl (by exact iM V4 (by rfl) (px _ _ rfl) (py _ _ rfl)) ?_
 refine pt rfl <| oa rfl <| aB <| aT <| aE (.tmp rfl .nil) ?_
 exact fun H hH => ⟨rfl, hH.kept⟩
end Go.Proofs.YteklajiaicmogaaGreatDoor
namespace Go.Proofs.YteklajiaicmogaaGreatDoor
open Go Go.AM
theorem aXg : ∃ fn, E.fn 5 = some fn := ⟨_, aQ Tryz.func5 rfl rfl rfl⟩
theorem has6 : ∃ fn, E.fn 6 = some fn := ⟨_, aQ Tryz.func6 rfl rfl rfl⟩
theorem has7 : ∃ fn, E.fn 7 = some fn := ⟨_, aQ Tryz.func7 rfl rfl rfl⟩
theorem aUu : ∃ fn, E.fn 8 = some fn := ⟨_, aQ Tryz.func8 rfl rfl rfl⟩
set_option maxHeartbeats 4000000 in
theorem yW (haw : ∀ S : AH, XCall Tryz.prog 8 [] S fun v H' => v = .bool true ∧ Kept S.nx S H') {S : AH} {A : Nat → Prop} (hA : ∀ j, A j → j < S.nx) {x : Nat → Value} {c : Nat → CT} (px : Pts A S jQ x c) : XCall Tryz.prog 3 [.agg ⟨cellsOf 84 x⟩] S fun v H' => v = .bool true ∧ Kept S.nx S H' := by
 have w : Wel jQ c := ⟨A, S, x, px⟩
 refine bN (E := E) (n := 56) (rs := [.tmp 2]) (l := [(0, _)]) (aQ Tryz.func3 rfl rfl rfl) hA rfl ?_
 refine rB <| cZ rfl rfl nM rfl ?_
 intro N1
 refine oa rfl <| tq ?_
 rcases (Decidable.em (cY c)).symm with hP | hP
 ·have hE : fV c = .tuple ⟨[.string ⟨⟨[]⟩⟩, .int .i64 1]⟩ := if_neg hP
  refine rA <| aV rfl rfl rfl (by exact bV V48 rfl gP rfl mA (by exact bQ rfl) (by exact bZ)) ?_
  refine oc aOl oV (fun H hH => (oT hH.lt (px.gr hH.gr) (fun hp => nE px hp)).mono fun u H' _ h => ⟨h.1.trans hE, h.2⟩) ?_
  refine om rfl <| bS rfl rfl rfl rfl <| bS rfl rfl rfl rfl <| oa rfl <| oa rfl <| rC <| aV rfl rfl rfl (by exact bV V48 rfl gP rfl mA (by exact bQ rfl) (by exact bZ)) ?_
  refine oc aXg oV (fun H hH => (uL hH.lt (px.gr hH.gr) (fun hp => nE px hp)).mono fun u H' _ h => ⟨h.1.trans hE, h.2⟩) ?_
  refine om rfl <| bS rfl rfl rfl rfl <| bS rfl rfl rfl rfl <| oa rfl <| oa rfl <| tq <| rB <| om rfl <| om rfl <| ob rfl (by exact bP (by rfl)) ?_
  refine om rfl <| om rfl <| om rfl <| ob rfl (by exact kC rfl) ?_
  refine pQ rfl <| aB <| aG rfl <| aJ <| aD <| aH <| rB <| om rfl <| ob rfl (by exact cL (by omega)) ?_
  refine aB <| aG rfl <| aJ <| aD <| rB <| oc aUu oV (fun H hH => haw H) ?_
  refine oa rfl <| aB <| aT <| aE (.tmp rfl .nil) ?_
  exact fun H hH => ⟨rfl, hH.kept⟩
 ·refine rA ?_
  rcases (Decidable.em ((aA editIts c).length ≤ 1048576 ∧ (dE (aA editIts c)).length ≤ 1048576)).symm with h12 | h12
  ·have hE : fV c = .tuple ⟨[.string ⟨⟨[]⟩⟩, .int .i64 3]⟩ := by rw [fV, if_pos hP, if_neg h12]
   refine aV rfl rfl rfl (by exact bV V48 rfl gP rfl mA (by exact bQ rfl) (by exact bZ)) ?_
   refine oc aOl oV (fun H hH => (oT hH.lt (px.gr hH.gr) (fun hp => nE px hp)).mono fun u H' _ h => ⟨h.1.trans hE, h.2⟩) ?_
   refine om rfl <| bS rfl rfl rfl rfl <| bS rfl rfl rfl rfl <| oa rfl <| oa rfl <| rC <| aV rfl rfl rfl (by exact bV V48 rfl gP rfl mA (by exact bQ rfl) (by exact bZ)) ?_
   refine oc aXg oV (fun H hH => (uL hH.lt (px.gr hH.gr) (fun hp => nE px hp)).mono fun u H' _ h => ⟨h.1.trans hE, h.2⟩) ?_
   refine om rfl <| bS rfl rfl rfl rfl <| bS rfl rfl rfl rfl <| oa rfl <| oa rfl <| tq <| rB <| om rfl <| om rfl <| ob rfl (by exact bP (by rfl)) ?_
   refine om rfl <| om rfl <| om rfl <| ob rfl (by exact kC rfl) ?_
   refine pQ rfl <| aB <| aG rfl <| aJ <| aD <| aH <| rB <| om rfl <| ob rfl (by exact cL (by omega)) ?_
   refine aB <| aG rfl <| aJ <| aD <| rB <| oc aUu oV (fun H hH => haw H) ?_
   refine oa rfl <| aB <| aT <| aE (.tmp rfl .nil) ?_
   exact fun H hH => ⟨rfl, hH.kept⟩
  ·have hE : fV c = .tuple ⟨[.string ⟨⟨dE (aA editIts c)⟩⟩, .int .i64 0]⟩ := by rw [fV, if_pos hP, if_pos h12]
   refine aV rfl rfl rfl (by exact bV V48 rfl gP rfl mA (by exact bQ rfl) (by exact bZ)) ?_
   refine oc aOl oV (fun H hH => (oT hH.lt (px.gr hH.gr) (fun hp => nE px hp)).mono fun u H' _ h => ⟨h.1.trans hE, h.2⟩) ?_
   refine om rfl <| bS rfl rfl rfl rfl <| bS rfl rfl rfl rfl <| oa rfl <| oa rfl <| rC <| aV rfl rfl rfl (by exact bV V48 rfl gP rfl mA (by exact bQ rfl) (by exact bZ)) ?_
   refine oc aXg oV (fun H hH => (uL hH.lt (px.gr hH.gr) (fun hp => nE px hp)).mono fun u H' _ h => ⟨h.1.trans hE, h.2⟩) ?_
   refine om rfl <| bS rfl rfl rfl rfl <| bS rfl rfl rfl rfl <| oa rfl <| oa rfl <| tq <| rB <| om rfl <| om rfl <| ob rfl (by exact bP (by rfl)) ?_
   refine om rfl <| om rfl <| om rfl <| ob rfl (by exact kC rfl) ?_
   refine pQ rfl <| aB <| aG rfl <| aJ <| aD <| aH <| rB <| om rfl <| ob rfl (by exact cM (by rfl)) ?_
   refine aB <| aO rfl <| rB <| om rfl <| aQt (fun u H1 A1 => ∃ f, u = .tuple ⟨[.agg ⟨cellsOf 84 f⟩, .int .i64 0]⟩ ∧ Pts A1 H1 jQ f c) rfl rfl nM rfl has6 oV (fun H hH => (aLz w hP h12.1 h12.2).mono fun v H' _ ⟨f, e, p, k⟩ => ⟨k, f, e, p.gr ⟨fun j hj => .inr hj, fun _ _ => rfl, rfl⟩⟩) ?_
   rintro _ H5 A5 g5 ⟨f, rfl, pf⟩
   refine om rfl <| bS rfl rfl rfl rfl <| bS rfl rfl rfl rfl <| bR (cs := (.int .i64 0 :: .int .i64 0 :: .int .i64 0 :: .int .i64 0 :: .int .i64 0 :: .int .i64 0 :: .string ⟨#[]⟩ :: .string ⟨#[]⟩ :: .int .i64 0 :: .int .i64 0 :: .int .i64 0 :: .string ⟨#[]⟩ :: .bool false :: .bool false :: .bool false :: .int .i64 0 :: .int .i64 0 :: .int .i64 0 :: .int .i64 0 :: .slice none 0 0 :: .int .i64 0 :: .int .i64 0 :: .int .i64 0 :: .int .i64 0 :: .int .i64 0 :: .int .i64 0 :: .int .i64 0 :: .int .i64 0 :: .int .i64 0 :: .slice none 0 0 :: .int .i64 0 :: .int .i64 0 :: .int .i64 0 :: .int .i64 0 :: .int .i64 0 :: .slice none 0 0 :: .int .i64 0 :: .slice none 0 0 :: .slice none 0 0 :: .int .i64 0 :: .int .i64 0 :: .int .i64 0 :: .int .i64 0 :: .string ⟨#[]⟩ :: .int .i64 0 :: .int .i64 0 :: .int .i64 0 :: .int .i64 0 :: .int .i64 0 :: .int .i64 0 :: .slice none 0 0 :: .int .i64 0 :: .int .i64 0 :: .slice none 0 0 :: .int .i64 0 :: .int .i64 0 :: .slice none 0 0 :: .int .i64 0 :: .int .i64 0 :: .int .i64 0 :: .int .i64 0 :: .int .i64 0 :: .int .i64 0 :: .int .i64 0 :: .int .i64 0 :: .int .i64 0 :: .int .i64 0 :: .int .i64 0 :: .int .i64 0 :: .int .i64 0 :: .int .i64 0 :: .slice none 0 0 :: .bool false :: .slice none 0 0 :: .int .i64 0 :: .int .i64 0 :: .int .i64 0 :: .int .i64 0 :: .int .i64 0 :: .int .i64 0 :: .int .i64 0 :: .int .i64 0 :: .int .i64 0 :: .int .i64 0 :: [])) rfl rfl nM gP rfl rfl ?_
   intro N7
   refine bX rfl nM rfl rfl gP (by exact aU _ _) (pf.cells (n := 84) rfl).one uP (cF rfl) (by exact cH rfl rfl) nM ?_
   refine oa rfl <| tq <| rB <| om rfl <| ob rfl (by exact bP (by rfl)) ?_
   refine om rfl <| aV rfl rfl rfl (by exact bV V48 rfl gP rfl mA (by exact bQ rfl) (by exact bZ)) ?_
   refine aV rfl rfl rfl (by exact bV V48 rfl gP rfl mA (by exact bQ rfl) (by exact bZ)) ?_
   refine oc has7 oV (fun H hH => aPk hH.lt (pf.gr hH.gr) ((px.gr g5).gr hH.gr)) ?_
   refine eZ rfl rfl rfl rfl <| pQ rfl <| aB <| aG rfl <| aJ <| aD <| rB <| aV rfl rfl rfl (by exact bV V48 rfl gP rfl mA (by exact bQ rfl) (by exact bZ)) ?_
   refine oc aOl oV (fun H hH => (oT hH.lt (pf.gr hH.gr) (fun hp => nE px hp)).mono fun u H' _ h => ⟨h.1.trans hE, h.2⟩) ?_
   refine om rfl <| bS rfl rfl rfl rfl <| bS rfl rfl rfl rfl <| oa rfl <| oa rfl <| rC <| om rfl <| ob rfl (by exact bP (by rfl)) ?_
   refine om rfl <| om rfl <| om rfl <| ob rfl (by exact kC rfl) ?_
   refine pQ rfl <| aB <| aG rfl <| aJ <| aD <| rB <| oc aUu oV (fun H hH => haw H) ?_
   refine oa rfl <| aB <| aT <| aE (.tmp rfl .nil) ?_
   exact fun H hH => ⟨rfl, hH.kept⟩
end Go.Proofs.YteklajiaicmogaaGreatDoor
