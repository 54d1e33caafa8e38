/-
  Digits.
-/
import Derived.Test.YthgfcpgjabodoaaGreatDoorW2
import Derived.Test.YthgfcpgjabodoaaGreatDoorShelf2
import Derived.Test.YthgfcpgjabodoaaGreatDoorAb9
set_option linter.unusedVariables false
set_option linter.unusedSimpArgs false
set_option linter.unusedSectionVars false
set_option maxRecDepth 100000
namespace Go.Proofs.YthgfcpgjabodoaaGreatDoor
open Go Go.AM
/-- the tag of a row that a text begins -/
def zU (u : Nat) : Nat := if u < 100 then fK + 5 else 1
def zI (i : Int) : Nat := if i < 0 then 1 else zU i.toNat
theorem zU_ok (u : Nat) : Bz (zU u) := by
 unfold zU
 split
 ·exact .inr rfl
 ·exact .inl rfl
theorem aQw (i : Int) : Bz (zI i) := by
 unfold zI
 split
 ·exact .inl rfl
 ·exact zU_ok _
theorem u64w (n : Int) : IntKind.u64.wrap n = n % 18446744073709551616 := rfl
theorem eA (u : Nat) : Lib.decDigits u ≠ [] := by
 rw [Lib.decDigits]
 split
 ·simp
 ·simp
theorem uN (i : Int) : Lib.itoa i ≠ [] := by
 unfold Lib.itoa
 split
 ·simp
 ·exact eA _
def shB (b : Bool) : List UInt8 := if b then [116, 114, 117, 101] else [102, 97, 108, 115, 101]
theorem ndk : ∀ (k u : Nat), u < 10 ^ (k + 1) → Lib.nDigits u ≤ k + 1
 | 0, u, h => by rw [Lib.nDigits_small (by simpa using h)]; exact Nat.le_refl _
 | k + 1, u, h => by
  by_cases h0 : u < 10
  ·rw [Lib.nDigits_small h0]; omega
  ·rw [Lib.nDigits_big h0]
   have := ndk k (u / 10) (by rw [Nat.pow_succ] at h; omega)
   omega
theorem aPl {u : Nat} (h : u < 18446744073709551616) : Lib.nDigits u ≤ 20 := ndk 19 u (by omega)
theorem aPy {u v' : Nat} {dk : Array UInt8} (h : Lib.FmtInv (Lib.nDigits u) u 0 v' dk) (hs : dk.size = Lib.nDigits u) : dk.toList = Lib.decDigits u := by
 have hl : (Lib.decDigits u).length = Lib.nDigits u := Lib.decDigits_length u
 refine List.ext_getElem (by rw [Array.length_toList, hs, hl]) fun j h1 h2 => ?_
 rw [Lib.row_is_numeral h j h2, Array.getElem_toList, getElem!_pos dk j (by rw [hs, ← hl]; exact h2)]
section
variable [σ : Sg]
theorem aOk {S : AH} {u : Nat} (hT : Tab S) (h1 : 1 ≤ u) (h2 : u < 18446744073709551616) : XCall Tryz.prog 57 [.int .u64 (u : Int)] S fun v H' => v = .int .i64 ((Lib.nDigits u : Nat) : Int) ∧ Kept S.nx S H' := by
 refine ⟨_, S, ⟨rfl, Kept.refl _ _⟩, rfl, fun π φ args' w hv hR => ?_⟩
 obtain rfl := gS hv rfl
 refine (Tryz.internal_strconv_numDigits u h1 h2 w (hT.later hR.below)).mono ?_
 rintro e w' ⟨rfl, rfl⟩
 exact ⟨φ, _, _, S, List.prefix_refl _, rfl, .int _ _, hR, rfl, rfl, rfl⟩
theorem aOs {S : AH} {u : Nat} (h : u < 100) : XCall Tryz.prog 56 [.int .i64 (u : Int)] S fun v H' => v = .string ⟨(Lib.decDigits u).toArray⟩ ∧ Kept S.nx S H' := by
 refine ⟨_, S, ⟨rfl, Kept.refl _ _⟩, rfl, fun π φ args' w hv hR => ?_⟩
 obtain rfl := gS hv rfl
 refine (Tryz.internal_strconv_small u h w).mono ?_
 rintro e w' ⟨rfl, rfl⟩
 exact ⟨φ, _, _, S, List.prefix_refl _, rfl, .string _, hR, rfl, rfl, rfl⟩
theorem aRb {S : AH} {N u : Nat} {ex : Bool} (hg : S.tr.get N = some (.cells (List.replicate 24 (.int .u8 0)) 1 ex)) (h1 : Lib.nDigits u ≤ 24) (h2 : u < 18446744073709551616) :
 XCall Tryz.prog 58 [.slice (some ⟨2 * N + 1, 0, none⟩) (Lib.nDigits u) 24, .int .u64 (u : Int)] S fun v H' => v = .tuple ⟨[]⟩ ∧ H' = { S with tr := S.tr.set N (some (.cells ((Lib.decDigits u).map aN ++ List.replicate (24 - Lib.nDigits u) (.int .u8 0)) 1 ex)) } := by
 have hp : 0 < Lib.nDigits u := by rw [← Lib.decDigits_length u]; exact List.length_pos_iff.2 (eA u)
 refine ⟨_, _, ⟨rfl, rfl⟩, rfl, fun π φ args' w hv hR => ?_⟩
 match args', hv with
 | [a, b], hv =>
  have hb := hv.tail.head
  cases hb
  obtain ⟨p, cap, hp1, rfl, hH⟩ := aHk (ds := Array.replicate (Lib.nDigits u) (0 : UInt8)) hR hg (fun j hj => by
   rw [Array.size_replicate] at hj
   rw [List.getElem?_replicate, if_pos (by omega), getElem!_pos _ j (by simpa using hj)]
   simp [aN]) Array.size_replicate hp (by simpa using h1) hv.head
  have := Tryz.internal_strconv_formatBase10 p.blk p.base cap u _ w hH (by rw [Array.size_replicate]; exact Lib.lt_pow_nDigits u) h2 (by rw [Array.size_replicate]; omega)
  rw [Array.size_replicate] at this
  refine this.mono ?_
  rintro e w' ⟨rfl, n, v', dk, rfl, hF⟩
  have hs : dk.size = Lib.nDigits u := hF.size
  have hd := aPy hF hs
  have := aIr (n := n) hR hg hp1 (dk := dk) (by rw [hs]; simpa using h1)
  rw [hd, hs, List.drop_replicate] at this
  exact ⟨φ, _, _, _, List.prefix_refl _, rfl, VR.tuple' (VRs.nil φ), this, rfl, rfl, rfl⟩
 | [], hv => have := hv.1; simp at this
 | [_], hv => have := hv.1; simp at this
 | _ :: _ :: _ :: _, hv => have := hv.1; simp at this
end
end Go.Proofs.YthgfcpgjabodoaaGreatDoor
namespace Go.Proofs.YthgfcpgjabodoaaGreatDoor
open Go Go.AM
theorem aJl {S : AH} {M z u : Nat} {bs : List UInt8} (hT : Tab S) (hu : u < 18446744073709551616) (hz : Bz z) (hb : bs.length ≤ 1099511000100) (hin : ∀ p ∈ bro M z bs, S.tr.get p.1 = some p.2 ∧ p.1 < S.nx) : XCall Tryz.prog 109 [bsv M bs, .int .u64 (u : Int), .int .i64 10] S fun v H' => ∃ Lo, Turned (bro M z bs) S H' Lo ∧ ∃ M2, v = bsv M2 (bs ++ Lib.decDigits u) ∧ Lo = bro M2 (zx z bs (zU u)) (bs ++ Lib.decDigits u) := by
 have hdl : (Lib.decDigits u).length = Lib.nDigits u := Lib.decDigits_length u
 have hd20 : Lib.nDigits u ≤ 20 := aPl hu
 have hd1 : 0 < Lib.nDigits u := by rw [← hdl]; exact List.length_pos_iff.2 (eA u)
 refine eQ (E := E) (Li := bro M z bs) (n := 36) (rs := [.tmp 6]) (l := [(2, _), (1, _), (0, _)]) (aV Tryz.func109 rfl rfl rfl) hin (by cases bs with | nil => exact List.Pairwise.nil | cons b bs => exact List.pairwise_singleton _ _) rfl ?_
 refine aE ?_
 refine aB (E := E) ?_
 refine aC rfl rfl rfl ?_
 refine aD ?_
 refine aE ?_
 refine aE ?_
 refine aB (E := E) ?_
 refine aA rfl rfl rfl ?_
 refine aG rfl rfl rfl rfl (by first | exact bN (by first | rfl | assumption | omega) | exact bJ (by first | rfl | assumption | omega)) ?_
 refine aD ?_
 refine bX rfl ?_
 refine aE ?_
 refine aE ?_
 rcases Nat.lt_or_ge u 100 with h | h
 ·skip
  have ez : zU u = fK + 5 := if_pos h
  refine aB (E := E) ?_
  refine aA rfl rfl rfl ?_
  refine aG rfl rfl rfl rfl (by first | exact aW (by omega) | exact aS (by omega)) ?_
  refine aD ?_
  refine bX rfl ?_
  refine aE ?_
  refine aB (E := E) ?_
  refine aA rfl rfl rfl ?_
  refine aA rfl rfl rfl ?_
  refine qO rfl rfl rfl Tryz.underlying144 Tryz.underlying3 (b := ((u : Nat) : Int)) (aK (by omega) (by omega)) ?_
  refine bO rfl rfl (fun h => nomatch h) rfl has56 (by repeat (first | exact Opvs.nil | apply Opvs.cons rfl)) (fun H hH => aOs h) ?_
  refine uU (nw := Lib.decDigits u) rfl rfl (fun h => nomatch h) rfl rfl rfl rfl rfl (by first | rfl | simp) Tryz.underlying75 Tryz.underlying9 mJ rfl rfl rfl (eA u) Takes.self hz (by omega) (fun h => nomatch h) ?_
  intro M2
  refine aC rfl rfl rfl ?_
  refine aD ?_
  refine cI ?_
  refine bT ?_
  refine bT ?_
  refine bH (.tmp rfl .nil) ?_
  exact fun H hH => ⟨_, (hH.subl (List.sublist_append_left _ _)).turned (Gr.refl _ _) (by rw [cN (by simp [eA])]; exact ⟨_, List.Mem.head _⟩), _, rfl, by rw [ez]⟩
 ·skip
  have ez : zU u = 1 := if_neg (by omega)
  refine aB (E := E) ?_
  refine aA rfl rfl rfl ?_
  refine aG rfl rfl rfl rfl (by first | exact aW (by omega) | exact aS (by omega)) ?_
  refine aD ?_
  refine aM rfl ?_
  refine aX ?_
  refine aQ ?_
  refine aE ?_
  refine aB (E := E) ?_
  refine cZ (cs := (.int .u8 0 :: .int .u8 0 :: .int .u8 0 :: .int .u8 0 :: .int .u8 0 :: .int .u8 0 :: .int .u8 0 :: .int .u8 0 :: .int .u8 0 :: .int .u8 0 :: .int .u8 0 :: .int .u8 0 :: .int .u8 0 :: .int .u8 0 :: .int .u8 0 :: .int .u8 0 :: .int .u8 0 :: .int .u8 0 :: .int .u8 0 :: .int .u8 0 :: .int .u8 0 :: .int .u8 0 :: .int .u8 0 :: .int .u8 0 :: [])) rfl rfl (fun h => nomatch h) aSi rfl rfl ?_
  intro N7
  refine aD ?_
  refine aE ?_
  refine aB (E := E) ?_
  refine aA rfl rfl rfl ?_
  refine bO rfl rfl (fun h => nomatch h) rfl has57 (by repeat (first | exact Opvs.nil | apply Opvs.cons rfl)) (fun H hH => aOk (hT.at hH.kept.w0.symm) (by omega) hu) ?_
  refine aC rfl rfl rfl ?_
  refine aD ?_
  refine aE ?_
  refine aB (E := E) ?_
  refine aA rfl rfl rfl ?_
  refine yP rfl rfl rfl Tryz.underlying143 mJ (by repeat (first | exact List.Mem.head _ | apply List.Mem.tail | apply List.mem_append_right)) rfl (by first | rfl | exact Nat.ble_eq_true_of_le (by simp; omega)) (xY (by omega)) ?_
  refine aA rfl rfl rfl ?_
  refine aMb (N := N7) rfl rfl (fun h => nomatch h) rfl has58 (by repeat (first | exact Opvs.nil | apply Opvs.cons rfl)) (by repeat (first | exact .zero | apply Upd.succ)) (fun h => nomatch h) (fun H hH => aRb (hH.own _ (by repeat (first | exact List.Mem.head _ | apply List.Mem.tail | apply List.mem_append_right))).1 (by omega) hu) ?_
  refine aD ?_
  refine aE ?_
  refine aB (E := E) ?_
  refine aA rfl rfl rfl ?_
  refine aA rfl rfl rfl ?_
  refine yP rfl rfl rfl Tryz.underlying143 mJ (by repeat (first | exact List.Mem.head _ | apply List.Mem.tail | apply List.mem_append_right)) rfl (by first | rfl | exact Nat.ble_eq_true_of_le (by simp; omega)) (xY (by omega)) ?_
  refine kX (nw := Lib.decDigits u) rfl rfl (fun h => nomatch h) rfl rfl rfl rfl rfl Tryz.underlying75 Tryz.underlying75 rfl mJ rfl rfl rfl (eA u) (by rw [hdl]; exact aHr (K := N7) (sz' := 1) (ex := true) (new := (Lib.decDigits u).map aN) (rest := List.replicate (24 - Lib.nDigits u) (.int .u8 0)) (List.Mem.head _) ((List.length_map _).trans hdl)) (by repeat (first | exact Takes.nil | exact Takes.app | exact Takes.self | apply Takes.skip)) hz (by omega) (fun h => nomatch h) ?_
  intro M2
  refine aC rfl rfl rfl ?_
  refine aD ?_
  refine cI ?_
  refine bT ?_
  refine bH (.tmp rfl .nil) ?_
  exact fun H hH => ⟨_, (hH.subl (List.sublist_append_left _ _)).turned (Gr.refl _ _) (by rw [cN (by simp [eA])]; exact ⟨_, List.Mem.head _⟩), _, rfl, by rw [ez]⟩
theorem aRz {S : AH} {M z : Nat} {i : Int} {bs : List UInt8} (hT : Tab S) (h0 : -9223372036854775808 ≤ i) (h1 : i ≤ 9223372036854775807) (hz : Bz z) (hb : bs.length ≤ 1099511000000) (hin : ∀ p ∈ bro M z bs, S.tr.get p.1 = some p.2 ∧ p.1 < S.nx) : XCall Tryz.prog 65 [bsv M bs, .int .i64 i, .int .i64 10] S fun v H' => ∃ Lo, Turned (bro M z bs) S H' Lo ∧ ∃ M2, v = bsv M2 (bs ++ Lib.itoa i) ∧ Lo = bro M2 (zx z bs (zI i)) (bs ++ Lib.itoa i) := by
 refine eQ (E := E) (Li := bro M z bs) (n := 21) (rs := [.tmp 6]) (l := [(2, _), (1, _), (0, _)]) (aV Tryz.func65 rfl rfl rfl) hin (by cases bs with | nil => exact List.Pairwise.nil | cons b bs => exact List.pairwise_singleton _ _) rfl ?_
 refine aE ?_
 refine aB (E := E) ?_
 refine aC rfl rfl rfl ?_
 refine aD ?_
 refine aE ?_
 rcases Int.lt_or_le i 0 with h | h
 ·skip
  obtain ⟨u, rfl⟩ : ∃ u : Nat, i = -((u : Nat) : Int) := ⟨i.natAbs, by omega⟩
  have e0 : Lib.itoa (-((u : Nat) : Int)) = 45 :: Lib.decDigits u := by rw [Lib.itoa, if_pos h, show (-((u : Nat) : Int)).natAbs = u by omega]
  have ez : zI (-((u : Nat) : Int)) = 1 := by rw [zI, if_pos h]
  refine aB (E := E) ?_
  refine aA rfl rfl rfl ?_
  refine qO rfl rfl rfl Tryz.underlying2 Tryz.underlying144 (b := (18446744073709551616 : Int) - ((u : Nat) : Int)) (by rw [u64w]; omega) ?_
  refine aC rfl rfl rfl ?_
  refine aD ?_
  refine aE ?_
  refine aE ?_
  refine aB (E := E) ?_
  refine aA rfl rfl rfl ?_
  refine aG rfl rfl rfl rfl (by first | exact aW (by omega) | exact aS (by omega)) ?_
  refine aD ?_
  refine bX rfl ?_
  refine aE ?_
  refine aB (E := E) ?_
  refine aA rfl rfl rfl ?_
  refine dN (out := [aN 45]) rfl rfl (fun h => nomatch h) (by repeat (first | exact Opps.nil | apply Opps.cons rfl)) Tryz.underlying75 mJ rfl rfl (by kernel_rfl) rfl rfl ?_
  intro N13
  refine kX (nw := [45]) rfl rfl (fun h => nomatch h) rfl rfl rfl rfl rfl Tryz.underlying75 Tryz.underlying75 rfl mJ rfl rfl rfl (by simp) (iP (List.Mem.head _) rfl) (by repeat (first | exact Takes.nil | exact Takes.app | exact Takes.self | apply Takes.skip)) hz (by simp; omega) (fun h => nomatch h) ?_
  intro M2
  refine aC rfl rfl rfl ?_
  refine aD ?_
  refine aB (E := E) ?_
  refine aA rfl rfl rfl ?_
  refine so_un rfl rfl rfl (show aun .neg (.int .u64 ((18446744073709551616 : Int) - ((u : Nat) : Int))) = some (.int .u64 ((u : Nat) : Int)) by simp only [aun]; congr 2; rw [u64w]; omega) ?_
  refine aC rfl rfl rfl ?_
  refine aD ?_
  refine aE ?_
  refine aB (E := E) ?_
  refine aA rfl rfl rfl ?_
  refine aA rfl rfl rfl ?_
  refine aA rfl rfl rfl ?_
  refine cK (Li := bro M2 (zx z bs 1) (bs ++ [45])) (fun u' Lo => ∃ M3, u' = bsv M3 ((bs ++ [45]) ++ Lib.decDigits u) ∧ Lo = bro M3 (zx (zx z bs 1) (bs ++ [45]) (zU u)) ((bs ++ [45]) ++ Lib.decDigits u)) rfl rfl (fun h => nomatch h) rfl aKc (by repeat (first | exact Opvs.nil | apply Opvs.cons rfl)) (by repeat (first | exact Takes.nil | exact Takes.app | exact Takes.self | apply Takes.skip)) (fun h => nomatch h) (fun H hH => aJl (hT.at hH.kept.w0.symm) (by omega) (hz.zx (.inl rfl) _) (by simp; omega) (hH.have fun p hp => List.mem_append_left _ hp)) ?_
  rintro _ _ ⟨M3, rfl, rfl⟩
  refine aC rfl rfl rfl ?_
  refine aD ?_
  refine cI ?_
  refine bH (.tmp rfl .nil) ?_
  exact fun H hH => ⟨_, (hH.subl (List.sublist_append_left _ _)).turned (Gr.refl _ _) (by rw [cN (by simp [eA])]; exact ⟨_, List.Mem.head _⟩), _, by rw [e0, List.append_assoc]; rfl, by rw [e0, ez, tJ (by simp), List.append_assoc]; rfl⟩
 ·skip
  obtain ⟨u, rfl⟩ : ∃ u : Nat, i = ((u : Nat) : Int) := ⟨i.toNat, by omega⟩
  have e0 : Lib.itoa ((u : Nat) : Int) = Lib.decDigits u := by rw [Lib.itoa, if_neg (by omega), show (((u : Nat) : Int)).toNat = u by omega]
  have ez : zI ((u : Nat) : Int) = zU u := by rw [zI, if_neg (by omega), show (((u : Nat) : Int)).toNat = u by omega]
  refine aB (E := E) ?_
  refine aA rfl rfl rfl ?_
  refine qO rfl rfl rfl Tryz.underlying2 Tryz.underlying144 (b := ((u : Nat) : Int)) (by exact aEw _ (by omega) (by omega)) ?_
  refine aC rfl rfl rfl ?_
  refine aD ?_
  refine aE ?_
  refine aE ?_
  refine aB (E := E) ?_
  refine aA rfl rfl rfl ?_
  refine aG rfl rfl rfl rfl (by first | exact aW (by omega) | exact aS (by omega)) ?_
  refine aD ?_
  refine aM rfl ?_
  refine aX ?_
  refine aQ ?_
  refine aE ?_
  refine aB (E := E) ?_
  refine aA rfl rfl rfl ?_
  refine aA rfl rfl rfl ?_
  refine aA rfl rfl rfl ?_
  refine cK (Li := bro M z bs) (fun r Lo => ∃ M2, r = bsv M2 (bs ++ Lib.decDigits u) ∧ Lo = bro M2 (zx z bs (zU u)) (bs ++ Lib.decDigits u)) rfl rfl (fun h => nomatch h) rfl aKc (by repeat (first | exact Opvs.nil | apply Opvs.cons rfl)) (by repeat (first | exact Takes.nil | exact Takes.app | exact Takes.self | apply Takes.skip)) (fun h => nomatch h) (fun H hH => aJl (hT.at hH.kept.w0.symm) (by omega) hz (by omega) (hH.have fun p hp => hp)) ?_
  rintro _ _ ⟨M2, rfl, rfl⟩
  refine aC rfl rfl rfl ?_
  refine aD ?_
  refine cI ?_
  refine bH (.tmp rfl .nil) ?_
  exact fun H hH => ⟨_, (hH.subl (List.sublist_append_left _ _)).turned (Gr.refl _ _) (by rw [cN (by simp [eA])]; exact ⟨_, List.Mem.head _⟩), _, by rw [e0], by rw [e0, ez]⟩
theorem aRo {S : AH} {M z : Nat} {i : Int} {bs : List UInt8} (hT : Tab S) (h0 : -9223372036854775808 ≤ i) (h1 : i ≤ 9223372036854775807) (hz : Bz z) (hb : bs.length ≤ 1099511000000) (hin : ∀ p ∈ bro M z bs, S.tr.get p.1 = some p.2 ∧ p.1 < S.nx) : XCall Tryz.prog 35 [bsv M bs, .int .i64 i, .int .i64 10] S fun v H' => ∃ Lo, Turned (bro M z bs) S H' Lo ∧ ∃ M2, v = bsv M2 (bs ++ Lib.itoa i) ∧ Lo = bro M2 (zx z bs (zI i)) (bs ++ Lib.itoa i) := by
 refine eQ (E := E) (Li := bro M z bs) (n := 11) (rs := [.tmp 6]) (l := [(2, _), (1, _), (0, _)]) (aV Tryz.func35 rfl rfl rfl) hin (by cases bs with | nil => exact List.Pairwise.nil | cons b bs => exact List.pairwise_singleton _ _) rfl ?_
 refine aE ?_
 refine aB (E := E) ?_
 refine aC rfl rfl rfl ?_
 refine aD ?_
 refine aE ?_
 refine aB (E := E) ?_
 refine aA rfl rfl rfl ?_
 refine aA rfl rfl rfl ?_
 refine aA rfl rfl rfl ?_
 refine cK (Li := bro M z bs) (fun r Lo => ∃ M2, r = bsv M2 (bs ++ Lib.itoa i) ∧ Lo = bro M2 (zx z bs (zI i)) (bs ++ Lib.itoa i)) rfl rfl (fun h => nomatch h) rfl has65 (by repeat (first | exact Opvs.nil | apply Opvs.cons rfl)) (by repeat (first | exact Takes.nil | exact Takes.app | exact Takes.self | apply Takes.skip)) (fun h => nomatch h) (fun H hH => aRz (hT.at hH.kept.w0.symm) h0 h1 hz hb (hH.have fun p hp => hp)) ?_
 rintro _ _ ⟨M2, rfl, rfl⟩
 refine aC rfl rfl rfl ?_
 refine aD ?_
 refine cI ?_
 refine bH (.tmp rfl .nil) ?_
 exact fun H hH => ⟨_, (hH.subl (List.sublist_append_left _ _)).turned (Gr.refl _ _) (by rw [cN (by simp [uN])]; exact ⟨_, List.Mem.head _⟩), _, rfl, rfl⟩
theorem aSc {S : AH} {M z : Nat} {b : Bool} {bs : List UInt8} (hz : Bz z) (hb : bs.length ≤ 1099511000000) (hin : ∀ p ∈ bro M z bs, S.tr.get p.1 = some p.2 ∧ p.1 < S.nx) : XCall Tryz.prog 66 [bsv M bs, .bool b] S fun v H' => ∃ Lo, Turned (bro M z bs) S H' Lo ∧ ∃ M2, v = bsv M2 (bs ++ shB b) ∧ Lo = bro M2 (zx z bs (fK + 5)) (bs ++ shB b) := by
 refine eQ (E := E) (Li := bro M z bs) (n := 10) (rs := [.tmp 4]) (l := [(1, _), (0, _)]) (aV Tryz.func66 rfl rfl rfl) hin (by cases bs with | nil => exact List.Pairwise.nil | cons b bs => exact List.pairwise_singleton _ _) rfl ?_
 refine aE ?_
 refine aB (E := E) ?_
 refine aC rfl rfl rfl ?_
 refine aD ?_
 refine aE ?_
 refine aE ?_
 cases b
 ·skip
  refine aB (E := E) ?_
  refine aA rfl rfl rfl ?_
  refine aD ?_
  refine aM rfl ?_
  refine aX ?_
  refine aQ ?_
  refine aE ?_
  refine aB (E := E) ?_
  refine aA rfl rfl rfl ?_
  refine uU (nw := shB false) rfl rfl (fun h => nomatch h) rfl rfl rfl rfl rfl (by first | rfl | simp) Tryz.underlying75 Tryz.underlying9 mJ rfl rfl rfl (by simp [shB]) (by repeat (first | exact Takes.nil | exact Takes.app | exact Takes.self | apply Takes.skip)) hz (by (simp [shB]; omega)) (fun h => nomatch h) ?_
  intro M2
  refine aC rfl rfl rfl ?_
  refine aD ?_
  refine cI ?_
  refine bH (.tmp rfl .nil) ?_
  exact fun H hH => ⟨_, (hH.subl (List.sublist_append_left _ _)).turned (Gr.refl _ _) (by rw [cN (by simp [shB])]; exact ⟨_, List.Mem.head _⟩), _, rfl, rfl⟩
 ·skip
  refine aB (E := E) ?_
  refine aA rfl rfl rfl ?_
  refine aD ?_
  refine bX rfl ?_
  refine aE ?_
  refine aB (E := E) ?_
  refine aA rfl rfl rfl ?_
  refine uU (nw := shB true) rfl rfl (fun h => nomatch h) rfl rfl rfl rfl rfl (by first | rfl | simp) Tryz.underlying75 Tryz.underlying9 mJ rfl rfl rfl (by simp [shB]) (by repeat (first | exact Takes.nil | exact Takes.app | exact Takes.self | apply Takes.skip)) hz (by (simp [shB]; omega)) (fun h => nomatch h) ?_
  intro M2
  refine aC rfl rfl rfl ?_
  refine aD ?_
  refine cI ?_
  refine bT ?_
  refine bH (.tmp rfl .nil) ?_
  exact fun H hH => ⟨_, (hH.subl (List.sublist_append_left _ _)).turned (Gr.refl _ _) (by rw [cN (by simp [shB])]; exact ⟨_, List.Mem.head _⟩), _, rfl, rfl⟩
theorem aRe {S : AH} {M z : Nat} {b : Bool} {bs : List UInt8} (hz : Bz z) (hb : bs.length ≤ 1099511000000) (hin : ∀ p ∈ bro M z bs, S.tr.get p.1 = some p.2 ∧ p.1 < S.nx) : XCall Tryz.prog 36 [bsv M bs, .bool b] S fun v H' => ∃ Lo, Turned (bro M z bs) S H' Lo ∧ ∃ M2, v = bsv M2 (bs ++ shB b) ∧ Lo = bro M2 (zx z bs (fK + 5)) (bs ++ shB b) := by
 refine eQ (E := E) (Li := bro M z bs) (n := 8) (rs := [.tmp 4]) (l := [(1, _), (0, _)]) (aV Tryz.func36 rfl rfl rfl) hin (by cases bs with | nil => exact List.Pairwise.nil | cons b bs => exact List.pairwise_singleton _ _) rfl ?_
 refine aE ?_
 refine aB (E := E) ?_
 refine aC rfl rfl rfl ?_
 refine aD ?_
 refine aE ?_
 refine aB (E := E) ?_
 refine aA rfl rfl rfl ?_
 refine aA rfl rfl rfl ?_
 refine cK (Li := bro M z bs) (fun r Lo => ∃ M2, r = bsv M2 (bs ++ shB b) ∧ Lo = bro M2 (zx z bs (fK + 5)) (bs ++ shB b)) rfl rfl (fun h => nomatch h) rfl has66 (by repeat (first | exact Opvs.nil | apply Opvs.cons rfl)) (by repeat (first | exact Takes.nil | exact Takes.app | exact Takes.self | apply Takes.skip)) (fun h => nomatch h) (fun H hH => aSc hz hb (hH.have fun p hp => hp)) ?_
 rintro _ _ ⟨M2, rfl, rfl⟩
 refine aC rfl rfl rfl ?_
 refine aD ?_
 refine cI ?_
 refine bH (.tmp rfl .nil) ?_
 exact fun H hH => ⟨_, (hH.subl (List.sublist_append_left _ _)).turned (Gr.refl _ _) (by rw [cN (by cases b <;> simp [shB])]; exact ⟨_, List.Mem.head _⟩), _, rfl, rfl⟩
end Go.Proofs.YthgfcpgjabodoaaGreatDoor
namespace Go.Proofs.YthgfcpgjabodoaaGreatDoor
open Go Go.AM
/-- what is printed: a number or a truth -/
inductive It where
 | num (i : Int)
 | tru (b : Bool)
def It.txt : It → List UInt8
 | .num i => Lib.itoa i
 | .tru b => shB b
def It.cs : It → List Value
 | .num i => [.int .i64 1, .int .i64 i, .string ⟨#[]⟩, .slice none 0 0]
 | .tru b => [.int .i64 3, .int .i64 (bif b then 1 else 0), .string ⟨#[]⟩, .slice none 0 0]
def It.ok : It → Prop
 | .num i => -9223372036854775808 ≤ i ∧ i ≤ 9223372036854775807
 | .tru _ => True
def It.z : It → Nat
 | .num i => zI i
 | .tru _ => fK + 5
theorem It.z_ok (x : It) : Bz x.z := by
 cases x with
 | num i => exact aQw i
 | tru b => exact .inr rfl
theorem It.cs_len (x : It) : x.cs.length = 4 := by cases x <;> rfl
theorem It.cs_one (x : It) : cO x.cs = true := by cases x <;> rfl
theorem It.cs_take (x : It) : (x.cs.drop 0).take 4 = x.cs := by cases x <;> rfl
theorem aDm (b : Bool) : shB b ≠ [] := by cases b <;> simp [shB]
theorem It.txt_ne (x : It) : x.txt ≠ [] := by
 cases x with
 | num i => exact uN i
 | tru b => exact aDm b
/-- the texts, with blanks between them -/
def ot : List It → List UInt8
 | [] => []
 | x :: r => x.txt ++ r.flatMap fun y => 32 :: y.txt
theorem aRk (x : It) : ot [x] = x.txt := by simp [ot]
theorem aOy {l : List It} (h : l ≠ []) (x : It) : ot (l ++ [x]) = ot l ++ 32 :: x.txt := by
 cases l with
 | nil => exact absurd rfl h
 | cons y r => simp [ot]
theorem aFv {l : List It} {k : Nat} {x : It} (hx : l[k]? = some x) : ot (l.take (k + 1)) = (if k = 0 then x.txt else ot (l.take k) ++ 32 :: x.txt) := by
 have hk := lt_of_getElem? hx
 rw [List.take_add_one, hx, Option.toList_some]
 split
 ·rename_i h; subst h; rw [List.take_zero, List.nil_append, aRk]
 ·rw [aOy]
  intro e
  have := congrArg List.length e
  rw [List.length_take, List.length_nil] at this
  omega
theorem aEx {l : List It} {k : Nat} : (ot (l.take k)).length ≤ (ot l).length := by
 cases l with
 | nil => simp [ot]
 | cons x r =>
  cases k with
  | zero => simp [ot]
  | succ k =>
   rw [List.take_succ_cons, ot, ot, List.length_append, List.length_append]
   have : (((r.take k).flatMap fun y => 32 :: y.txt) ++ ((r.drop k).flatMap fun y => 32 :: y.txt)).length = (r.flatMap fun y => 32 :: y.txt).length := by rw [← List.flatMap_append, List.take_append_drop]
   rw [List.length_append] at this
   omega
theorem aEt : ∀ {l : List It} {k : Nat} {x : It}, l[k]? = some x → ((l.flatMap It.cs).drop (k * 4)).take 4 = x.cs
 | [], k, x, h => by simp at h
 | y :: r, 0, x, h => by
  cases h
  rw [List.flatMap_cons, Nat.zero_mul, List.drop_zero, List.take_append_of_le_length (by rw [It.cs_len]; exact Nat.le_refl _)]
  have := y.cs_take
  rwa [List.drop_zero] at this
 | y :: r, k + 1, x, h => by
  rw [List.flatMap_cons, List.drop_append, show (k + 1) * 4 - y.cs.length = k * 4 by rw [It.cs_len]; omega, List.drop_eq_nil_of_le (by rw [It.cs_len]; omega), List.nil_append]
  exact aEt (by simpa using h)
theorem aFk (l : List It) : (l.flatMap It.cs).length = l.length * 4 := by
 induction l with
 | nil => rfl
 | cons x r ih => rw [List.flatMap_cons, List.length_append, ih, It.cs_len, List.length_cons]; omega
def zH (l : List It) : Nat := match l with
 | [] => 1
 | y :: _ => y.z
theorem aQy (l : List It) : Bz (zH l) := by
 cases l with
 | nil => exact .inl rfl
 | cons y l => exact y.z_ok
theorem aGf {l : List It} {y : It} (h : l[0]? = some y) : zH l = y.z := by
 cases l with
 | nil => simp at h
 | cons x l => cases h; rfl
theorem aGi {l : List It} {k : Nat} (h0 : 0 < k) (h : k ≤ l.length) : ot (l.take k) ≠ [] := by
 cases l with
 | nil => simp at h; omega
 | cons x l =>
  cases k with
  | zero => omega
  | succ k => rw [List.take_succ_cons, ot]; simp [x.txt_ne]
theorem aGj (M : Nat) (bs : List UInt8) : (bsv M bs).oneCell' = true := by cases bs <;> rfl
theorem att_n {S : AH} {M z : Nat} {i : Int} {bs : List UInt8} (hT : Tab S) (hx : It.ok (.num i)) (hz : Bz z) (hb : bs.length ≤ 16384) (hin : ∀ p ∈ bro M z bs, S.tr.get p.1 = some p.2 ∧ p.1 < S.nx) : XCall Tryz.prog 20 [bsv M bs, .agg ⟨It.cs (.num i)⟩, .int .i64 16384] S fun v H' => ∃ Lo, Turned (bro M z bs) S H' Lo ∧ ∃ M2, v = bsv M2 (bs ++ It.txt (.num i)) ∧ Lo = bro M2 (zx z bs (It.z (.num i))) (bs ++ It.txt (.num i)) := by
 obtain ⟨ga, hga⟩ := kM M bs
 refine eQ (E := E) (Li := bro M z bs) (n := 74) (rs := [.tmp 6]) (l := [(2, _), (1, _), (0, _)]) (aV Tryz.func20 rfl rfl rfl) hin (by cases bs with | nil => exact List.Pairwise.nil | cons b bs => exact List.pairwise_singleton _ _) rfl ?_
 refine aE ?_
 refine aB (E := E) ?_
 refine qJ rfl rfl (fun h => nomatch h) rfl ?_
 intro N4
 refine aC rfl rfl rfl ?_
 refine aD ?_
 refine aE ?_
 refine aE ?_
 refine aB (E := E) ?_
 refine aA rfl rfl rfl ?_
 refine aG rfl rfl rfl rfl (by first | exact jM (by omega) | exact jJ (by omega)) ?_
 refine aA rfl rfl rfl ?_
 first | refine aA rfl rfl rfl ?_ | refine aH rfl rfl rfl ?_
 refine iH rfl rfl rfl rfl rfl (show opv _ _ = some (.slice ga bs.length bs.length) by rw [← hga]; rfl) Tryz.underlying75 ?_
 first | refine aA rfl rfl rfl ?_ | refine aH rfl rfl rfl ?_
 first | refine aG rfl rfl rfl rfl (by first | exact bU (by omega) | exact aY (by omega)) ?_ | refine aH rfl rfl rfl ?_
 first | refine bA rfl rfl rfl rfl ?_ | refine bB rfl rfl rfl rfl ?_
 refine aD ?_
 refine aM rfl ?_
 refine aX ?_
 refine aQ ?_
 refine aE ?_
 refine aE ?_
 refine aB (E := E) ?_
 refine bG (o' := 0) rfl rfl rfl Tryz.underlying70 rfl kP rfl rfl ?_
 refine bL rfl rfl rfl (by first | exact cS Tryz.underlying3 rfl (by repeat (first | exact List.Mem.head _ | apply List.Mem.tail | apply List.mem_append_right)) (by first | exact aL rfl | rfl) | exact cG Tryz.underlying3 rfl (by first | assumption | exact InA.add (by assumption) | exact InA.add (InA.add (by assumption))) (by assumption)) ?_
 refine aD ?_
 refine bE ?_
 refine aE ?_
 refine aB (E := E) ?_
 refine aG rfl rfl rfl rfl (by first | exact bN (by first | rfl | assumption | omega) | exact bJ (by first | rfl | assumption | omega)) ?_
 refine aC rfl rfl rfl ?_
 refine aD ?_
 refine bX rfl ?_
 refine aE ?_
 refine aB (E := E) ?_
 refine aA rfl rfl rfl ?_
 refine bG (o' := 1) rfl rfl rfl Tryz.underlying70 rfl kP rfl rfl ?_
 refine bL rfl rfl rfl (by first | exact cS Tryz.underlying3 rfl (by repeat (first | exact List.Mem.head _ | apply List.Mem.tail | apply List.mem_append_right)) (by first | exact aL rfl | rfl) | exact cG Tryz.underlying3 rfl (by first | assumption | exact InA.add (by assumption) | exact InA.add (InA.add (by assumption))) (by assumption)) ?_
 refine cK (Li := bro M z bs) (fun r Lo => ∃ M2, r = bsv M2 (bs ++ Lib.itoa i) ∧ Lo = bro M2 (zx z bs (zI i)) (bs ++ Lib.itoa i)) rfl rfl (fun h => nomatch h) rfl has35 (by repeat (first | exact Opvs.nil | apply Opvs.cons rfl)) (by repeat (first | exact Takes.nil | exact Takes.app | exact Takes.self | apply Takes.skip)) (fun h => nomatch h) (fun H hH => aRo (hT.at hH.kept.w0.symm) hx.1 hx.2 hz (by omega) (hH.have fun p hp => List.mem_cons_of_mem _ hp)) ?_
 rintro _ _ ⟨M2, rfl, rfl⟩
 refine aC rfl rfl rfl ?_
 refine aD ?_
 refine cI ?_
 refine cA ?_
 refine bT ?_
 refine bH (.tmp rfl .nil) ?_
 exact fun H hH => ⟨_, (hH.subl (List.sublist_append_left _ _)).turned (Gr.refl _ _) (by rw [cN (by simp [uN, aDm])]; exact ⟨_, List.Mem.head _⟩), _, rfl, rfl⟩
theorem att_b {S : AH} {M z : Nat} {b : Bool} {bs : List UInt8} (hT : Tab S) (hz : Bz z) (hb : bs.length ≤ 16384) (hin : ∀ p ∈ bro M z bs, S.tr.get p.1 = some p.2 ∧ p.1 < S.nx) : XCall Tryz.prog 20 [bsv M bs, .agg ⟨It.cs (.tru b)⟩, .int .i64 16384] S fun v H' => ∃ Lo, Turned (bro M z bs) S H' Lo ∧ ∃ M2, v = bsv M2 (bs ++ It.txt (.tru b)) ∧ Lo = bro M2 (zx z bs (It.z (.tru b))) (bs ++ It.txt (.tru b)) := by
 obtain ⟨ga, hga⟩ := kM M bs
 refine eQ (E := E) (Li := bro M z bs) (n := 74) (rs := [.tmp 6]) (l := [(2, _), (1, _), (0, _)]) (aV Tryz.func20 rfl rfl rfl) hin (by cases bs with | nil => exact List.Pairwise.nil | cons b bs => exact List.pairwise_singleton _ _) rfl ?_
 refine aE ?_
 refine aB (E := E) ?_
 refine qJ rfl rfl (fun h => nomatch h) rfl ?_
 intro N4
 refine aC rfl rfl rfl ?_
 refine aD ?_
 refine aE ?_
 refine aE ?_
 refine aB (E := E) ?_
 refine aA rfl rfl rfl ?_
 refine aG rfl rfl rfl rfl (by first | exact jM (by omega) | exact jJ (by omega)) ?_
 refine aA rfl rfl rfl ?_
 first | refine aA rfl rfl rfl ?_ | refine aH rfl rfl rfl ?_
 refine iH rfl rfl rfl rfl rfl (show opv _ _ = some (.slice ga bs.length bs.length) by rw [← hga]; rfl) Tryz.underlying75 ?_
 first | refine aA rfl rfl rfl ?_ | refine aH rfl rfl rfl ?_
 first | refine aG rfl rfl rfl rfl (by first | exact bU (by omega) | exact aY (by omega)) ?_ | refine aH rfl rfl rfl ?_
 first | refine bA rfl rfl rfl rfl ?_ | refine bB rfl rfl rfl rfl ?_
 refine aD ?_
 refine aM rfl ?_
 refine aX ?_
 refine aQ ?_
 refine aE ?_
 refine aE ?_
 refine aB (E := E) ?_
 refine bG (o' := 0) rfl rfl rfl Tryz.underlying70 rfl kP rfl rfl ?_
 refine bL rfl rfl rfl (by first | exact cS Tryz.underlying3 rfl (by repeat (first | exact List.Mem.head _ | apply List.Mem.tail | apply List.mem_append_right)) (by first | exact aL rfl | rfl) | exact cG Tryz.underlying3 rfl (by first | assumption | exact InA.add (by assumption) | exact InA.add (InA.add (by assumption))) (by assumption)) ?_
 refine aD ?_
 refine bE ?_
 refine aE ?_
 refine aB (E := E) ?_
 refine aG rfl rfl rfl rfl (by first | exact bN (by first | rfl | assumption | omega) | exact bJ (by first | rfl | assumption | omega)) ?_
 refine aC rfl rfl rfl ?_
 refine aD ?_
 refine aM rfl ?_
 refine aE ?_
 refine aB (E := E) ?_
 refine aG rfl rfl rfl rfl (by first | exact bN (by first | rfl | assumption | omega) | exact bJ (by first | rfl | assumption | omega)) ?_
 refine aC rfl rfl rfl ?_
 refine aD ?_
 refine aM rfl ?_
 refine aE ?_
 refine aB (E := E) ?_
 refine aG rfl rfl rfl rfl (by first | exact bN (by first | rfl | assumption | omega) | exact bJ (by first | rfl | assumption | omega)) ?_
 refine aC rfl rfl rfl ?_
 refine aD ?_
 refine bX rfl ?_
 refine aE ?_
 refine aB (E := E) ?_
 refine aA rfl rfl rfl ?_
 refine bG (o' := 1) rfl rfl rfl Tryz.underlying70 rfl kP rfl rfl ?_
 refine bL rfl rfl rfl (by first | exact cS Tryz.underlying3 rfl (by repeat (first | exact List.Mem.head _ | apply List.Mem.tail | apply List.mem_append_right)) (by first | exact aL rfl | rfl) | exact cG Tryz.underlying3 rfl (by first | assumption | exact InA.add (by assumption) | exact InA.add (InA.add (by assumption))) (by assumption)) ?_
 refine aG rfl rfl rfl rfl (by first | exact (show cT _ .neq _ (.int .i64 (bif b then 1 else 0)) (.int .i64 0) = some (.bool b) by cases b <;> rfl) | exact eV (by first | rfl | assumption | omega) | exact gJ (by first | rfl | assumption | omega)) ?_
 refine cK (Li := bro M z bs) (fun r Lo => ∃ M2, r = bsv M2 (bs ++ shB b) ∧ Lo = bro M2 (zx z bs (fK + 5)) (bs ++ shB b)) rfl rfl (fun h => nomatch h) rfl has36 (by repeat (first | exact Opvs.nil | apply Opvs.cons rfl)) (by repeat (first | exact Takes.nil | exact Takes.app | exact Takes.self | apply Takes.skip)) (fun h => nomatch h) (fun H hH => aRe hz (by omega) (hH.have fun p hp => List.mem_cons_of_mem _ hp)) ?_
 rintro _ _ ⟨M2, rfl, rfl⟩
 refine aC rfl rfl rfl ?_
 refine aD ?_
 refine cI ?_
 refine cA ?_
 refine bT ?_
 refine bH (.tmp rfl .nil) ?_
 exact fun H hH => ⟨_, (hH.subl (List.sublist_append_left _ _)).turned (Gr.refl _ _) (by rw [cN (by simp [uN, aDm])]; exact ⟨_, List.Mem.head _⟩), _, rfl, rfl⟩
theorem aAm {S : AH} {M z : Nat} {x : It} {bs : List UInt8} (hT : Tab S) (hx : x.ok) (hz : Bz z) (hb : bs.length ≤ 16384) (hin : ∀ p ∈ bro M z bs, S.tr.get p.1 = some p.2 ∧ p.1 < S.nx) : XCall Tryz.prog 20 [bsv M bs, .agg ⟨x.cs⟩, .int .i64 16384] S fun v H' => ∃ Lo, Turned (bro M z bs) S H' Lo ∧ ∃ M2, v = bsv M2 (bs ++ x.txt) ∧ Lo = bro M2 (zx z bs x.z) (bs ++ x.txt) := by
 cases x with
 | num i => exact att_n hT hx hz hb hin
 | tru b => exact att_b hT hz hb hin
theorem aLq {S : AH} {M z : Nat} {bs : List UInt8} (hb : bs.length ≤ 16384) (hin : ∀ p ∈ bro M z bs, S.tr.get p.1 = some p.2 ∧ p.1 < S.nx) : XCall Tryz.prog 239 [bsv M bs] S fun v H' => ∃ Lo, Fresh S H' Lo ∧ ∃ M1, v = bsv M1 bs ∧ Lo = bro M1 1 bs := by
 refine fD (E := E) (n := 8) (rs := [.tmp 2]) (l := [(0, _)]) (aV Tryz.func239 rfl rfl rfl) (A0 := ids (bro M z bs)) (fun j hj => by obtain ⟨p, hp, rfl⟩ := hj; exact (hin p hp).2) rfl ?_
 refine aE ?_
 refine aB (E := E) ?_
 refine aC rfl rfl rfl ?_
 refine aD ?_
 refine aE ?_
 refine aE ?_
 rcases bs with _ | ⟨b, bs⟩
 ·skip
  refine aB (E := E) ?_
  refine aA rfl rfl rfl ?_
  refine aG rfl rfl rfl rfl (by first | exact tN Tryz.underlying75 | exact tS Tryz.underlying75) ?_
  refine aD ?_
  refine bX rfl ?_
  refine aE ?_
  refine aB (E := E) ?_
  refine aC rfl rfl rfl ?_
  refine aD ?_
  refine cI ?_
  refine bT ?_
  refine bH (.tmp rfl .nil) ?_
  exact fun H hH => ⟨[], ⟨hH.kept, (fun p hp => by cases hp), List.Pairwise.nil⟩, 0, rfl, rfl⟩
 ·skip
  obtain ⟨hg, _⟩ := hin _ (List.Mem.head _)
  have hcl : aloads S ⟨2 * M + 1, 0, none⟩ ((b :: bs).length * 1) = some ((b :: bs).map aN) := by rw [fC hg 0 _ none (by simp), List.drop_zero, List.take_of_length_le (by simp)]
  refine aB (E := E) ?_
  refine aA rfl rfl rfl ?_
  refine aG rfl rfl rfl rfl (by first | exact tN Tryz.underlying75 | exact tS Tryz.underlying75) ?_
  refine aD ?_
  refine aM rfl ?_
  refine aX ?_
  refine aQ ?_
  refine aE ?_
  refine aB (E := E) ?_
  refine dN (out := []) rfl rfl (fun h => nomatch h) (by repeat (first | exact Opps.nil | apply Opps.cons rfl)) Tryz.underlying75 mJ rfl rfl (by kernel_rfl) rfl rfl ?_
  intro N5
  refine aA rfl rfl rfl ?_
  refine sY (m := (b :: bs).length) (bt := 1) rfl rfl (fun h => nomatch h) rfl rfl rfl rfl rfl Tryz.underlying75 Tryz.underlying75 rfl mJ rfl rfl (by decide) rfl (by simp) (aCx (InA.own ⟨_, List.Mem.head _, rfl⟩) hcl) (.inr ⟨N5, rfl, List.Mem.head _, rfl⟩) (jU (by omega)) (by omega) (List.nil_append _) (Nat.zero_add _) ?_
  intro M1
  refine aC rfl rfl rfl ?_
  refine aD ?_
  refine cI ?_
  refine bH (.tmp rfl .nil) ?_
  exact fun H hH => ⟨[_], ⟨hH.kept, (fun p hp => by rcases List.mem_singleton.1 hp with rfl; exact ⟨(hH.own _ (List.Mem.head _)).1, (hH.own _ (List.Mem.head _)).2.1, (hH.own _ (List.Mem.head _)).2.2.1⟩), List.pairwise_singleton _ _⟩, M1, rfl, rfl⟩
end Go.Proofs.YthgfcpgjabodoaaGreatDoor
namespace Go.Proofs.YthgfcpgjabodoaaGreatDoor
open Go Go.AM
set_option maxHeartbeats 2000000 in
theorem aKo {S : AH} {K M z R m cap sz : Nat} {ex : Bool} {x : Nat → Value} {bs : List UInt8} {its : List It} (hT : Tab S) (hok : ∀ y ∈ its, y.ok) (hm : its.length = m) (hmx : m ≤ 16384) (hm0 : m ≠ 0) (hz : Bz z) (hb : (bs ++ ot its).length < 16384) (hin : ∀ p ∈ ((K, .cells [x 0, x 1, x 2, x 3, x 4, x 5, x 6, x 7, x 8, x 9, x 10, bsv M bs, x 12, x 13, x 14, x 15, x 16, x 17, x 18, x 19, x 20] 1099511627854 true) :: bro M z bs : OL), S.tr.get p.1 = some p.2 ∧ p.1 < S.nx) (hd : ((K, .cells [x 0, x 1, x 2, x 3, x 4, x 5, x 6, x 7, x 8, x 9, x 10, bsv M bs, x 12, x 13, x 14, x 15, x 16, x 17, x 18, x 19, x 20] 1099511627854 true) :: bro M z bs : OL).Pairwise (fun p q => p.1 ≠ q.1)) (hR : S.tr.get R = some (.cells (its.flatMap It.cs) sz ex)) (hRl : R < S.nx) (hRn : ¬ ids ((K, .cells [x 0, x 1, x 2, x 3, x 4, x 5, x 6, x 7, x 8, x 9, x 10, bsv M bs, x 12, x 13, x 14, x 15, x 16, x 17, x 18, x 19, x 20] 1099511627854 true) :: bro M z bs) R) : XCall Tryz.prog 212 [.pointer (some ⟨2 * K + 1, 0, none⟩), .slice (some ⟨2 * R + 1, 0, none⟩) m cap] S fun v H' => ∃ Lo, Turned ((K, .cells [x 0, x 1, x 2, x 3, x 4, x 5, x 6, x 7, x 8, x 9, x 10, bsv M bs, x 12, x 13, x 14, x 15, x 16, x 17, x 18, x 19, x 20] 1099511627854 true) :: bro M z bs) S H' Lo ∧ v = .int .i64 0 ∧ ∃ M2, Lo = bro M2 (zx 1 bs (zH its)) (bs ++ ot its ++ [10]) ++ [(K, .cells [x 0, x 1, x 2, x 3, x 4, x 5, x 6, x 7, x 8, x 9, x 10, bsv M2 (bs ++ ot its ++ [10]), x 12, x 13, x 14, x 15, x 16, x 17, x 18, x 19, x 20] 1099511627854 true)] := by
 have hiA : InA (mQ S ((K, .cells [x 0, x 1, x 2, x 3, x 4, x 5, x 6, x 7, x 8, x 9, x 10, bsv M bs, x 12, x 13, x 14, x 15, x 16, x 17, x 18, x 19, x 20] 1099511627854 true) :: bro M z bs)) (2 * R + 1) := InA.own ⟨hRl, hRn⟩
 have e0 : bs ++ ot (its.take 0) = bs := by simp [ot]
 have hbl : bs.length ≤ 16384 := by rw [List.length_append] at hb; omega
 let zk : Nat → Nat := fun k => if k = 0 then 1 else zx 1 bs (zH its)
 have hzk : ∀ k, Bz (zk k) := fun k => by show Bz (if k = 0 then 1 else zx 1 bs (zH its)); split; exact .inl rfl; exact Bz.zx (.inl rfl) (aQy _) _
 have hz0 : zk 0 = 1 := rfl
 refine eQ (E := E) (Li := (K, .cells [x 0, x 1, x 2, x 3, x 4, x 5, x 6, x 7, x 8, x 9, x 10, bsv M bs, x 12, x 13, x 14, x 15, x 16, x 17, x 18, x 19, x 20] 1099511627854 true) :: bro M z bs) (n := 42) (rs := [.tmp 4]) (l := [(1, _), (0, _)]) (aV Tryz.func212 rfl rfl rfl) hin hd rfl ?_
 refine aE ?_
 refine aB (E := E) ?_
 refine aC rfl rfl rfl ?_
 refine aD ?_
 refine aE ?_
 refine aB (E := E) ?_
 refine aA rfl rfl rfl ?_
 first | refine bV rfl rfl rfl ?_ | refine bQ rfl rfl rfl ?_
 refine bG (o' := 11) rfl rfl rfl Tryz.underlying78 rfl oQ rfl rfl ?_
 refine bL rfl rfl rfl (by first | exact cS Tryz.underlying75 rfl (by repeat (first | exact List.Mem.head _ | apply List.Mem.tail | apply List.mem_append_right)) (by first | exact aL rfl | rfl) | exact cG Tryz.underlying75 rfl (by first | assumption | exact InA.add (by assumption) | exact InA.add (InA.add (by assumption))) (by assumption)) ?_
 refine wE (fun u Lo => ∃ M1, u = bsv M1 bs ∧ Lo = bro M1 1 bs) rfl rfl (fun h => nomatch h) rfl aLb (by repeat (first | exact Opvs.nil | apply Opvs.cons rfl)) (fun H hH => aLq hbl (hH.have fun p hp => List.mem_cons_of_mem _ hp)) ?_
 rintro _ _ ⟨M1, rfl, rfl⟩
 refine aC rfl rfl rfl ?_
 refine aD ?_
 refine aE ?_
 refine aE ?_
 refine aB (E := E) ?_
 refine aA rfl rfl rfl ?_
 refine iH rfl rfl rfl rfl rfl rfl Tryz.underlying68 ?_
 refine aA rfl rfl rfl ?_
 refine aD ?_
 refine bE ?_
 refine gT (τ := Nat × Nat) (fun q => m - q.1) (fun q => [(0, .pointer (some ⟨2 * K + 1, 0, none⟩)), (5, bsv q.2 (bs ++ ot (its.take q.1))), (13, .slice (some ⟨2 * R + 1, 0, none⟩) m cap), (14, .int .i64 ((m : Nat) : Int)), (15, .int .i64 ((q.1 : Nat) : Int))]) (fun _ => S) (fun _ => mQ S ((K, .cells [x 0, x 1, x 2, x 3, x 4, x 5, x 6, x 7, x 8, x 9, x 10, bsv M bs, x 12, x 13, x 14, x 15, x 16, x 17, x 18, x 19, x 20] 1099511627854 true) :: bro M z bs)) (fun q => bro q.2 (zk q.1) (bs ++ ot (its.take q.1)) ++ ((K, .cells [x 0, x 1, x 2, x 3, x 4, x 5, x 6, x 7, x 8, x 9, x 10, bsv M bs, x 12, x 13, x 14, x 15, x 16, x 17, x 18, x 19, x 20] 1099511627854 true) :: bro M z bs)) (fun q => q.1 ≤ m) ((0, M1)) ((Nat.zero_le _)) (by repeat (first | exact .nil | refine .cons (by first | rfl | (show _ = some (bsv M1 (bs ++ ot (its.take 0))); rw [e0]; rfl)) ?_)) rfl rfl (by show List.Sublist (bro M1 (zk 0) (bs ++ ot (its.take 0)) ++ _) _; rw [e0]; exact List.Sublist.refl _) ?_
 intro q hJ2 t1
 obtain ⟨k, M1⟩ := q
 have hk0 : k ≤ m := hJ2
 dsimp only
 have hz1 : Bz (zk k) := hzk k
 refine aE ?_
 rcases Nat.lt_or_ge k m with hk | hk
 ·skip
  obtain ⟨y, hy⟩ : ∃ y, its[k]? = some y := ⟨its[k], List.getElem?_eq_getElem (by omega)⟩
  have hyo : y.ok := hok _ (List.mem_of_getElem? hy)
  have hload : aloads S ⟨2 * R + 1, 0 + k * 4, none⟩ 4 = some y.cs := by rw [fC hR (0 + k * 4) 4 none (by rw [aFk]; omega), Nat.zero_add, aEt hy]
  have hT2 := aFv hy
  have hmo := aEx (l := its) (k := k + 1)
  have hL : (bs ++ ot (its.take (k + 1))).length < 16384 := by rw [List.length_append] at hb ⊢; omega
  refine aB (E := E) ?_
  refine aG rfl rfl rfl rfl (by first | exact aW (by omega) | exact aS (by omega)) ?_
  refine aD ?_
  refine aE ?_
  refine bX rfl ?_
  refine aX ?_
  refine aQ ?_
  refine aE ?_
  refine bE ?_
  refine aE ?_
  refine aB (E := E) ?_
  refine aA rfl rfl rfl ?_
  first | refine iB rfl rfl rfl rfl Tryz.underlying68 dD rfl (by first | omega | decide) rfl ?_ | refine nF rfl rfl rfl rfl Tryz.underlying68 dD rfl (by first | omega | decide) ?_
  refine bL rfl rfl rfl (by first | exact cF Tryz.underlying70 rfl dD rfl hiA hload | exact cM Tryz.underlying70 rfl dD rfl (by repeat (first | exact List.Mem.head _ | apply List.Mem.tail | apply List.mem_append_right)) (by first | exact aP rfl | exact Nat.le_of_ble_eq_true rfl | decide | omega) (by first | exact bM | exact take_all rfl | exact bD rfl | rfl) | exact cF Tryz.underlying70 rfl dD rfl (by first | assumption | exact InA.add (by assumption) | exact InA.add (InA.add (by assumption))) (by assumption)) ?_
  refine cZ (cs := (.int .i64 0 :: .int .i64 0 :: .string ⟨#[]⟩ :: .slice none 0 0 :: [])) rfl rfl (fun h => nomatch h) dD rfl rfl ?_
  intro N7
  refine aC rfl rfl rfl ?_
  refine cQ rfl (fun h => nomatch h) rfl rfl dD (It.cs_len _) (It.cs_one _) (by repeat (first | exact .zero | apply Upd.succ)) (cD (It.cs_len _)) (by rw [It.cs_len]; decide) (fun h => nomatch h) ?_
  refine aD ?_
  refine aE ?_
  refine aE ?_
  rcases Nat.eq_zero_or_pos k with hk1 | hk1
  ·skip
   have eT : (bs ++ ot (its.take k)) ++ y.txt = bs ++ ot (its.take (k + 1)) := by rw [show bs ++ ot (its.take k) = bs by rw [hk1]; exact e0, hT2, if_pos hk1]
   have eZ : zx (zk k) (bs ++ ot (its.take k)) y.z = zk (k + 1) := by subst hk1; show zx 1 _ _ = zx 1 bs (zH its); rw [e0, aGf hy]
   rw [← eT] at hL
   refine aB (E := E) ?_
   refine aA rfl rfl rfl ?_
   refine aG rfl rfl rfl rfl (by first | exact bU (by omega) | exact aY (by omega)) ?_
   refine aD ?_
   refine aM rfl ?_
   refine aX ?_
   refine aQ ?_
   refine aE ?_
   refine aB (E := E) ?_
   refine aA rfl rfl rfl ?_
   refine bL rfl rfl rfl (by first | exact cM Tryz.underlying70 rfl dD rfl (by repeat (first | exact List.Mem.head _ | apply List.Mem.tail | apply List.mem_append_right)) (by rw [It.cs_len]; decide) (It.cs_take _) | exact cM Tryz.underlying70 rfl dD rfl (by repeat (first | exact List.Mem.head _ | apply List.Mem.tail | apply List.mem_append_right)) (by first | exact aP rfl | exact Nat.le_of_ble_eq_true rfl | decide | omega) (by first | exact bM | exact take_all rfl | exact bD rfl | rfl) | exact cF Tryz.underlying70 rfl dD rfl (by first | assumption | exact InA.add (by assumption) | exact InA.add (InA.add (by assumption))) (by assumption)) ?_
   refine cK (Li := bro M1 (zk k) (bs ++ ot (its.take k))) (fun r Lo => ∃ M3, r = bsv M3 ((bs ++ ot (its.take k)) ++ y.txt) ∧ Lo = bro M3 (zx (zk k) (bs ++ ot (its.take k)) y.z) ((bs ++ ot (its.take k)) ++ y.txt)) rfl rfl (fun h => nomatch h) rfl aFq (by repeat (first | exact Opvs.nil | apply Opvs.cons rfl)) (by repeat (first | exact Takes.nil | exact Takes.app | exact Takes.self | apply Takes.skip)) (fun h => nomatch h) (fun H hH => aAm (hT.at hH.kept.w0.symm) hyo hz1 (by simp only [List.length_append, List.length_cons, List.length_nil] at hL ⊢; omega) (hH.have fun p hp => List.mem_cons_of_mem _ (List.mem_append_left _ hp))) ?_
   rintro _ _ ⟨M3, rfl, rfl⟩
   rw [eT, eZ]
   refine aC rfl rfl rfl ?_
   refine aD ?_
   refine aE ?_
   refine aB (E := E) ?_
   refine aA rfl rfl rfl ?_
   obtain ⟨gb, hgb⟩ := kM M3 (bs ++ ot (its.take (k + 1)))
   refine iH rfl rfl rfl rfl rfl (show opv _ _ = some (.slice gb (bs ++ ot (its.take (k + 1))).length (bs ++ ot (its.take (k + 1))).length) by rw [← hgb]; rfl) Tryz.underlying75 ?_
   refine aG rfl rfl rfl rfl (by first | exact aY (by rw [eT] at hL; omega) | exact bU (by omega) | exact aY (by omega)) ?_
   refine aD ?_
   refine aM rfl ?_
   refine aX ?_
   refine cP ?_
   refine aQ ?_
   refine aB (E := E) ?_
   refine aG rfl rfl rfl rfl (by first | exact bC (by omega) | exact aF (aK (by omega) (by omega)) | exact aF rfl) ?_
   refine aA rfl rfl rfl ?_
   refine eY ?_
   exact dR (k + 1, M3) (show m - (k + 1) < m - k by omega) (show k + 1 ≤ m by omega) (by repeat (first | exact .nil | refine .cons rfl ?_)) rfl rfl ((List.Sublist.refl _).append (by repeat (first | exact List.Sublist.refl _ | apply List.Sublist.cons)))
  ·skip
   have eT : (bs ++ ot (its.take k) ++ [32]) ++ y.txt = bs ++ ot (its.take (k + 1)) := by rw [hT2, if_neg (by omega)]; simp
   have hcne : bs ++ ot (its.take k) ≠ [] := by have := aGi (l := its) (k := k) (by omega) (by omega); simp [this]
   have eZ : zx (zx (zk k) (bs ++ ot (its.take k)) 1) (bs ++ ot (its.take k) ++ [32]) y.z = zk (k + 1) := by rw [tJ (by simp), tJ hcne]; show (if k = 0 then 1 else _) = zx 1 bs (zH its); rw [if_neg (by omega)]
   rw [← eT] at hL
   refine aB (E := E) ?_
   refine aA rfl rfl rfl ?_
   refine aG rfl rfl rfl rfl (by first | exact bU (by omega) | exact aY (by omega)) ?_
   refine aD ?_
   refine bX rfl ?_
   refine aB (E := E) ?_
   refine aA rfl rfl rfl ?_
   refine dN (out := [aN 32]) rfl rfl (fun h => nomatch h) (by repeat (first | exact Opps.nil | apply Opps.cons rfl)) Tryz.underlying75 mJ rfl rfl (by kernel_rfl) rfl rfl ?_
   intro N23
   refine kX (nw := [32]) rfl rfl (fun h => nomatch h) rfl rfl rfl rfl rfl Tryz.underlying75 Tryz.underlying75 rfl mJ rfl rfl rfl (by simp) (iP (List.Mem.head _) rfl) (by repeat (first | exact Takes.nil | exact Takes.app | exact Takes.self | apply Takes.skip)) hz1 (by simp only [List.length_append, List.length_cons, List.length_nil] at hb hL ⊢; omega) (fun h => nomatch h) ?_
   intro M2
   refine aC rfl rfl rfl ?_
   refine aD ?_
   refine aE ?_
   refine aB (E := E) ?_
   refine aA rfl rfl rfl ?_
   refine bL rfl rfl rfl (by first | exact cM Tryz.underlying70 rfl dD rfl (by repeat (first | exact List.Mem.head _ | apply List.Mem.tail | apply List.mem_append_right)) (by rw [It.cs_len]; decide) (It.cs_take _) | exact cM Tryz.underlying70 rfl dD rfl (by repeat (first | exact List.Mem.head _ | apply List.Mem.tail | apply List.mem_append_right)) (by first | exact aP rfl | exact Nat.le_of_ble_eq_true rfl | decide | omega) (by first | exact bM | exact take_all rfl | exact bD rfl | rfl) | exact cF Tryz.underlying70 rfl dD rfl (by first | assumption | exact InA.add (by assumption) | exact InA.add (InA.add (by assumption))) (by assumption)) ?_
   refine cK (Li := bro M2 (zx (zk k) (bs ++ ot (its.take k)) 1) (bs ++ ot (its.take k) ++ [32])) (fun r Lo => ∃ M3, r = bsv M3 ((bs ++ ot (its.take k) ++ [32]) ++ y.txt) ∧ Lo = bro M3 (zx (zx (zk k) (bs ++ ot (its.take k)) 1) (bs ++ ot (its.take k) ++ [32]) y.z) ((bs ++ ot (its.take k) ++ [32]) ++ y.txt)) rfl rfl (fun h => nomatch h) rfl aFq (by repeat (first | exact Opvs.nil | apply Opvs.cons rfl)) (by repeat (first | exact Takes.nil | exact Takes.app | exact Takes.self | apply Takes.skip)) (fun h => nomatch h) (fun H hH => aAm (hT.at hH.kept.w0.symm) hyo (hz1.zx (.inl rfl) _) (by simp only [List.length_append, List.length_cons, List.length_nil] at hL ⊢; omega) (hH.have fun p hp => List.mem_append_left _ hp)) ?_
   rintro _ _ ⟨M3, rfl, rfl⟩
   rw [eT, eZ]
   refine aC rfl rfl rfl ?_
   refine aD ?_
   refine aE ?_
   refine aB (E := E) ?_
   refine aA rfl rfl rfl ?_
   obtain ⟨gb, hgb⟩ := kM M3 (bs ++ ot (its.take (k + 1)))
   refine iH rfl rfl rfl rfl rfl (show opv _ _ = some (.slice gb (bs ++ ot (its.take (k + 1))).length (bs ++ ot (its.take (k + 1))).length) by rw [← hgb]; rfl) Tryz.underlying75 ?_
   refine aG rfl rfl rfl rfl (by first | exact aY (by rw [eT] at hL; omega) | exact bU (by omega) | exact aY (by omega)) ?_
   refine aD ?_
   refine aM rfl ?_
   refine aX ?_
   refine cP ?_
   refine aQ ?_
   refine aB (E := E) ?_
   refine aG rfl rfl rfl rfl (by first | exact bC (by omega) | exact aF (aK (by omega) (by omega)) | exact aF rfl) ?_
   refine aA rfl rfl rfl ?_
   refine eY ?_
   exact dR (k + 1, M3) (show m - (k + 1) < m - k by omega) (show k + 1 ≤ m by omega) (by repeat (first | exact .nil | refine .cons rfl ?_)) rfl rfl ((List.Sublist.refl _).append (by repeat (first | exact List.Sublist.refl _ | apply List.Sublist.cons)))
 ·skip
  obtain rfl : k = m := by omega
  rw [List.take_of_length_le (Nat.le_of_eq hm)]
  have hL := hb
  have hone : bs ++ ot its ≠ [] := by have := aGi (l := its) (k := its.length) (by omega) (by omega); rw [List.take_length] at this; simp [this]
  have eF : zx (zk k) (bs ++ ot its) 1 = zx 1 bs (zH its) := by rw [tJ hone]; show (if k = 0 then 1 else _) = _; rw [if_neg hm0]
  refine aB (E := E) ?_
  refine aG rfl rfl rfl rfl (by first | exact aW (by omega) | exact aS (by omega)) ?_
  refine aD ?_
  refine aE ?_
  refine aM rfl ?_
  refine kG ?_
  refine eG ?_
  refine eK ?_
  refine dL ?_
  refine aQ ?_
  refine aE ?_
  refine aB (E := E) ?_
  refine aA rfl rfl rfl ?_
  refine dN (out := [aN 10]) rfl rfl (fun h => nomatch h) (by repeat (first | exact Opps.nil | apply Opps.cons rfl)) Tryz.underlying75 mJ rfl rfl (by kernel_rfl) rfl rfl ?_
  intro N33
  refine kX (nw := [10]) rfl rfl (fun h => nomatch h) rfl rfl rfl rfl rfl Tryz.underlying75 Tryz.underlying75 rfl mJ rfl rfl rfl (by simp) (iP (List.Mem.head _) rfl) (by repeat (first | exact Takes.nil | exact Takes.app | exact Takes.self | apply Takes.skip)) hz1 (by simp only [List.length_append, List.length_cons, List.length_nil] at hb hL ⊢; omega) (fun h => nomatch h) ?_
  intro M2
  refine aC rfl rfl rfl ?_
  refine aD ?_
  refine aE ?_
  refine aE ?_
  refine aB (E := E) ?_
  refine aA rfl rfl rfl ?_
  obtain ⟨gb, hgb⟩ := kM M2 (bs ++ ot its ++ [10])
  refine iH rfl rfl rfl rfl rfl (show opv _ _ = some (.slice gb (bs ++ ot its ++ [10]).length (bs ++ ot its ++ [10]).length) by rw [← hgb]; rfl) Tryz.underlying75 ?_
  refine aG rfl rfl rfl rfl (by first | exact aY (by simp only [List.length_append, List.length_cons, List.length_nil] at hL ⊢; omega) | exact bU (by omega) | exact aY (by omega)) ?_
  refine aD ?_
  refine aM rfl ?_
  refine aX ?_
  refine aQ ?_
  refine aE ?_
  refine aB (E := E) ?_
  refine aA rfl rfl rfl ?_
  refine aA rfl rfl rfl ?_
  first | refine bV rfl rfl rfl ?_ | refine bQ rfl rfl rfl ?_
  refine bG (o' := 11) rfl rfl rfl Tryz.underlying78 rfl oQ rfl rfl ?_
  refine jL rfl (fun h => nomatch h) rfl rfl oQ rfl (aGj _ _) (Upd.app (by repeat (first | exact .zero | apply Upd.succ))) rfl (by first | exact Nat.le_of_ble_eq_true rfl | decide) (fun h => nomatch h) ?_
  refine aD ?_
  refine aE ?_
  refine aB (E := E) ?_
  refine aC rfl rfl rfl ?_
  refine aD ?_
  refine cI ?_
  refine bH (.tmp rfl .nil) ?_
  exact fun H hH => ⟨_, (hH.subl ((List.Sublist.refl _).append (List.Sublist.cons _ (List.Sublist.cons_cons _ (List.nil_sublist _))))).turned (Gr.refl _ _) ⟨_, List.mem_append_right _ (List.Mem.head _)⟩, rfl, M2, by rw [eF]; rfl⟩
end Go.Proofs.YthgfcpgjabodoaaGreatDoor
namespace Go.Proofs.YthgfcpgjabodoaaGreatDoor
open Go Go.AM
set_option maxHeartbeats 2000000 in
theorem aHv {S : AH} {K M z R m cap sz : Nat} {ex : Bool} {x : Nat → Value} {bs : List UInt8} {its : List It} (hT : Tab S) (hok : ∀ y ∈ its, y.ok) (hm : its.length = m) (hmx : m ≤ 16384) (hm0 : m ≠ 0) (hz : Bz z) (hb : (bs ++ ot its).length < 16384) (hin : ∀ p ∈ ((K, .cells [x 0, x 1, x 2, x 3, x 4, x 5, x 6, x 7, x 8, x 9, x 10, bsv M bs, x 12, x 13, x 14, x 15, x 16, x 17, x 18, x 19, x 20] 1099511627854 true) :: bro M z bs : OL), S.tr.get p.1 = some p.2 ∧ p.1 < S.nx) (hd : ((K, .cells [x 0, x 1, x 2, x 3, x 4, x 5, x 6, x 7, x 8, x 9, x 10, bsv M bs, x 12, x 13, x 14, x 15, x 16, x 17, x 18, x 19, x 20] 1099511627854 true) :: bro M z bs : OL).Pairwise (fun p q => p.1 ≠ q.1)) (hR : S.tr.get R = some (.cells (its.flatMap It.cs) sz ex)) (hRl : R < S.nx) (hRn : ¬ ids ((K, .cells [x 0, x 1, x 2, x 3, x 4, x 5, x 6, x 7, x 8, x 9, x 10, bsv M bs, x 12, x 13, x 14, x 15, x 16, x 17, x 18, x 19, x 20] 1099511627854 true) :: bro M z bs) R) : XCall Tryz.prog 212 [.pointer (some ⟨2 * K + 1, 0, none⟩), .slice (some ⟨2 * R + 1, 0, none⟩) m cap] S fun v H' => ∃ Lo, Turned ((K, .cells [x 0, x 1, x 2, x 3, x 4, x 5, x 6, x 7, x 8, x 9, x 10, bsv M bs, x 12, x 13, x 14, x 15, x 16, x 17, x 18, x 19, x 20] 1099511627854 true) :: bro M z bs) S H' Lo ∧ v = .int .i64 0 ∧ ∃ M2, Lo = bro M2 (zx 1 bs (zH its)) (bs ++ ot its ++ [10]) ++ [(K, .cells [x 0, x 1, x 2, x 3, x 4, x 5, x 6, x 7, x 8, x 9, x 10, bsv M2 (bs ++ ot its ++ [10]), x 12, x 13, x 14, x 15, x 16, x 17, x 18, x 19, x 20] 1099511627854 true)] ∧ S.nx ≤ M2 := by
 have hiA : InA (mQ S ((K, .cells [x 0, x 1, x 2, x 3, x 4, x 5, x 6, x 7, x 8, x 9, x 10, bsv M bs, x 12, x 13, x 14, x 15, x 16, x 17, x 18, x 19, x 20] 1099511627854 true) :: bro M z bs)) (2 * R + 1) := InA.own ⟨hRl, hRn⟩
 have e0 : bs ++ ot (its.take 0) = bs := by simp [ot]
 have hbl : bs.length ≤ 16384 := by rw [List.length_append] at hb; omega
 let zk : Nat → Nat := fun k => if k = 0 then 1 else zx 1 bs (zH its)
 have hzk : ∀ k, Bz (zk k) := fun k => by show Bz (if k = 0 then 1 else zx 1 bs (zH its)); split; exact .inl rfl; exact Bz.zx (.inl rfl) (aQy _) _
 have hz0 : zk 0 = 1 := rfl
 refine eQ (E := E) (Li := (K, .cells [x 0, x 1, x 2, x 3, x 4, x 5, x 6, x 7, x 8, x 9, x 10, bsv M bs, x 12, x 13, x 14, x 15, x 16, x 17, x 18, x 19, x 20] 1099511627854 true) :: bro M z bs) (n := 42) (rs := [.tmp 4]) (l := [(1, _), (0, _)]) (aV Tryz.func212 rfl rfl rfl) hin hd rfl ?_
 refine aE ?_
 refine aB (E := E) ?_
 refine aC rfl rfl rfl ?_
 refine aD ?_
 refine aE ?_
 refine aB (E := E) ?_
 refine aA rfl rfl rfl ?_
 first | refine bV rfl rfl rfl ?_ | refine bQ rfl rfl rfl ?_
 refine bG (o' := 11) rfl rfl rfl Tryz.underlying78 rfl oQ rfl rfl ?_
 refine bL rfl rfl rfl (by first | exact cS Tryz.underlying75 rfl (by repeat (first | exact List.Mem.head _ | apply List.Mem.tail | apply List.mem_append_right)) (by first | exact aL rfl | rfl) | exact cG Tryz.underlying75 rfl (by first | assumption | exact InA.add (by assumption) | exact InA.add (InA.add (by assumption))) (by assumption)) ?_
 refine wE (fun u Lo => ∃ M1, u = bsv M1 bs ∧ Lo = bro M1 1 bs) rfl rfl (fun h => nomatch h) rfl aLb (by repeat (first | exact Opvs.nil | apply Opvs.cons rfl)) (fun H hH => aLq hbl (hH.have fun p hp => List.mem_cons_of_mem _ hp)) ?_
 rintro _ _ ⟨M1, rfl, rfl⟩
 refine aC rfl rfl rfl ?_
 refine aD ?_
 refine aE ?_
 refine aE ?_
 refine aB (E := E) ?_
 refine aA rfl rfl rfl ?_
 refine iH rfl rfl rfl rfl rfl rfl Tryz.underlying68 ?_
 refine aA rfl rfl rfl ?_
 refine aD ?_
 refine bE ?_
 refine gT (τ := Nat × Nat) (fun q => m - q.1) (fun q => [(0, .pointer (some ⟨2 * K + 1, 0, none⟩)), (5, bsv q.2 (bs ++ ot (its.take q.1))), (13, .slice (some ⟨2 * R + 1, 0, none⟩) m cap), (14, .int .i64 ((m : Nat) : Int)), (15, .int .i64 ((q.1 : Nat) : Int))]) (fun _ => S) (fun _ => mQ S ((K, .cells [x 0, x 1, x 2, x 3, x 4, x 5, x 6, x 7, x 8, x 9, x 10, bsv M bs, x 12, x 13, x 14, x 15, x 16, x 17, x 18, x 19, x 20] 1099511627854 true) :: bro M z bs)) (fun q => bro q.2 (zk q.1) (bs ++ ot (its.take q.1)) ++ ((K, .cells [x 0, x 1, x 2, x 3, x 4, x 5, x 6, x 7, x 8, x 9, x 10, bsv M bs, x 12, x 13, x 14, x 15, x 16, x 17, x 18, x 19, x 20] 1099511627854 true) :: bro M z bs)) (fun q => q.1 ≤ m) ((0, M1)) ((Nat.zero_le _)) (by repeat (first | exact .nil | refine .cons (by first | rfl | (show _ = some (bsv M1 (bs ++ ot (its.take 0))); rw [e0]; rfl)) ?_)) rfl rfl (by show List.Sublist (bro M1 (zk 0) (bs ++ ot (its.take 0)) ++ _) _; rw [e0]; exact List.Sublist.refl _) ?_
 intro q hJ2 t1
 obtain ⟨k, M1⟩ := q
 have hk0 : k ≤ m := hJ2
 dsimp only
 have hz1 : Bz (zk k) := hzk k
 refine aE ?_
 rcases Nat.lt_or_ge k m with hk | hk
 ·skip
  obtain ⟨y, hy⟩ : ∃ y, its[k]? = some y := ⟨its[k], List.getElem?_eq_getElem (by omega)⟩
  have hyo : y.ok := hok _ (List.mem_of_getElem? hy)
  have hload : aloads S ⟨2 * R + 1, 0 + k * 4, none⟩ 4 = some y.cs := by rw [fC hR (0 + k * 4) 4 none (by rw [aFk]; omega), Nat.zero_add, aEt hy]
  have hT2 := aFv hy
  have hmo := aEx (l := its) (k := k + 1)
  have hL : (bs ++ ot (its.take (k + 1))).length < 16384 := by rw [List.length_append] at hb ⊢; omega
  refine aB (E := E) ?_
  refine aG rfl rfl rfl rfl (by first | exact aW (by omega) | exact aS (by omega)) ?_
  refine aD ?_
  refine aE ?_
  refine bX rfl ?_
  refine aX ?_
  refine aQ ?_
  refine aE ?_
  refine bE ?_
  refine aE ?_
  refine aB (E := E) ?_
  refine aA rfl rfl rfl ?_
  first | refine iB rfl rfl rfl rfl Tryz.underlying68 dD rfl (by first | omega | decide) rfl ?_ | refine nF rfl rfl rfl rfl Tryz.underlying68 dD rfl (by first | omega | decide) ?_
  refine bL rfl rfl rfl (by first | exact cF Tryz.underlying70 rfl dD rfl hiA hload | exact cM Tryz.underlying70 rfl dD rfl (by repeat (first | exact List.Mem.head _ | apply List.Mem.tail | apply List.mem_append_right)) (by first | exact aP rfl | exact Nat.le_of_ble_eq_true rfl | decide | omega) (by first | exact bM | exact take_all rfl | exact bD rfl | rfl) | exact cF Tryz.underlying70 rfl dD rfl (by first | assumption | exact InA.add (by assumption) | exact InA.add (InA.add (by assumption))) (by assumption)) ?_
  refine cZ (cs := (.int .i64 0 :: .int .i64 0 :: .string ⟨#[]⟩ :: .slice none 0 0 :: [])) rfl rfl (fun h => nomatch h) dD rfl rfl ?_
  intro N7
  refine aC rfl rfl rfl ?_
  refine cQ rfl (fun h => nomatch h) rfl rfl dD (It.cs_len _) (It.cs_one _) (by repeat (first | exact .zero | apply Upd.succ)) (cD (It.cs_len _)) (by rw [It.cs_len]; decide) (fun h => nomatch h) ?_
  refine aD ?_
  refine aE ?_
  refine aE ?_
  rcases Nat.eq_zero_or_pos k with hk1 | hk1
  ·skip
   have eT : (bs ++ ot (its.take k)) ++ y.txt = bs ++ ot (its.take (k + 1)) := by rw [show bs ++ ot (its.take k) = bs by rw [hk1]; exact e0, hT2, if_pos hk1]
   have eZ : zx (zk k) (bs ++ ot (its.take k)) y.z = zk (k + 1) := by subst hk1; show zx 1 _ _ = zx 1 bs (zH its); rw [e0, aGf hy]
   rw [← eT] at hL
   refine aB (E := E) ?_
   refine aA rfl rfl rfl ?_
   refine aG rfl rfl rfl rfl (by first | exact bU (by omega) | exact aY (by omega)) ?_
   refine aD ?_
   refine aM rfl ?_
   refine aX ?_
   refine aQ ?_
   refine aE ?_
   refine aB (E := E) ?_
   refine aA rfl rfl rfl ?_
   refine bL rfl rfl rfl (by first | exact cM Tryz.underlying70 rfl dD rfl (by repeat (first | exact List.Mem.head _ | apply List.Mem.tail | apply List.mem_append_right)) (by rw [It.cs_len]; decide) (It.cs_take _) | exact cM Tryz.underlying70 rfl dD rfl (by repeat (first | exact List.Mem.head _ | apply List.Mem.tail | apply List.mem_append_right)) (by first | exact aP rfl | exact Nat.le_of_ble_eq_true rfl | decide | omega) (by first | exact bM | exact take_all rfl | exact bD rfl | rfl) | exact cF Tryz.underlying70 rfl dD rfl (by first | assumption | exact InA.add (by assumption) | exact InA.add (InA.add (by assumption))) (by assumption)) ?_
   refine cK (Li := bro M1 (zk k) (bs ++ ot (its.take k))) (fun r Lo => ∃ M3, r = bsv M3 ((bs ++ ot (its.take k)) ++ y.txt) ∧ Lo = bro M3 (zx (zk k) (bs ++ ot (its.take k)) y.z) ((bs ++ ot (its.take k)) ++ y.txt)) rfl rfl (fun h => nomatch h) rfl aFq (by repeat (first | exact Opvs.nil | apply Opvs.cons rfl)) (by repeat (first | exact Takes.nil | exact Takes.app | exact Takes.self | apply Takes.skip)) (fun h => nomatch h) (fun H hH => aAm (hT.at hH.kept.w0.symm) hyo hz1 (by simp only [List.length_append, List.length_cons, List.length_nil] at hL ⊢; omega) (hH.have fun p hp => List.mem_cons_of_mem _ (List.mem_append_left _ hp))) ?_
   rintro _ _ ⟨M3, rfl, rfl⟩
   rw [eT, eZ]
   refine aC rfl rfl rfl ?_
   refine aD ?_
   refine aE ?_
   refine aB (E := E) ?_
   refine aA rfl rfl rfl ?_
   obtain ⟨gb, hgb⟩ := kM M3 (bs ++ ot (its.take (k + 1)))
   refine iH rfl rfl rfl rfl rfl (show opv _ _ = some (.slice gb (bs ++ ot (its.take (k + 1))).length (bs ++ ot (its.take (k + 1))).length) by rw [← hgb]; rfl) Tryz.underlying75 ?_
   refine aG rfl rfl rfl rfl (by first | exact aY (by rw [eT] at hL; omega) | exact bU (by omega) | exact aY (by omega)) ?_
   refine aD ?_
   refine aM rfl ?_
   refine aX ?_
   refine cP ?_
   refine aQ ?_
   refine aB (E := E) ?_
   refine aG rfl rfl rfl rfl (by first | exact bC (by omega) | exact aF (aK (by omega) (by omega)) | exact aF rfl) ?_
   refine aA rfl rfl rfl ?_
   refine eY ?_
   exact dR (k + 1, M3) (show m - (k + 1) < m - k by omega) (show k + 1 ≤ m by omega) (by repeat (first | exact .nil | refine .cons rfl ?_)) rfl rfl ((List.Sublist.refl _).append (by repeat (first | exact List.Sublist.refl _ | apply List.Sublist.cons)))
  ·skip
   have eT : (bs ++ ot (its.take k) ++ [32]) ++ y.txt = bs ++ ot (its.take (k + 1)) := by rw [hT2, if_neg (by omega)]; simp
   have hcne : bs ++ ot (its.take k) ≠ [] := by have := aGi (l := its) (k := k) (by omega) (by omega); simp [this]
   have eZ : zx (zx (zk k) (bs ++ ot (its.take k)) 1) (bs ++ ot (its.take k) ++ [32]) y.z = zk (k + 1) := by rw [tJ (by simp), tJ hcne]; show (if k = 0 then 1 else _) = zx 1 bs (zH its); rw [if_neg (by omega)]
   rw [← eT] at hL
   refine aB (E := E) ?_
   refine aA rfl rfl rfl ?_
   refine aG rfl rfl rfl rfl (by first | exact bU (by omega) | exact aY (by omega)) ?_
   refine aD ?_
   refine bX rfl ?_
   refine aB (E := E) ?_
   refine aA rfl rfl rfl ?_
   refine dN (out := [aN 32]) rfl rfl (fun h => nomatch h) (by repeat (first | exact Opps.nil | apply Opps.cons rfl)) Tryz.underlying75 mJ rfl rfl (by kernel_rfl) rfl rfl ?_
   intro N23
   refine kX (nw := [32]) rfl rfl (fun h => nomatch h) rfl rfl rfl rfl rfl Tryz.underlying75 Tryz.underlying75 rfl mJ rfl rfl rfl (by simp) (iP (List.Mem.head _) rfl) (by repeat (first | exact Takes.nil | exact Takes.app | exact Takes.self | apply Takes.skip)) hz1 (by simp only [List.length_append, List.length_cons, List.length_nil] at hb hL ⊢; omega) (fun h => nomatch h) ?_
   intro M2
   refine aC rfl rfl rfl ?_
   refine aD ?_
   refine aE ?_
   refine aB (E := E) ?_
   refine aA rfl rfl rfl ?_
   refine bL rfl rfl rfl (by first | exact cM Tryz.underlying70 rfl dD rfl (by repeat (first | exact List.Mem.head _ | apply List.Mem.tail | apply List.mem_append_right)) (by rw [It.cs_len]; decide) (It.cs_take _) | exact cM Tryz.underlying70 rfl dD rfl (by repeat (first | exact List.Mem.head _ | apply List.Mem.tail | apply List.mem_append_right)) (by first | exact aP rfl | exact Nat.le_of_ble_eq_true rfl | decide | omega) (by first | exact bM | exact take_all rfl | exact bD rfl | rfl) | exact cF Tryz.underlying70 rfl dD rfl (by first | assumption | exact InA.add (by assumption) | exact InA.add (InA.add (by assumption))) (by assumption)) ?_
   refine cK (Li := bro M2 (zx (zk k) (bs ++ ot (its.take k)) 1) (bs ++ ot (its.take k) ++ [32])) (fun r Lo => ∃ M3, r = bsv M3 ((bs ++ ot (its.take k) ++ [32]) ++ y.txt) ∧ Lo = bro M3 (zx (zx (zk k) (bs ++ ot (its.take k)) 1) (bs ++ ot (its.take k) ++ [32]) y.z) ((bs ++ ot (its.take k) ++ [32]) ++ y.txt)) rfl rfl (fun h => nomatch h) rfl aFq (by repeat (first | exact Opvs.nil | apply Opvs.cons rfl)) (by repeat (first | exact Takes.nil | exact Takes.app | exact Takes.self | apply Takes.skip)) (fun h => nomatch h) (fun H hH => aAm (hT.at hH.kept.w0.symm) hyo (hz1.zx (.inl rfl) _) (by simp only [List.length_append, List.length_cons, List.length_nil] at hL ⊢; omega) (hH.have fun p hp => List.mem_append_left _ hp)) ?_
   rintro _ _ ⟨M3, rfl, rfl⟩
   rw [eT, eZ]
   refine aC rfl rfl rfl ?_
   refine aD ?_
   refine aE ?_
   refine aB (E := E) ?_
   refine aA rfl rfl rfl ?_
   obtain ⟨gb, hgb⟩ := kM M3 (bs ++ ot (its.take (k + 1)))
   refine iH rfl rfl rfl rfl rfl (show opv _ _ = some (.slice gb (bs ++ ot (its.take (k + 1))).length (bs ++ ot (its.take (k + 1))).length) by rw [← hgb]; rfl) Tryz.underlying75 ?_
   refine aG rfl rfl rfl rfl (by first | exact aY (by rw [eT] at hL; omega) | exact bU (by omega) | exact aY (by omega)) ?_
   refine aD ?_
   refine aM rfl ?_
   refine aX ?_
   refine cP ?_
   refine aQ ?_
   refine aB (E := E) ?_
   refine aG rfl rfl rfl rfl (by first | exact bC (by omega) | exact aF (aK (by omega) (by omega)) | exact aF rfl) ?_
   refine aA rfl rfl rfl ?_
   refine eY ?_
   exact dR (k + 1, M3) (show m - (k + 1) < m - k by omega) (show k + 1 ≤ m by omega) (by repeat (first | exact .nil | refine .cons rfl ?_)) rfl rfl ((List.Sublist.refl _).append (by repeat (first | exact List.Sublist.refl _ | apply List.Sublist.cons)))
 ·skip
  obtain rfl : k = m := by omega
  rw [List.take_of_length_le (Nat.le_of_eq hm)]
  have hL := hb
  have hone : bs ++ ot its ≠ [] := by have := aGi (l := its) (k := its.length) (by omega) (by omega); rw [List.take_length] at this; simp [this]
  have eF : zx (zk k) (bs ++ ot its) 1 = zx 1 bs (zH its) := by rw [tJ hone]; show (if k = 0 then 1 else _) = _; rw [if_neg hm0]
  refine aB (E := E) ?_
  refine aG rfl rfl rfl rfl (by first | exact aW (by omega) | exact aS (by omega)) ?_
  refine aD ?_
  refine aE ?_
  refine aM rfl ?_
  refine kG ?_
  refine eG ?_
  refine eK ?_
  refine dL ?_
  refine aQ ?_
  refine aE ?_
  refine aB (E := E) ?_
  refine aA rfl rfl rfl ?_
  refine dN (out := [aN 10]) rfl rfl (fun h => nomatch h) (by repeat (first | exact Opps.nil | apply Opps.cons rfl)) Tryz.underlying75 mJ rfl rfl (by kernel_rfl) rfl rfl ?_
  intro N33
  refine kX (nw := [10]) rfl rfl (fun h => nomatch h) rfl rfl rfl rfl rfl Tryz.underlying75 Tryz.underlying75 rfl mJ rfl rfl rfl (by simp) (iP (List.Mem.head _) rfl) (by repeat (first | exact Takes.nil | exact Takes.app | exact Takes.self | apply Takes.skip)) hz1 (by simp only [List.length_append, List.length_cons, List.length_nil] at hb hL ⊢; omega) (fun h => nomatch h) ?_
  intro M2
  refine aC rfl rfl rfl ?_
  refine aD ?_
  refine aE ?_
  refine aE ?_
  refine aB (E := E) ?_
  refine aA rfl rfl rfl ?_
  obtain ⟨gb, hgb⟩ := kM M2 (bs ++ ot its ++ [10])
  refine iH rfl rfl rfl rfl rfl (show opv _ _ = some (.slice gb (bs ++ ot its ++ [10]).length (bs ++ ot its ++ [10]).length) by rw [← hgb]; rfl) Tryz.underlying75 ?_
  refine aG rfl rfl rfl rfl (by first | exact aY (by simp only [List.length_append, List.length_cons, List.length_nil] at hL ⊢; omega) | exact bU (by omega) | exact aY (by omega)) ?_
  refine aD ?_
  refine aM rfl ?_
  refine aX ?_
  refine aQ ?_
  refine aE ?_
  refine aB (E := E) ?_
  refine aA rfl rfl rfl ?_
  refine aA rfl rfl rfl ?_
  first | refine bV rfl rfl rfl ?_ | refine bQ rfl rfl rfl ?_
  refine bG (o' := 11) rfl rfl rfl Tryz.underlying78 rfl oQ rfl rfl ?_
  refine jL rfl (fun h => nomatch h) rfl rfl oQ rfl (aGj _ _) (Upd.app (by repeat (first | exact .zero | apply Upd.succ))) rfl (by first | exact Nat.le_of_ble_eq_true rfl | decide) (fun h => nomatch h) ?_
  refine aD ?_
  refine aE ?_
  refine aB (E := E) ?_
  refine aC rfl rfl rfl ?_
  refine aD ?_
  refine cI ?_
  refine bH (.tmp rfl .nil) ?_
  exact fun H hH => ⟨_, (hH.subl ((List.Sublist.refl _).append (List.Sublist.cons _ (List.Sublist.cons_cons _ (List.nil_sublist _))))).turned (Gr.refl _ _) ⟨_, List.mem_append_right _ (List.Mem.head _)⟩, rfl, M2, (by rw [eF]; rfl), hH.newT (Gr.refl _ _) (List.mem_append_left _ (by rw [cN (by simp)]; exact List.mem_singleton.2 rfl)) (fun ⟨p, hp, e⟩ => by
   have hd2 := (List.pairwise_append.1 hH.dist).2.2
   rw [cN (by simp)] at hd2
   rcases List.mem_cons.1 hp with rfl | hp
   ·exact hd2 _ (List.mem_singleton.2 rfl) _ (List.Mem.tail _ (List.Mem.head _)) e.symm
   ·exact hd2 _ (List.mem_singleton.2 rfl) _ (List.Mem.tail _ (List.Mem.tail _ hp)) e.symm)⟩
end Go.Proofs.YthgfcpgjabodoaaGreatDoor
