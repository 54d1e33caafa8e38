/-
  Numerals.
-/
import Derived.Test.YthgfcpgjabodoaaGreatDoorQ2
import Derived.Test.YthgfcpgjabodoaaGreatDoorAb9
set_option linter.unusedVariables false
set_option linter.unusedSimpArgs false
set_option maxRecDepth 100000
namespace Go.Proofs.YthgfcpgjabodoaaGreatDoor
open Go Go.AM

theorem pF : ∀ (l : List UInt8) (acc v : Nat) (c : UInt8), Lib.parseUint10 acc l = .ok v → 48 ≤ c.toNat → c.toNat ≤ 57 → v * 10 + (c.toNat - 48) < 18446744073709551616 → v < 1844674407370955162 → Lib.parseUint10 acc (l ++ [c]) = .ok (v * 10 + (c.toNat - 48))
 | [], acc, v, c, h, h1, h2, h3, h4 => by
  simp only [Lib.parseUint10] at h
  injection h with h
  subst h
  simp only [List.nil_append, Lib.parseUint10]
  rw [if_pos ⟨h1, h2⟩, if_neg (by omega), if_neg (by omega)]
 | x :: l, acc, v, c, h, h1, h2, h3, h4 => by
  simp only [List.cons_append, Lib.parseUint10] at h ⊢
  split at h
  ·rename_i hx
   rw [if_pos hx]
   split at h
   ·cases h
   ·rename_i ha
    rw [if_neg ha]
    split at h
    ·cases h
    ·rename_i hb
     rw [if_neg hb]
     exact pF l _ v c h h1 h2 h3 h4
  ·cases h
theorem aMc {k : Nat} (h : k < 10) : (UInt8.ofNat (48 + k)).toNat = 48 + k := by
 rw [UInt8.toNat_ofNat']
 omega
theorem aHy (u : Nat) (h : u < 9223372036854775808) : Lib.parseUint10 0 (Lib.decDigits u) = .ok u := by
 induction u using Nat.strongRecOn with
 | _ u ih =>
  rw [Lib.decDigits]
  split
  ·rename_i h0
   have e := aMc (k := u) h0
   have := pF [] 0 0 (UInt8.ofNat (48 + u)) rfl (by rw [e]; omega) (by rw [e]; omega) (by rw [e]; omega) (by omega)
   rw [List.nil_append] at this
   rw [this, e]
   congr 1; omega
  ·rename_i h0
   have hk : u % 10 < 10 := Nat.mod_lt _ (by omega)
   have e := aMc hk
   have := pF _ 0 _ (UInt8.ofNat (48 + u % 10)) (ih (u / 10) (by omega) (by omega)) (by rw [e]; omega) (by rw [e]; omega) (by rw [e]; omega) (by omega)
   rw [this, e]
   congr 1; omega
theorem iT (u : Nat) : ∀ b ∈ Lib.decDigits u, dg b.toNat = true := by
 induction u using Nat.strongRecOn with
 | _ u ih =>
  intro b hb
  rw [Lib.decDigits] at hb
  have key : ∀ {k : Nat}, k < 10 → dg (UInt8.ofNat (48 + k)).toNat = true := fun {k} hk => by
   rw [aMc hk, dg, Bool.and_eq_true]
   exact ⟨Nat.ble_eq_true_of_le (by omega), Nat.ble_eq_true_of_le (by omega)⟩
  split at hb
  ·rename_i h0
   rcases List.mem_singleton.1 hb with rfl
   exact key h0
  ·rcases List.mem_append.1 hb with hb | hb
   ·exact ih _ (by omega) b hb
   ·rcases List.mem_singleton.1 hb with rfl
    exact key (Nat.mod_lt _ (by omega))
theorem aId (l : List UInt8) (c : UInt8) : iW (l ++ [c]) = 10 * iW l + (c.toNat - 48) := by
 unfold iW
 rw [List.foldl_append]; rfl
theorem aIf (u : Nat) : iW (Lib.decDigits u) = u := by
 induction u using Nat.strongRecOn with
 | _ u ih =>
  rw [Lib.decDigits]
  split
  ·rename_i h0
   show 10 * 0 + ((UInt8.ofNat (48 + u)).toNat - 48) = u
   rw [aMc h0]; omega
  ·rw [aId, ih _ (by omega), aMc (Nat.mod_lt _ (by omega))]; omega
theorem aFg : ∀ (b : List UInt8) (n : Nat), n ≤ b.foldl (fun n b => 10 * n + (b.toNat - 48)) n
 | [], n => Nat.le_refl _
 | c :: b, n => by
  rw [List.foldl_cons]
  exact Nat.le_trans (by omega) (aFg b _)
theorem fG {u : Nat} (h : u ≤ 4611686018427387904) (k : Nat) : iW ((Lib.decDigits u).take k) ≤ 4611686018427387904 := by
 have h1 := aIf u
 rw [← List.take_append_drop k (Lib.decDigits u)] at h1
 unfold iW at h1
 rw [List.foldl_append] at h1
 have h2 := aFg ((Lib.decDigits u).drop k) (((Lib.decDigits u).take k).foldl (fun n b => 10 * n + (b.toNat - 48)) 0)
 show ((Lib.decDigits u).take k).foldl (fun n b => 10 * n + (b.toNat - 48)) 0 ≤ _
 omega
theorem fE {u : Nat} (h : u < 9223372036854775808) : Lib.atoiAll (Lib.decDigits u) = .ok ((u : Nat) : Int) := by
 have hp := aHy u h
 have hd := iT u
 have hne := eA u
 cases hl : Lib.decDigits u with
 | nil => exact absurd hl hne
 | cons c r =>
  rw [hl] at hp hd
  have hc := aHj (hd c (List.mem_cons_self ..))
  unfold Lib.atoiAll
  simp only
  rw [if_neg (by omega), Lib.parseMag, if_neg (by simp), hp]
  simp only
  rw [if_neg (by omega), if_neg (by omega), if_neg (by omega)]
theorem gU {u : Nat} (h : u < 18446744073709551616) : (Lib.decDigits u).length ≤ 100 := by
 rw [Lib.decDigits_length]
 have := aPl h
 omega
theorem aCv (w : World) (q : Nat) (os : Array Obj) : RowKit.Below w.heap.size w (Sort.grow (w.drewN q) os) :=
 ⟨rfl, rfl, rfl, by simp [Sort.grow], fun i hi => by
  show ((w.drewN q).heap ++ os)[i]? = _
  rw [Array.getElem?_append_left (by show i < w.heap.size; omega)]
  rfl⟩
theorem uI {S : AH} {n : Int} (hT : Tab S) (h0 : -9223372036854775808 ≤ n) (h1 : n ≤ 9223372036854775807) : XCall Tryz.prog 7 [.int .i64 n] S fun v H' => v = .string ⟨⟨Lib.itoa n⟩⟩ ∧ Kept S.nx S H' := by
 refine ⟨_, S, ⟨rfl, Kept.refl _ _⟩, rfl, fun π φ args' w hv hR => ?_⟩
 obtain rfl := gS hv rfl
 refine (Tryz.strconv_Itoa n h0 h1 w (hT.later hR.below)).mono ?_
 rintro e w' ⟨rfl, k, os, rfl⟩
 exact ⟨φ, _, _, S, List.prefix_refl _, rfl, .string _, hR.later (aCv w k os), rfl, rfl, rfl⟩
theorem fmtb_ok {S : AH} {b : Bool} : XCall Tryz.prog 8 [.bool b] S fun v H' => v = .string ⟨⟨shB b⟩⟩ ∧ Kept S.nx S H' := by
 refine ⟨_, S, ⟨rfl, Kept.refl _ _⟩, rfl, fun π φ args' w hv hR => ?_⟩
 obtain rfl := gS hv rfl
 refine (Tryz.strconv_FormatBool b w).mono ?_
 rintro e w' ⟨rfl, rfl⟩
 refine ⟨φ, _, _, S, List.prefix_refl _, rfl, ?_, hR, rfl, rfl, rfl⟩
 have : (Lib.formatBool b).toArray = ⟨shB b⟩ := by cases b <;> decide +kernel
 rw [this]
 exact .string _
end Go.Proofs.YthgfcpgjabodoaaGreatDoor
