/-
  The scripts, byte by byte.
-/
import Derived.Test.YthgfcpgjabodoaaGreatDoorW2
set_option linter.unusedVariables false
set_option linter.unusedSimpArgs false
set_option linter.unusedSectionVars false
set_option maxRecDepth 100000
namespace Go.Proofs.YthgfcpgjabodoaaGreatDoor
open Go Go.AM
def dg (n : Nat) : Bool := Nat.ble 48 n && Nat.ble n 57
def lt (n : Nat) : Bool := (Nat.ble 97 n && Nat.ble n 122) || ((Nat.ble 65 n && Nat.ble n 90) || Nat.beq n 95)
def isB (b : Bool) : Option (Value × List Prop) → Bool
 | some (.bool c, []) => c == b
 | _ => false
theorem yS {b : Bool} {r : Option (Value × List Prop)} (h : isB b r = true) : r = some (.bool b, []) := by
 unfold isB at h
 split at h
 ·rw [eq_of_beq h]
 ·cases h
theorem aCo (w : World) : ((List.range 256).all fun n => isB (dg n) (kR (lD 9 126 [.int .u8 ((n : Nat) : Int)] (AM.start w)))) = true := by kernel_rfl
theorem aCe (w : World) : ((List.range 256).all fun n => isB (lt n) (kR (lD 9 128 [.int .u8 ((n : Nat) : Int)] (AM.start w)))) = true := by kernel_rfl
theorem qU {g : FuncId} {args : List Value} {r : Value} {S : AH} {fuel : Nat} (ha : pnL args = true) (hr : pnV r = true) (hx : dJ args = args) (h : ∀ w, kR (lD fuel g args (AM.start w)) = some (r, [])) : XCall Tryz.prog g args S fun v H' => v = r ∧ Kept S.nx S H' :=
 ⟨r, S, ⟨rfl, Kept.refl _ _⟩, rfl, aAd ha hr (fun w _ => flatA hx h w fun p hp => by cases hp) hx⟩
theorem gB {S : AH} (b : UInt8) : XCall Tryz.prog 126 [.int .u8 ((b.toNat : Nat) : Int)] S fun v H' => v = .bool (dg b.toNat) ∧ Kept S.nx S H' :=
 qU rfl rfl rfl fun w => yS (List.all_eq_true.1 (aCo w) b.toNat (List.mem_range.2 b.toNat_lt))
theorem hZ {S : AH} (b : UInt8) : XCall Tryz.prog 128 [.int .u8 ((b.toNat : Nat) : Int)] S fun v H' => v = .bool (lt b.toNat) ∧ Kept S.nx S H' :=
 qU rfl rfl rfl fun w => yS (List.all_eq_true.1 (aCe w) b.toNat (List.mem_range.2 b.toNat_lt))
theorem aHj {n : Nat} (h : dg n = true) : 48 ≤ n ∧ n ≤ 57 := by
 simp only [dg, Bool.and_eq_true] at h
 exact ⟨Nat.le_of_ble_eq_true h.1, Nat.le_of_ble_eq_true h.2⟩
theorem wrap8 {c : Int} (h0 : 0 ≤ c) (h1 : c < 256) : IntKind.u8.wrap c = c := by
 show c % 256 = c
 omega
theorem aQc {S : AH} {s : ByteArray} {p q : Nat} (hpq : p ≤ q) (hql : q ≤ s.data.toList.length) (hb : ∀ i, p ≤ i → i < q → ∃ b, s.data.toList[i]? = some b ∧ b.toNat = 32) (hq : s.data.toList.length = q ∨ ∃ c, s.data.toList[q]? = some c ∧ c.toNat ≠ 10 ∧ c.toNat ≠ 32 ∧ c.toNat ≠ 9 ∧ c.toNat ≠ 35) (hs : s.data.toList.length ≤ 16384) : XCall Tryz.prog 80 [.string s, .int .i64 ((p : Nat) : Int)] S fun v H' => v = .int .i64 ((q : Nat) : Int) ∧ Kept S.nx S H' := by
 refine fD (E := E) (n := 34) (rs := [.tmp 4]) (l := [(1, _), (0, _)]) (aV Tryz.func80 rfl rfl rfl) (A0 := fun _ => False) (fun j h => h.elim) rfl ?_
 refine aE ?_
 refine aB (E := E) ?_
 refine aC rfl rfl rfl ?_
 refine aD ?_
 refine aE ?_
 refine aB (E := E) ?_
 refine aC rfl rfl rfl ?_
 refine aD ?_
 refine aE ?_
 refine bE ?_
 refine gT (τ := Nat) (fun k => q - k) (fun k => [(0, .string s), (1, .int .i64 ((k : Nat) : Int)), (5, .bool false)]) (fun _ => _) (fun _ => _) (fun _ => []) (fun k => p ≤ k ∧ k ≤ q) (p) (⟨Nat.le_refl _, hpq⟩) (by repeat (first | exact .nil | refine .cons rfl ?_)) rfl rfl (by repeat (first | exact List.nil_sublist _ | apply List.Sublist.cons_cons | apply List.Sublist.cons)) ?_
 intro k hJ2 t1
 obtain ⟨hk0, hk1⟩ := hJ2
 refine aE ?_
 refine aE ?_
 rcases (show k < q ∨ (k = q ∧ s.data.toList.length = q) ∨ (k = q ∧ ∃ c, s.data.toList[q]? = some c ∧ c.toNat ≠ 10 ∧ c.toNat ≠ 32 ∧ c.toNat ≠ 9 ∧ c.toNat ≠ 35) by rcases Nat.lt_or_ge k q with h | h; exact .inl h; exact .inr (hq.imp (fun e => ⟨by omega, e⟩) (fun e => ⟨by omega, e⟩))) with hk | ⟨rfl, hl⟩ | ⟨rfl, c, hc, c1, c2, c3, c4⟩
 ·skip
  obtain ⟨b, hbk, hb32⟩ := hb k hk0 hk
  refine aB (E := E) ?_
  refine aA rfl rfl rfl ?_
  refine aA rfl rfl rfl ?_
  refine eC rfl rfl rfl rfl rfl rfl Tryz.underlying9 ?_
  refine aG rfl rfl rfl rfl (by first | exact aW (by omega) | exact aS (by omega)) ?_
  refine aD ?_
  refine bX rfl ?_
  refine aX ?_
  refine aQ ?_
  refine aE ?_
  refine bE ?_
  refine aE ?_
  refine aB (E := E) ?_
  refine aA rfl rfl rfl ?_
  refine aA rfl rfl rfl ?_
  refine eE rfl rfl rfl rfl Tryz.underlying9 (by assumption) ?_
  refine aC rfl rfl rfl ?_
  refine aD ?_
  refine bE ?_
  refine aE ?_
  refine aB (E := E) ?_
  refine aA rfl rfl rfl ?_
  refine aG rfl rfl rfl rfl (by first | exact bN (by first | rfl | assumption | omega) | exact bJ (by first | rfl | assumption | omega)) ?_
  refine aC rfl rfl rfl ?_
  refine aD ?_
  refine aM rfl ?_
  refine aE ?_
  refine aB (E := E) ?_
  refine aA rfl rfl rfl ?_
  refine aA rfl rfl rfl ?_
  first | refine aA rfl rfl rfl ?_ | refine aH rfl rfl rfl ?_
  first | refine aG rfl rfl rfl rfl (by first | exact bN (by first | rfl | assumption | omega) | exact bJ (by first | rfl | assumption | omega)) ?_ | refine aH rfl rfl rfl ?_
  first | refine bA rfl rfl rfl rfl ?_ | refine bB rfl rfl rfl rfl ?_
  refine aA rfl rfl rfl ?_
  first | refine aA rfl rfl rfl ?_ | refine aH rfl rfl rfl ?_
  first | refine aG rfl rfl rfl rfl (by first | exact bN (by first | rfl | assumption | omega) | exact bJ (by first | rfl | assumption | omega)) ?_ | refine aH rfl rfl rfl ?_
  first | refine bA rfl rfl rfl rfl ?_ | refine bB rfl rfl rfl rfl ?_
  refine aC rfl rfl rfl ?_
  refine aD ?_
  refine bX rfl ?_
  refine aX ?_
  refine cP ?_
  refine cP ?_
  refine aQ ?_
  refine aB (E := E) ?_
  refine aA rfl rfl rfl ?_
  refine aG rfl rfl rfl rfl (by first | exact bC (by omega) | exact aF (aK (by omega) (by omega)) | exact aF rfl) ?_
  refine aC rfl rfl rfl ?_
  refine eY ?_
  exact dR (k + 1) (show q - (k + 1) < q - k by omega) ⟨by omega, by omega⟩ (by repeat (first | exact .nil | refine .cons rfl ?_)) rfl rfl (List.nil_sublist _)
 ·skip
  refine aB (E := E) ?_
  refine aA rfl rfl rfl ?_
  refine aA rfl rfl rfl ?_
  refine eC rfl rfl rfl rfl rfl rfl Tryz.underlying9 ?_
  refine aG rfl rfl rfl rfl (by first | exact aW (by omega) | exact aS (by omega)) ?_
  refine aD ?_
  refine aM rfl ?_
  refine kG ?_
  refine eG ?_
  refine eK ?_
  refine dL ?_
  refine aQ ?_
  refine aE ?_
  refine aB (E := E) ?_
  refine aA rfl rfl rfl ?_
  refine aC rfl rfl rfl ?_
  refine aD ?_
  refine cI ?_
  refine bH (.tmp rfl .nil) ?_
  exact fun H hH => ⟨rfl, hH.kept⟩
 ·skip
  have hcl := lt_of_getElem? hc
  refine aB (E := E) ?_
  refine aA rfl rfl rfl ?_
  refine aA rfl rfl rfl ?_
  refine eC rfl rfl rfl rfl rfl rfl Tryz.underlying9 ?_
  refine aG rfl rfl rfl rfl (by first | exact aW (by omega) | exact aS (by omega)) ?_
  refine aD ?_
  refine bX rfl ?_
  refine aX ?_
  refine aQ ?_
  refine aE ?_
  refine bE ?_
  refine aE ?_
  refine aB (E := E) ?_
  refine aA rfl rfl rfl ?_
  refine aA rfl rfl rfl ?_
  refine eE rfl rfl rfl rfl Tryz.underlying9 (by assumption) ?_
  refine aC rfl rfl rfl ?_
  refine aD ?_
  refine bE ?_
  refine aE ?_
  refine aB (E := E) ?_
  refine aA rfl rfl rfl ?_
  refine aG rfl rfl rfl rfl (by first | exact bN (by first | rfl | assumption | omega) | exact bJ (by first | rfl | assumption | omega)) ?_
  refine aC rfl rfl rfl ?_
  refine aD ?_
  refine aM rfl ?_
  refine aE ?_
  refine aB (E := E) ?_
  refine aA rfl rfl rfl ?_
  refine aA rfl rfl rfl ?_
  first | refine aA rfl rfl rfl ?_ | refine aH rfl rfl rfl ?_
  first | refine aG rfl rfl rfl rfl (by first | exact bN (by first | rfl | assumption | omega) | exact bJ (by first | rfl | assumption | omega)) ?_ | refine aH rfl rfl rfl ?_
  first | refine bA rfl rfl rfl rfl ?_ | refine bB rfl rfl rfl rfl ?_
  refine aA rfl rfl rfl ?_
  first | refine aA rfl rfl rfl ?_ | refine aH rfl rfl rfl ?_
  first | refine aG rfl rfl rfl rfl (by first | exact bN (by first | rfl | assumption | omega) | exact bJ (by first | rfl | assumption | omega)) ?_ | refine aH rfl rfl rfl ?_
  first | refine bA rfl rfl rfl rfl ?_ | refine bB rfl rfl rfl rfl ?_
  refine aC rfl rfl rfl ?_
  refine aD ?_
  refine aM rfl ?_
  refine aE ?_
  refine aB (E := E) ?_
  refine aA rfl rfl rfl ?_
  refine aG rfl rfl rfl rfl (by first | exact bN (by first | rfl | assumption | omega) | exact bJ (by first | rfl | assumption | omega)) ?_
  refine aC rfl rfl rfl ?_
  refine aD ?_
  refine aM rfl ?_
  refine aE ?_
  refine aB (E := E) ?_
  refine aA rfl rfl rfl ?_
  refine aC rfl rfl rfl ?_
  refine aD ?_
  refine cI ?_
  refine cA ?_
  refine cA ?_
  refine bT ?_
  refine iZ ?_
  refine cA ?_
  refine bT ?_
  refine bH (.tmp rfl .nil) ?_
  exact fun H hH => ⟨rfl, hH.kept⟩
set_option maxHeartbeats 1000000 in
theorem aHe {S : AH} {s : ByteArray} {p n : Nat} {val : Nat → Nat} (hd : ∀ j, j < n → ∃ b, s.data.toList[p + j]? = some b ∧ dg b.toNat = true ∧ val (j + 1) = 10 * val j + (b.toNat - 48)) (hv0 : val 0 = 0) (hv : ∀ j, j ≤ n → val j ≤ 4611686018427387904) (he : ∃ c, s.data.toList[p + n]? = some c ∧ dg c.toNat = false ∧ lt c.toNat = false) (hs : s.data.toList.length ≤ 16384) : XCall Tryz.prog 127 [.string s, .int .i64 ((p : Nat) : Int)] S fun v H' => v = .tuple ⟨[.agg ⟨[.int .i64 1, .string ⟨⟨(s.data.toList.take (p + n)).drop (p)⟩⟩, .int .i64 ((p : Nat) : Int)]⟩, .int .i64 ((p + n : Nat) : Int), .int .i64 0]⟩ ∧ Kept S.nx S H' := by
 obtain ⟨c, hc, hcd, hcl⟩ := he
 have hlen := lt_of_getElem? hc
 refine fD (E := E) (n := 56) (rs := [.cell 4 121, .tmp 5, .tmp 6]) (l := [(1, _), (0, _)]) (aV Tryz.func127 rfl rfl rfl) (A0 := fun _ => False) (fun j h => h.elim) rfl ?_
 refine aE ?_
 refine aB (E := E) ?_
 refine cZ (cs := (.int .i64 0 :: .string ⟨#[]⟩ :: .int .i64 0 :: [])) rfl rfl (fun h => nomatch h) cC rfl rfl ?_
 intro N4
 refine aC rfl rfl rfl ?_
 refine aC rfl rfl rfl ?_
 refine aD ?_
 refine aE ?_
 refine aB (E := E) ?_
 refine aA rfl rfl rfl ?_
 refine aC rfl rfl rfl ?_
 refine aC rfl rfl rfl ?_
 refine aD ?_
 refine aE ?_
 refine bE ?_
 refine gT (τ := Nat) (fun k => n - k) (fun k => [(0, .string s), (1, .int .i64 ((p : Nat) : Int)), (4, .pointer (some ⟨2 * N4 + 1, 0, none⟩)), (7, .int .i64 ((p + k : Nat) : Int)), (8, .int .i64 ((val k : Nat) : Int))]) (fun _ => _) (fun _ => _) (fun _ => [(N4, _)]) (fun k => k ≤ n) (0) (Nat.zero_le _) (by simp only [hv0, Nat.add_zero]; repeat (first | exact .nil | refine .cons rfl ?_)) rfl rfl (List.Sublist.refl _) ?_
 intro k hJ2 t1
 refine aE ?_
 refine aE ?_
 rcases Nat.lt_or_ge k n with hk | hk
 ·skip
  obtain ⟨b, hb, hbd, hvk⟩ := hd k hk
  have hb57 := aHj hbd
  have hv1 := hv (k + 1) (by omega)
  have hv2 := hv k (by omega)
  have hbl := lt_of_getElem? hb
  refine aB (E := E) ?_
  refine aA rfl rfl rfl ?_
  refine aA rfl rfl rfl ?_
  refine eC rfl rfl rfl rfl rfl rfl Tryz.underlying9 ?_
  refine aG rfl rfl rfl rfl (by first | exact aW (by omega) | exact aS (by omega)) ?_
  refine aA rfl rfl rfl ?_
  first | refine aA rfl rfl rfl ?_ | refine aH rfl rfl rfl ?_
  first | refine aA rfl rfl rfl ?_ | refine aH rfl rfl rfl ?_
  first | refine eE rfl rfl rfl rfl Tryz.underlying9 (by assumption) ?_ | refine aH rfl rfl rfl ?_
  first | refine bO rfl rfl (fun h => nomatch h) rfl nC (by repeat (first | exact Opvs.nil | apply Opvs.cons rfl)) (fun H hH => (gB b).b hbd) ?_ | refine aH rfl rfl rfl ?_
  first | refine bA rfl rfl rfl rfl ?_ | refine bB rfl rfl rfl rfl ?_
  refine aD ?_
  refine bX rfl ?_
  refine aX ?_
  refine aQ ?_
  refine aE ?_
  refine bE ?_
  refine aE ?_
  refine aB (E := E) ?_
  refine aA rfl rfl rfl ?_
  refine aA rfl rfl rfl ?_
  refine eE rfl rfl rfl rfl Tryz.underlying9 (by assumption) ?_
  refine aG rfl rfl rfl rfl (by first | exact gE (c := ((b.toNat - 48 : Nat) : Int)) ((wrap8 (by omega) (by omega)).trans (by omega)) | exact qD (by omega) | exact gE (aK (by omega) (by omega)) | exact gE rfl) ?_
  refine qO rfl rfl rfl Tryz.underlying5 Tryz.underlying3 (by first | exact aK (by omega) (by omega) | rfl) ?_
  refine aC rfl rfl rfl ?_
  refine aD ?_
  refine aE ?_
  refine aE ?_
  refine aB (E := E) ?_
  refine aA rfl rfl rfl ?_
  refine aA rfl rfl rfl ?_
  refine aG rfl rfl rfl rfl (by first | exact gE (aK (by omega) (by omega)) | exact qD (by omega) | exact gE (aK (by omega) (by omega)) | exact gE rfl) ?_
  refine aG rfl rfl rfl rfl (by first | exact aOd (by decide) (aK (by rw [Int.tdiv_eq_ediv_of_nonneg (by omega)]; omega) (by rw [Int.tdiv_eq_ediv_of_nonneg (by omega)]; omega))) ?_
  refine aG rfl rfl rfl rfl (by first | exact aY (by rw [Int.tdiv_eq_ediv_of_nonneg (by omega)]; omega) | exact bU (by omega) | exact aY (by omega)) ?_
  refine aD ?_
  refine aM rfl ?_
  refine aX ?_
  refine aQ ?_
  refine aB (E := E) ?_
  refine aA rfl rfl rfl ?_
  refine aG rfl rfl rfl rfl (by first | exact aOz (aK (by omega) (by omega))) ?_
  refine aA rfl rfl rfl ?_
  refine aG rfl rfl rfl rfl (by first | exact aF (c := ((10 * val k + (b.toNat - 48) : Nat) : Int)) (by rw [aK (by omega) (by omega)]; omega) | exact bC (by omega) | exact aF (aK (by omega) (by omega)) | exact aF rfl) ?_
  refine aC rfl rfl rfl ?_
  refine eY ?_
  refine cP ?_
  refine aQ ?_
  refine aB (E := E) ?_
  refine aA rfl rfl rfl ?_
  refine aG rfl rfl rfl rfl (by first | exact bC (by omega) | exact aF (aK (by omega) (by omega)) | exact aF rfl) ?_
  refine aC rfl rfl rfl ?_
  refine eY ?_
  refine dR (k + 1) (show n - (k + 1) < n - k by omega) (show k + 1 ≤ n by omega) ?_ rfl rfl (List.Sublist.refl _)
  rw [hvk, show p + (k + 1) = p + k + 1 by omega]
  repeat (first | exact .nil | refine .cons rfl ?_)
 ·skip
  obtain rfl : k = n := by omega
  refine aB (E := E) ?_
  refine aA rfl rfl rfl ?_
  refine aA rfl rfl rfl ?_
  refine eC rfl rfl rfl rfl rfl rfl Tryz.underlying9 ?_
  refine aG rfl rfl rfl rfl (by first | exact aW (by omega) | exact aS (by omega)) ?_
  refine aA rfl rfl rfl ?_
  first | refine aA rfl rfl rfl ?_ | refine aH rfl rfl rfl ?_
  first | refine aA rfl rfl rfl ?_ | refine aH rfl rfl rfl ?_
  first | refine eE rfl rfl rfl rfl Tryz.underlying9 (by assumption) ?_ | refine aH rfl rfl rfl ?_
  first | refine bO rfl rfl (fun h => nomatch h) rfl nC (by repeat (first | exact Opvs.nil | apply Opvs.cons rfl)) (fun H hH => (gB c).b hcd) ?_ | refine aH rfl rfl rfl ?_
  first | refine bA rfl rfl rfl rfl ?_ | refine bB rfl rfl rfl rfl ?_
  refine aD ?_
  refine aM rfl ?_
  refine kG ?_
  refine eG ?_
  refine eK ?_
  refine dL ?_
  refine aQ ?_
  refine aE ?_
  refine aE ?_
  refine aB (E := E) ?_
  refine aA rfl rfl rfl ?_
  refine aA rfl rfl rfl ?_
  refine eC rfl rfl rfl rfl rfl rfl Tryz.underlying9 ?_
  refine aG rfl rfl rfl rfl (by first | exact aW (by omega) | exact aS (by omega)) ?_
  refine aA rfl rfl rfl ?_
  first | refine aA rfl rfl rfl ?_ | refine aH rfl rfl rfl ?_
  first | refine aA rfl rfl rfl ?_ | refine aH rfl rfl rfl ?_
  first | refine eE rfl rfl rfl rfl Tryz.underlying9 (by assumption) ?_ | refine aH rfl rfl rfl ?_
  first | refine bO rfl rfl (fun h => nomatch h) rfl tD (by repeat (first | exact Opvs.nil | apply Opvs.cons rfl)) (fun H hH => (hZ c).b hcl) ?_ | refine aH rfl rfl rfl ?_
  first | refine bA rfl rfl rfl rfl ?_ | refine bB rfl rfl rfl rfl ?_
  refine aD ?_
  refine aM rfl ?_
  refine aX ?_
  refine aQ ?_
  refine aE ?_
  refine aB (E := E) ?_
  refine aA rfl rfl rfl ?_
  refine aA rfl rfl rfl ?_
  refine aA rfl rfl rfl ?_
  refine lP rfl rfl rfl Tryz.underlying9 (.some rfl) (.some rfl) (hU (a := p) (b := p + k) (by omega) (by omega)) ?_
  refine aA rfl rfl rfl ?_
  refine iY rfl rfl (by repeat (first | exact Opps.nil | apply Opps.cons rfl)) (by rfl) ?_
  refine aA rfl rfl rfl ?_
  refine cQ rfl (fun h => nomatch h) rfl rfl cC (by first | exact aI _ _ | rfl) rfl (by repeat (first | exact .zero | apply Upd.succ)) (by first | exact bW rfl | exact bR rfl | exact bK rfl | exact cD rfl | rfl) (by first | exact aT rfl rfl | exact aT rfl (aI _ _) | exact aP rfl | exact Nat.le_of_ble_eq_true rfl | omega) (fun h => nomatch h) ?_
  refine aC rfl rfl rfl ?_
  refine aC rfl rfl rfl ?_
  refine aD ?_
  refine cI ?_
  refine eS (.cell rfl (by first | exact cM Tryz.underlying121 rfl cC rfl (by repeat (first | exact List.Mem.head _ | apply List.Mem.tail | apply List.mem_append_right)) (by first | exact aP rfl | exact Nat.le_of_ble_eq_true rfl | decide | omega) (by first | exact bM | exact take_all rfl | exact bD rfl | rfl) | exact cF Tryz.underlying121 rfl cC rfl (by first | assumption | exact InA.add (by assumption) | exact InA.add (InA.add (by assumption))) (by assumption)) (.tmp rfl (.tmp rfl .nil))) rfl ?_
  exact fun H hH => ⟨rfl, hH.kept⟩
set_option maxHeartbeats 1000000 in
theorem aOr {S : AH} {s : ByteArray} {p n : Nat} {r : Bool} (hd : ∀ j, j < n → ∃ b, s.data.toList[p + j]? = some b ∧ lt b.toNat = true) (hn : n ≤ 32) (he : ∃ c, s.data.toList[p + n]? = some c ∧ dg c.toNat = false ∧ lt c.toNat = false) (hR : ∀ S : AH, XCall Tryz.prog 175 [.string ⟨⟨(s.data.toList.take (p + n)).drop p⟩⟩] S fun v H' => v = .bool r ∧ Kept S.nx S H') (hs : s.data.toList.length ≤ 16384) : XCall Tryz.prog 129 [.string s, .int .i64 ((p : Nat) : Int)] S fun v H' => v = .tuple ⟨[.agg ⟨[.int .i64 (bif r then 5 else 3), .string ⟨⟨(s.data.toList.take (p + n)).drop (p)⟩⟩, .int .i64 ((p : Nat) : Int)]⟩, .int .i64 ((p + n : Nat) : Int), .int .i64 0]⟩ ∧ Kept S.nx S H' := by
 obtain ⟨c, hc, hcd, hcl⟩ := he
 have hlen := lt_of_getElem? hc
 have hcut : ((s.data.toList.take (p + n)).drop p).length = n := by rw [List.length_drop, List.length_take]; omega
 refine fD (E := E) (n := 45) (rs := [.cell 4 121, .tmp 5, .tmp 6]) (l := [(1, _), (0, _)]) (aV Tryz.func129 rfl rfl rfl) (A0 := fun _ => False) (fun j h => h.elim) rfl ?_
 refine aE ?_
 refine aB (E := E) ?_
 refine cZ (cs := (.int .i64 0 :: .string ⟨#[]⟩ :: .int .i64 0 :: [])) rfl rfl (fun h => nomatch h) cC rfl rfl ?_
 intro N4
 refine aC rfl rfl rfl ?_
 refine aC rfl rfl rfl ?_
 refine aD ?_
 refine aE ?_
 refine aB (E := E) ?_
 refine aA rfl rfl rfl ?_
 refine aC rfl rfl rfl ?_
 refine aD ?_
 refine aE ?_
 refine bE ?_
 refine gT (τ := Nat) (fun k => n - k) (fun k => [(0, .string s), (1, .int .i64 ((p : Nat) : Int)), (4, .pointer (some ⟨2 * N4 + 1, 0, none⟩)), (7, .int .i64 ((p + k : Nat) : Int))]) (fun _ => _) (fun _ => _) (fun _ => [(N4, _)]) (fun k => k ≤ n) (0) (Nat.zero_le _) (by repeat (first | exact .nil | refine .cons rfl ?_)) rfl rfl (List.Sublist.refl _) ?_
 intro k hJ2 t1
 refine aE ?_
 refine aE ?_
 rcases Nat.lt_or_ge k n with hk | hk
 ·skip
  obtain ⟨b, hb, hbl⟩ := hd k hk
  have hbs := lt_of_getElem? hb
  refine aB (E := E) ?_
  refine aA rfl rfl rfl ?_
  refine aA rfl rfl rfl ?_
  refine eC rfl rfl rfl rfl rfl rfl Tryz.underlying9 ?_
  refine aG rfl rfl rfl rfl (by first | exact aW (by omega) | exact aS (by omega)) ?_
  refine aA rfl rfl rfl ?_
  first | refine aA rfl rfl rfl ?_ | refine aH rfl rfl rfl ?_
  first | refine aA rfl rfl rfl ?_ | refine aH rfl rfl rfl ?_
  first | refine eE rfl rfl rfl rfl Tryz.underlying9 (by assumption) ?_ | refine aH rfl rfl rfl ?_
  first | refine bO rfl rfl (fun h => nomatch h) rfl tD (by repeat (first | exact Opvs.nil | apply Opvs.cons rfl)) (fun H hH => (hZ b).b hbl) ?_ | refine aH rfl rfl rfl ?_
  first | refine aA rfl rfl rfl ?_ | refine aH rfl rfl rfl ?_
  first | refine aA rfl rfl rfl ?_ | refine aH rfl rfl rfl ?_
  first | refine aA rfl rfl rfl ?_ | refine aH rfl rfl rfl ?_
  first | refine eE rfl rfl rfl rfl Tryz.underlying9 (by assumption) ?_ | refine aH rfl rfl rfl ?_
  first | refine bO rfl rfl (fun h => nomatch h) rfl nC (by repeat (first | exact Opvs.nil | apply Opvs.cons rfl)) (fun H hH => (gB c).b hcd) ?_ | refine aH rfl rfl rfl ?_
  first | refine bA rfl rfl rfl rfl ?_ | refine bB rfl rfl rfl rfl ?_ | refine aH rfl rfl rfl ?_
  first | refine bA rfl rfl rfl rfl ?_ | refine bB rfl rfl rfl rfl ?_
  refine aD ?_
  refine bX rfl ?_
  refine aX ?_
  refine aQ ?_
  refine bE ?_
  refine aB (E := E) ?_
  refine aA rfl rfl rfl ?_
  refine aG rfl rfl rfl rfl (by first | exact bC (by omega) | exact aF (aK (by omega) (by omega)) | exact aF rfl) ?_
  refine aC rfl rfl rfl ?_
  refine eY ?_
  refine cP ?_
  refine dR (k + 1) (show n - (k + 1) < n - k by omega) (show k + 1 ≤ n by omega) ?_ rfl rfl (List.Sublist.refl _)
  rw [show p + (k + 1) = p + k + 1 by omega]
  repeat (first | exact .nil | refine .cons rfl ?_)
 ·skip
  obtain rfl : k = n := by omega
  refine aB (E := E) ?_
  refine aA rfl rfl rfl ?_
  refine aA rfl rfl rfl ?_
  refine eC rfl rfl rfl rfl rfl rfl Tryz.underlying9 ?_
  refine aG rfl rfl rfl rfl (by first | exact aW (by omega) | exact aS (by omega)) ?_
  refine aA rfl rfl rfl ?_
  first | refine aA rfl rfl rfl ?_ | refine aH rfl rfl rfl ?_
  first | refine aA rfl rfl rfl ?_ | refine aH rfl rfl rfl ?_
  first | refine eE rfl rfl rfl rfl Tryz.underlying9 (by assumption) ?_ | refine aH rfl rfl rfl ?_
  first | refine bO rfl rfl (fun h => nomatch h) rfl tD (by repeat (first | exact Opvs.nil | apply Opvs.cons rfl)) (fun H hH => (hZ c).b hcl) ?_ | refine aH rfl rfl rfl ?_
  first | refine aA rfl rfl rfl ?_ | refine aH rfl rfl rfl ?_
  first | refine aA rfl rfl rfl ?_ | refine aH rfl rfl rfl ?_
  first | refine aA rfl rfl rfl ?_ | refine aH rfl rfl rfl ?_
  first | refine eE rfl rfl rfl rfl Tryz.underlying9 (by assumption) ?_ | refine aH rfl rfl rfl ?_
  first | refine bO rfl rfl (fun h => nomatch h) rfl nC (by repeat (first | exact Opvs.nil | apply Opvs.cons rfl)) (fun H hH => (gB c).b hcd) ?_ | refine aH rfl rfl rfl ?_
  first | refine bA rfl rfl rfl rfl ?_ | refine bB rfl rfl rfl rfl ?_ | refine aH rfl rfl rfl ?_
  first | refine bA rfl rfl rfl rfl ?_ | refine bB rfl rfl rfl rfl ?_
  refine aD ?_
  refine aM rfl ?_
  refine kG ?_
  refine eG ?_
  refine eK ?_
  refine dL ?_
  refine aQ ?_
  refine aE ?_
  refine aB (E := E) ?_
  refine aA rfl rfl rfl ?_
  refine aA rfl rfl rfl ?_
  refine aA rfl rfl rfl ?_
  refine lP rfl rfl rfl Tryz.underlying9 (.some rfl) (.some rfl) (hU (a := p) (b := p + k) (by omega) (by omega)) ?_
  refine aA rfl rfl rfl ?_
  refine iY rfl rfl (by repeat (first | exact Opps.nil | apply Opps.cons rfl)) (by rfl) ?_
  refine cZ (cs := (.int .i64 0 :: .string ⟨#[]⟩ :: .int .i64 0 :: [])) rfl rfl (fun h => nomatch h) cC rfl rfl ?_
  intro N8
  refine cQ rfl (fun h => nomatch h) rfl rfl cC (by first | exact aI _ _ | rfl) rfl (by repeat (first | exact .zero | apply Upd.succ)) (by first | exact bW rfl | exact bR rfl | exact bK rfl | exact cD rfl | rfl) (by first | exact aT rfl rfl | exact aT rfl (aI _ _) | exact aP rfl | exact Nat.le_of_ble_eq_true rfl | omega) (fun h => nomatch h) ?_
  refine aD ?_
  refine aE ?_
  refine aE ?_
  cases r
  ·skip
   refine aB (E := E) ?_
   refine bG (o' := 1) rfl rfl rfl Tryz.underlying121 rfl aLg rfl rfl ?_
   refine bL rfl rfl rfl (by first | exact cS Tryz.underlying9 rfl (by repeat (first | exact List.Mem.head _ | apply List.Mem.tail | apply List.mem_append_right)) (by first | exact aL rfl | rfl) | exact cG Tryz.underlying9 rfl (by first | assumption | exact InA.add (by assumption) | exact InA.add (InA.add (by assumption))) (by assumption)) ?_
   refine bO rfl rfl (fun h => nomatch h) rfl aKa (by repeat (first | exact Opvs.nil | apply Opvs.cons rfl)) (fun H hH => hR H) ?_
   refine aD ?_
   refine aM rfl ?_
   refine aX ?_
   refine aQ ?_
   refine aE ?_
   refine aE ?_
   refine aB (E := E) ?_
   refine bG (o' := 1) rfl rfl rfl Tryz.underlying121 rfl aLg rfl rfl ?_
   refine bL rfl rfl rfl (by first | exact cS Tryz.underlying9 rfl (by repeat (first | exact List.Mem.head _ | apply List.Mem.tail | apply List.mem_append_right)) (by first | exact aL rfl | rfl) | exact cG Tryz.underlying9 rfl (by first | assumption | exact InA.add (by assumption) | exact InA.add (InA.add (by assumption))) (by assumption)) ?_
   refine eC rfl rfl rfl rfl rfl rfl Tryz.underlying9 ?_
   refine aG rfl rfl rfl rfl (by first | exact aY (by show ((((s.data.toList.take (p + k)).drop p).length : Nat) : Int) ≤ 32; omega) | exact bU (by omega) | exact aY (by omega)) ?_
   refine aD ?_
   refine aM rfl ?_
   refine aX ?_
   refine aQ ?_
   refine aE ?_
   refine aB (E := E) ?_
   refine bL rfl rfl rfl (by first | exact cM Tryz.underlying121 rfl cC rfl (by repeat (first | exact List.Mem.head _ | apply List.Mem.tail | apply List.mem_append_right)) (by first | exact aP rfl | exact Nat.le_of_ble_eq_true rfl | decide | omega) (by first | exact bM | exact take_all rfl | exact bD rfl | rfl) | exact cF Tryz.underlying121 rfl cC rfl (by first | assumption | exact InA.add (by assumption) | exact InA.add (InA.add (by assumption))) (by assumption)) ?_
   refine aA rfl rfl rfl ?_
   refine cQ rfl (fun h => nomatch h) rfl rfl cC (by first | exact aI _ _ | rfl) rfl (by repeat (first | exact .zero | apply Upd.succ)) (by first | exact bW rfl | exact bR rfl | exact bK rfl | exact cD rfl | rfl) (by first | exact aT rfl rfl | exact aT rfl (aI _ _) | exact aP rfl | exact Nat.le_of_ble_eq_true rfl | omega) (fun h => nomatch h) ?_
   refine aC rfl rfl rfl ?_
   refine aC rfl rfl rfl ?_
   refine aD ?_
   refine cI ?_
   refine eS (.cell rfl (by first | exact cM Tryz.underlying121 rfl cC rfl (by repeat (first | exact List.Mem.head _ | apply List.Mem.tail | apply List.mem_append_right)) (by first | exact aP rfl | exact Nat.le_of_ble_eq_true rfl | decide | omega) (by first | exact bM | exact take_all rfl | exact bD rfl | rfl) | exact cF Tryz.underlying121 rfl cC rfl (by first | assumption | exact InA.add (by assumption) | exact InA.add (InA.add (by assumption))) (by assumption)) (.tmp rfl (.tmp rfl .nil))) rfl ?_
   exact fun H hH => ⟨rfl, hH.kept⟩
  ·skip
   refine aB (E := E) ?_
   refine bG (o' := 1) rfl rfl rfl Tryz.underlying121 rfl aLg rfl rfl ?_
   refine bL rfl rfl rfl (by first | exact cS Tryz.underlying9 rfl (by repeat (first | exact List.Mem.head _ | apply List.Mem.tail | apply List.mem_append_right)) (by first | exact aL rfl | rfl) | exact cG Tryz.underlying9 rfl (by first | assumption | exact InA.add (by assumption) | exact InA.add (InA.add (by assumption))) (by assumption)) ?_
   refine bO rfl rfl (fun h => nomatch h) rfl aKa (by repeat (first | exact Opvs.nil | apply Opvs.cons rfl)) (fun H hH => hR H) ?_
   refine aD ?_
   refine bX rfl ?_
   refine aB (E := E) ?_
   refine bG (o' := 0) rfl rfl rfl Tryz.underlying121 rfl kP rfl rfl ?_
   refine jL rfl (fun h => nomatch h) rfl rfl kP rfl rfl (by repeat (first | exact .zero | apply Upd.succ)) (by first | exact bW rfl | exact bR rfl | exact bK rfl | exact cD rfl | rfl) (by first | exact aT rfl rfl | exact aT rfl (aI _ _) | exact aP rfl | exact Nat.le_of_ble_eq_true rfl | omega) (fun h => nomatch h) ?_
   refine aD ?_
   refine aE ?_
   refine aE ?_
   refine aB (E := E) ?_
   refine bG (o' := 1) rfl rfl rfl Tryz.underlying121 rfl aLg rfl rfl ?_
   refine bL rfl rfl rfl (by first | exact cS Tryz.underlying9 rfl (by repeat (first | exact List.Mem.head _ | apply List.Mem.tail | apply List.mem_append_right)) (by first | exact aL rfl | rfl) | exact cG Tryz.underlying9 rfl (by first | assumption | exact InA.add (by assumption) | exact InA.add (InA.add (by assumption))) (by assumption)) ?_
   refine eC rfl rfl rfl rfl rfl rfl Tryz.underlying9 ?_
   refine aG rfl rfl rfl rfl (by first | exact aY (by show ((((s.data.toList.take (p + k)).drop p).length : Nat) : Int) ≤ 32; omega) | exact bU (by omega) | exact aY (by omega)) ?_
   refine aD ?_
   refine aM rfl ?_
   refine aX ?_
   refine aQ ?_
   refine aE ?_
   refine aB (E := E) ?_
   refine bL rfl rfl rfl (by first | exact cM Tryz.underlying121 rfl cC rfl (by repeat (first | exact List.Mem.head _ | apply List.Mem.tail | apply List.mem_append_right)) (by first | exact aP rfl | exact Nat.le_of_ble_eq_true rfl | decide | omega) (by first | exact bM | exact take_all rfl | exact bD rfl | rfl) | exact cF Tryz.underlying121 rfl cC rfl (by first | assumption | exact InA.add (by assumption) | exact InA.add (InA.add (by assumption))) (by assumption)) ?_
   refine aA rfl rfl rfl ?_
   refine cQ rfl (fun h => nomatch h) rfl rfl cC (by first | exact aI _ _ | rfl) rfl (by repeat (first | exact .zero | apply Upd.succ)) (by first | exact bW rfl | exact bR rfl | exact bK rfl | exact cD rfl | rfl) (by first | exact aT rfl rfl | exact aT rfl (aI _ _) | exact aP rfl | exact Nat.le_of_ble_eq_true rfl | omega) (fun h => nomatch h) ?_
   refine aC rfl rfl rfl ?_
   refine aC rfl rfl rfl ?_
   refine aD ?_
   refine cI ?_
   refine eS (.cell rfl (by first | exact cM Tryz.underlying121 rfl cC rfl (by repeat (first | exact List.Mem.head _ | apply List.Mem.tail | apply List.mem_append_right)) (by first | exact aP rfl | exact Nat.le_of_ble_eq_true rfl | decide | omega) (by first | exact bM | exact take_all rfl | exact bD rfl | rfl) | exact cF Tryz.underlying121 rfl cC rfl (by first | assumption | exact InA.add (by assumption) | exact InA.add (InA.add (by assumption))) (by assumption)) (.tmp rfl (.tmp rfl .nil))) rfl ?_
   exact fun H hH => ⟨rfl, hH.kept⟩
end Go.Proofs.YthgfcpgjabodoaaGreatDoor
namespace Go.Proofs.YthgfcpgjabodoaaGreatDoor
open Go Go.AM
theorem aHc {S : AH} {s : ByteArray} {p e : Nat} {kk : Int} {tx : ByteArray} {c : UInt8} (hc : s.data.toList[p]? = some c) (hcd : dg c.toNat = true) (hr : ∀ S : AH, XCall Tryz.prog 127 [.string s, .int .i64 ((p : Nat) : Int)] S fun v H' => v = .tuple ⟨[.agg ⟨[.int .i64 kk, .string tx, .int .i64 ((p : Nat) : Int)]⟩, .int .i64 ((e : Nat) : Int), .int .i64 0]⟩ ∧ Kept S.nx S H') : XCall Tryz.prog 81 [.string s, .int .i64 ((p : Nat) : Int)] S fun v H' => v = .tuple ⟨[.agg ⟨[.int .i64 kk, .string tx, .int .i64 ((p : Nat) : Int)]⟩, .int .i64 ((e : Nat) : Int), .int .i64 0]⟩ ∧ Kept S.nx S H' := by
 refine fD (E := E) (n := 70) (rs := [.cell 4 121, .tmp 5, .tmp 6]) (l := [(1, _), (0, _)]) (aV Tryz.func81 rfl rfl rfl) (A0 := fun _ => False) (fun j h => h.elim) rfl ?_
 refine aE ?_
 refine aB (E := E) ?_
 refine cZ (cs := (.int .i64 0 :: .string ⟨#[]⟩ :: .int .i64 0 :: [])) rfl rfl (fun h => nomatch h) cC rfl rfl ?_
 intro N4
 refine aC rfl rfl rfl ?_
 refine aC rfl rfl rfl ?_
 refine aD ?_
 refine aE ?_
 refine aE ?_
 refine aB (E := E) ?_
 refine aA rfl rfl rfl ?_
 refine aA rfl rfl rfl ?_
 refine eE rfl rfl rfl rfl Tryz.underlying9 (by assumption) ?_
 refine aC rfl rfl rfl ?_
 refine aD ?_
 refine bE ?_
 refine aE ?_
 refine aB (E := E) ?_
 refine aA rfl rfl rfl ?_
 refine bO rfl rfl (fun h => nomatch h) rfl nC (by repeat (first | exact Opvs.nil | apply Opvs.cons rfl)) (fun H hH => (gB c).b hcd) ?_
 refine aC rfl rfl rfl ?_
 refine aD ?_
 refine bX rfl ?_
 refine aE ?_
 refine aB (E := E) ?_
 refine aA rfl rfl rfl ?_
 refine aA rfl rfl rfl ?_
 refine bO rfl rfl (fun h => nomatch h) rfl aSn (by repeat (first | exact Opvs.nil | apply Opvs.cons rfl)) (fun H hH => hr H) ?_
 refine bP rfl rfl rfl rfl ?_
 refine bP rfl rfl rfl rfl ?_
 refine bP rfl rfl rfl rfl ?_
 refine cQ rfl (fun h => nomatch h) rfl rfl cC (by first | exact aI _ _ | rfl) rfl (by repeat (first | exact .zero | apply Upd.succ)) (by first | exact bW rfl | exact bR rfl | exact bK rfl | exact cD rfl | rfl) (by first | exact aT rfl rfl | exact aT rfl (aI _ _) | exact aP rfl | exact Nat.le_of_ble_eq_true rfl | omega) (fun h => nomatch h) ?_
 refine aC rfl rfl rfl ?_
 refine aC rfl rfl rfl ?_
 refine aD ?_
 refine cI ?_
 refine cA ?_
 refine bT ?_
 refine eS (.cell rfl (by first | exact cM Tryz.underlying121 rfl cC rfl (by repeat (first | exact List.Mem.head _ | apply List.Mem.tail | apply List.mem_append_right)) (by first | exact aP rfl | exact Nat.le_of_ble_eq_true rfl | decide | omega) (by first | exact bM | exact take_all rfl | exact bD rfl | rfl) | exact cF Tryz.underlying121 rfl cC rfl (by first | assumption | exact InA.add (by assumption) | exact InA.add (InA.add (by assumption))) (by assumption)) (.tmp rfl (.tmp rfl .nil))) rfl ?_
 exact fun H hH => ⟨rfl, hH.kept⟩
theorem aCs {S : AH} {s : ByteArray} {p e : Nat} {kk : Int} {tx : ByteArray} {c : UInt8} (hc : s.data.toList[p]? = some c) (hcd : dg c.toNat = false) (hcl : lt c.toNat = true) (hr : ∀ S : AH, XCall Tryz.prog 129 [.string s, .int .i64 ((p : Nat) : Int)] S fun v H' => v = .tuple ⟨[.agg ⟨[.int .i64 kk, .string tx, .int .i64 ((p : Nat) : Int)]⟩, .int .i64 ((e : Nat) : Int), .int .i64 0]⟩ ∧ Kept S.nx S H') : XCall Tryz.prog 81 [.string s, .int .i64 ((p : Nat) : Int)] S fun v H' => v = .tuple ⟨[.agg ⟨[.int .i64 kk, .string tx, .int .i64 ((p : Nat) : Int)]⟩, .int .i64 ((e : Nat) : Int), .int .i64 0]⟩ ∧ Kept S.nx S H' := by
 refine fD (E := E) (n := 70) (rs := [.cell 4 121, .tmp 5, .tmp 6]) (l := [(1, _), (0, _)]) (aV Tryz.func81 rfl rfl rfl) (A0 := fun _ => False) (fun j h => h.elim) rfl ?_
 refine aE ?_
 refine aB (E := E) ?_
 refine cZ (cs := (.int .i64 0 :: .string ⟨#[]⟩ :: .int .i64 0 :: [])) rfl rfl (fun h => nomatch h) cC rfl rfl ?_
 intro N4
 refine aC rfl rfl rfl ?_
 refine aC rfl rfl rfl ?_
 refine aD ?_
 refine aE ?_
 refine aE ?_
 refine aB (E := E) ?_
 refine aA rfl rfl rfl ?_
 refine aA rfl rfl rfl ?_
 refine eE rfl rfl rfl rfl Tryz.underlying9 (by assumption) ?_
 refine aC rfl rfl rfl ?_
 refine aD ?_
 refine bE ?_
 refine aE ?_
 refine aB (E := E) ?_
 refine aA rfl rfl rfl ?_
 refine bO rfl rfl (fun h => nomatch h) rfl nC (by repeat (first | exact Opvs.nil | apply Opvs.cons rfl)) (fun H hH => (gB c).b hcd) ?_
 refine aC rfl rfl rfl ?_
 refine aD ?_
 refine aM rfl ?_
 refine aE ?_
 refine aB (E := E) ?_
 refine aA rfl rfl rfl ?_
 refine bO rfl rfl (fun h => nomatch h) rfl tD (by repeat (first | exact Opvs.nil | apply Opvs.cons rfl)) (fun H hH => (hZ c).b hcl) ?_
 refine aC rfl rfl rfl ?_
 refine aD ?_
 refine bX rfl ?_
 refine aE ?_
 refine aB (E := E) ?_
 refine aA rfl rfl rfl ?_
 refine aA rfl rfl rfl ?_
 refine bO rfl rfl (fun h => nomatch h) rfl aRv (by repeat (first | exact Opvs.nil | apply Opvs.cons rfl)) (fun H hH => hr H) ?_
 refine bP rfl rfl rfl rfl ?_
 refine bP rfl rfl rfl rfl ?_
 refine bP rfl rfl rfl rfl ?_
 refine cQ rfl (fun h => nomatch h) rfl rfl cC (by first | exact aI _ _ | rfl) rfl (by repeat (first | exact .zero | apply Upd.succ)) (by first | exact bW rfl | exact bR rfl | exact bK rfl | exact cD rfl | rfl) (by first | exact aT rfl rfl | exact aT rfl (aI _ _) | exact aP rfl | exact Nat.le_of_ble_eq_true rfl | omega) (fun h => nomatch h) ?_
 refine aC rfl rfl rfl ?_
 refine aC rfl rfl rfl ?_
 refine aD ?_
 refine cI ?_
 refine cA ?_
 refine bT ?_
 refine eS (.cell rfl (by first | exact cM Tryz.underlying121 rfl cC rfl (by repeat (first | exact List.Mem.head _ | apply List.Mem.tail | apply List.mem_append_right)) (by first | exact aP rfl | exact Nat.le_of_ble_eq_true rfl | decide | omega) (by first | exact bM | exact take_all rfl | exact bD rfl | rfl) | exact cF Tryz.underlying121 rfl cC rfl (by first | assumption | exact InA.add (by assumption) | exact InA.add (InA.add (by assumption))) (by assumption)) (.tmp rfl (.tmp rfl .nil))) rfl ?_
 exact fun H hH => ⟨rfl, hH.kept⟩
set_option maxHeartbeats 1000000 in
theorem aHf {S : AH} {s : ByteArray} {p : Nat} {c : UInt8} (hc : s.data.toList[p]? = some c) (hcd : dg c.toNat = false) (hcl : lt c.toNat = false) (hcq : c.toNat ≠ 34) (h2 : p + 2 ≤ s.data.toList.length) (ho : ∀ S : AH, XCall Tryz.prog 131 [.string ⟨⟨(s.data.toList.take (p + 2)).drop p⟩⟩] S fun v H' => v = .bool true ∧ Kept S.nx S H') (hs : s.data.toList.length ≤ 16384) : XCall Tryz.prog 81 [.string s, .int .i64 ((p : Nat) : Int)] S fun v H' => v = .tuple ⟨[.agg ⟨[.int .i64 4, .string ⟨⟨(s.data.toList.take (p + 2)).drop (p)⟩⟩, .int .i64 ((p : Nat) : Int)]⟩, .int .i64 ((p + 2 : Nat) : Int), .int .i64 0]⟩ ∧ Kept S.nx S H' := by
 refine fD (E := E) (n := 70) (rs := [.cell 4 121, .tmp 5, .tmp 6]) (l := [(1, _), (0, _)]) (aV Tryz.func81 rfl rfl rfl) (A0 := fun _ => False) (fun j h => h.elim) rfl ?_
 refine aE ?_
 refine aB (E := E) ?_
 refine cZ (cs := (.int .i64 0 :: .string ⟨#[]⟩ :: .int .i64 0 :: [])) rfl rfl (fun h => nomatch h) cC rfl rfl ?_
 intro N4
 refine aC rfl rfl rfl ?_
 refine aC rfl rfl rfl ?_
 refine aD ?_
 refine aE ?_
 refine aE ?_
 refine aB (E := E) ?_
 refine aA rfl rfl rfl ?_
 refine aA rfl rfl rfl ?_
 refine eE rfl rfl rfl rfl Tryz.underlying9 (by assumption) ?_
 refine aC rfl rfl rfl ?_
 refine aD ?_
 refine bE ?_
 refine aE ?_
 refine aB (E := E) ?_
 refine aA rfl rfl rfl ?_
 refine bO rfl rfl (fun h => nomatch h) rfl nC (by repeat (first | exact Opvs.nil | apply Opvs.cons rfl)) (fun H hH => (gB c).b hcd) ?_
 refine aC rfl rfl rfl ?_
 refine aD ?_
 refine aM rfl ?_
 refine aE ?_
 refine aB (E := E) ?_
 refine aA rfl rfl rfl ?_
 refine bO rfl rfl (fun h => nomatch h) rfl tD (by repeat (first | exact Opvs.nil | apply Opvs.cons rfl)) (fun H hH => (hZ c).b hcl) ?_
 refine aC rfl rfl rfl ?_
 refine aD ?_
 refine aM rfl ?_
 refine aE ?_
 refine aB (E := E) ?_
 refine aA rfl rfl rfl ?_
 refine aG rfl rfl rfl rfl (by first | exact bN (by first | rfl | assumption | omega) | exact bJ (by first | rfl | assumption | omega)) ?_
 refine aC rfl rfl rfl ?_
 refine aD ?_
 refine aM rfl ?_
 refine aX ?_
 refine cP ?_
 refine aQ ?_
 refine aE ?_
 refine aE ?_
 refine aB (E := E) ?_
 refine aC rfl rfl rfl ?_
 refine aD ?_
 refine bE ?_
 refine gT (τ := Nat) (fun k => 2 - k) (fun k => [(0, .string s), (1, .int .i64 ((p : Nat) : Int)), (4, .pointer (some ⟨2 * N4 + 1, 0, none⟩)), (8, .int .i64 ((2 - k : Nat) : Int))]) (fun _ => _) (fun _ => _) (fun _ => [(N4, _)]) (fun k => k = 0) (0) (rfl) (by repeat (first | exact .nil | refine .cons rfl ?_)) rfl rfl (List.Sublist.refl _) ?_
 intro k hJ2 t1
 subst hJ2
 refine aE ?_
 refine aE ?_
 refine aB (E := E) ?_
 refine aA rfl rfl rfl ?_
 refine aG rfl rfl rfl rfl (by first | exact jM (by omega) | exact jJ (by omega)) ?_
 refine aD ?_
 refine bX rfl ?_
 refine aX ?_
 refine aQ ?_
 refine aE ?_
 refine bE ?_
 refine aE ?_
 refine aB (E := E) ?_
 refine aA rfl rfl rfl ?_
 refine aA rfl rfl rfl ?_
 refine aG rfl rfl rfl rfl (by first | exact aF (c := ((p + 2 : Nat) : Int)) (by rw [aK (by omega) (by omega)]; omega) | exact bC (by omega) | exact aF (aK (by omega) (by omega)) | exact aF rfl) ?_
 refine aA rfl rfl rfl ?_
 refine eC rfl rfl rfl rfl rfl rfl Tryz.underlying9 ?_
 refine aG rfl rfl rfl rfl (by first | exact bI (by omega) | exact lC (by omega)) ?_
 refine aA rfl rfl rfl ?_
 first | refine aA rfl rfl rfl ?_ | refine aH rfl rfl rfl ?_
 first | refine aA rfl rfl rfl ?_ | refine aH rfl rfl rfl ?_
 first | refine aA rfl rfl rfl ?_ | refine aH rfl rfl rfl ?_
 first | refine aA rfl rfl rfl ?_ | refine aH rfl rfl rfl ?_
 first | refine aG rfl rfl rfl rfl (by first | exact aF (c := ((p + 2 : Nat) : Int)) (by rw [aK (by omega) (by omega)]; omega) | exact bC (by omega) | exact aF (aK (by omega) (by omega)) | exact aF rfl) ?_ | refine aH rfl rfl rfl ?_
 refine lP rfl rfl rfl Tryz.underlying9 (.some rfl) (.some rfl) (hU (a := p) (b := p + 2) (by omega) (by omega)) ?_
 first | refine bO rfl rfl (fun h => nomatch h) rfl aAp (by repeat (first | exact Opvs.nil | apply Opvs.cons rfl)) (fun H hH => ho H) ?_ | refine aH rfl rfl rfl ?_
 first | refine bA rfl rfl rfl rfl ?_ | refine bB rfl rfl rfl rfl ?_
 refine aD ?_
 refine bX rfl ?_
 refine aE ?_
 refine aB (E := E) ?_
 refine aA rfl rfl rfl ?_
 refine aA rfl rfl rfl ?_
 refine aA rfl rfl rfl ?_
 refine aA rfl rfl rfl ?_
 refine aG rfl rfl rfl rfl (by first | exact aF (c := ((p + 2 : Nat) : Int)) (by rw [aK (by omega) (by omega)]; omega) | exact bC (by omega) | exact aF (aK (by omega) (by omega)) | exact aF rfl) ?_
 refine lP rfl rfl rfl Tryz.underlying9 (.some rfl) (.some rfl) (hU (a := p) (b := p + 2) (by omega) (by omega)) ?_
 refine aA rfl rfl rfl ?_
 refine iY rfl rfl (by repeat (first | exact Opps.nil | apply Opps.cons rfl)) (by rfl) ?_
 refine aA rfl rfl rfl ?_
 refine aA rfl rfl rfl ?_
 refine aG rfl rfl rfl rfl (by first | exact aF (c := ((p + 2 : Nat) : Int)) (by rw [aK (by omega) (by omega)]; omega) | exact bC (by omega) | exact aF (aK (by omega) (by omega)) | exact aF rfl) ?_
 refine cQ rfl (fun h => nomatch h) rfl rfl cC (by first | exact aI _ _ | rfl) rfl (by repeat (first | exact .zero | apply Upd.succ)) (by first | exact bW rfl | exact bR rfl | exact bK rfl | exact cD rfl | rfl) (by first | exact aT rfl rfl | exact aT rfl (aI _ _) | exact aP rfl | exact Nat.le_of_ble_eq_true rfl | omega) (fun h => nomatch h) ?_
 refine aC rfl rfl rfl ?_
 refine aC rfl rfl rfl ?_
 refine aD ?_
 refine cI ?_
 refine cA ?_
 refine bT ?_
 refine iZ ?_
 refine cA ?_
 refine bT ?_
 refine eS (.cell rfl (by first | exact cM Tryz.underlying121 rfl cC rfl (by repeat (first | exact List.Mem.head _ | apply List.Mem.tail | apply List.mem_append_right)) (by first | exact aP rfl | exact Nat.le_of_ble_eq_true rfl | decide | omega) (by first | exact bM | exact take_all rfl | exact bD rfl | rfl) | exact cF Tryz.underlying121 rfl cC rfl (by first | assumption | exact InA.add (by assumption) | exact InA.add (InA.add (by assumption))) (by assumption)) (.tmp rfl (.tmp rfl .nil))) rfl ?_
 exact fun H hH => ⟨rfl, hH.kept⟩
set_option maxHeartbeats 1000000 in
theorem aHt {S : AH} {s : ByteArray} {p : Nat} {c : UInt8} (hc : s.data.toList[p]? = some c) (hcd : dg c.toNat = false) (hcl : lt c.toNat = false) (hcq : c.toNat ≠ 34) (h2 : s.data.toList.length < p + 2 ∨ (p + 2 ≤ s.data.toList.length ∧ ∀ S : AH, XCall Tryz.prog 131 [.string ⟨⟨(s.data.toList.take (p + 2)).drop p⟩⟩] S fun v H' => v = .bool false ∧ Kept S.nx S H')) (ho : ∀ S : AH, XCall Tryz.prog 131 [.string ⟨⟨(s.data.toList.take (p + 1)).drop p⟩⟩] S fun v H' => v = .bool true ∧ Kept S.nx S H') (hs : s.data.toList.length ≤ 16384) : XCall Tryz.prog 81 [.string s, .int .i64 ((p : Nat) : Int)] S fun v H' => v = .tuple ⟨[.agg ⟨[.int .i64 4, .string ⟨⟨(s.data.toList.take (p + 1)).drop (p)⟩⟩, .int .i64 ((p : Nat) : Int)]⟩, .int .i64 ((p + 1 : Nat) : Int), .int .i64 0]⟩ ∧ Kept S.nx S H' := by
 have hlen := lt_of_getElem? hc
 refine fD (E := E) (n := 70) (rs := [.cell 4 121, .tmp 5, .tmp 6]) (l := [(1, _), (0, _)]) (aV Tryz.func81 rfl rfl rfl) (A0 := fun _ => False) (fun j h => h.elim) rfl ?_
 refine aE ?_
 refine aB (E := E) ?_
 refine cZ (cs := (.int .i64 0 :: .string ⟨#[]⟩ :: .int .i64 0 :: [])) rfl rfl (fun h => nomatch h) cC rfl rfl ?_
 intro N4
 refine aC rfl rfl rfl ?_
 refine aC rfl rfl rfl ?_
 refine aD ?_
 refine aE ?_
 refine aE ?_
 refine aB (E := E) ?_
 refine aA rfl rfl rfl ?_
 refine aA rfl rfl rfl ?_
 refine eE rfl rfl rfl rfl Tryz.underlying9 (by assumption) ?_
 refine aC rfl rfl rfl ?_
 refine aD ?_
 refine bE ?_
 refine aE ?_
 refine aB (E := E) ?_
 refine aA rfl rfl rfl ?_
 refine bO rfl rfl (fun h => nomatch h) rfl nC (by repeat (first | exact Opvs.nil | apply Opvs.cons rfl)) (fun H hH => (gB c).b hcd) ?_
 refine aC rfl rfl rfl ?_
 refine aD ?_
 refine aM rfl ?_
 refine aE ?_
 refine aB (E := E) ?_
 refine aA rfl rfl rfl ?_
 refine bO rfl rfl (fun h => nomatch h) rfl tD (by repeat (first | exact Opvs.nil | apply Opvs.cons rfl)) (fun H hH => (hZ c).b hcl) ?_
 refine aC rfl rfl rfl ?_
 refine aD ?_
 refine aM rfl ?_
 refine aE ?_
 refine aB (E := E) ?_
 refine aA rfl rfl rfl ?_
 refine aG rfl rfl rfl rfl (by first | exact bN (by first | rfl | assumption | omega) | exact bJ (by first | rfl | assumption | omega)) ?_
 refine aC rfl rfl rfl ?_
 refine aD ?_
 refine aM rfl ?_
 refine aX ?_
 refine cP ?_
 refine aQ ?_
 refine aE ?_
 refine aE ?_
 refine aB (E := E) ?_
 refine aC rfl rfl rfl ?_
 refine aD ?_
 refine bE ?_
 refine gT (τ := Nat) (fun k => 2 - k) (fun k => [(0, .string s), (1, .int .i64 ((p : Nat) : Int)), (4, .pointer (some ⟨2 * N4 + 1, 0, none⟩)), (8, .int .i64 ((2 - k : Nat) : Int))]) (fun _ => _) (fun _ => _) (fun _ => [(N4, _)]) (fun k => k = 0 ∨ k = 1) (0) ((.inl rfl)) (by repeat (first | exact .nil | refine .cons rfl ?_)) rfl rfl (List.Sublist.refl _) ?_
 intro k hJ2 t1
 refine aE ?_
 refine aE ?_
 rcases hJ2 with rfl | rfl
 ·skip
  refine aB (E := E) ?_
  refine aA rfl rfl rfl ?_
  refine aG rfl rfl rfl rfl (by first | exact jM (by omega) | exact jJ (by omega)) ?_
  refine aD ?_
  refine bX rfl ?_
  refine aX ?_
  refine aQ ?_
  refine aE ?_
  refine bE ?_
  refine aE ?_
  rcases h2 with h2 | ⟨h2, ho2⟩
  ·skip
   refine aB (E := E) ?_
   refine aA rfl rfl rfl ?_
   refine aA rfl rfl rfl ?_
   refine aG rfl rfl rfl rfl (by first | exact aF (c := ((p + 2 : Nat) : Int)) (by rw [aK (by omega) (by omega)]; omega) | exact bC (by omega) | exact aF (aK (by omega) (by omega)) | exact aF rfl) ?_
   refine aA rfl rfl rfl ?_
   refine eC rfl rfl rfl rfl rfl rfl Tryz.underlying9 ?_
   refine aG rfl rfl rfl rfl (by first | exact bI (by omega) | exact lC (by omega)) ?_
   refine aA rfl rfl rfl ?_
   first | refine aA rfl rfl rfl ?_ | refine aH rfl rfl rfl ?_
   first | refine aA rfl rfl rfl ?_ | refine aH rfl rfl rfl ?_
   first | refine aA rfl rfl rfl ?_ | refine aH rfl rfl rfl ?_
   first | refine aA rfl rfl rfl ?_ | refine aH rfl rfl rfl ?_
   first | refine aG rfl rfl rfl rfl (by first | exact aF (c := ((p + 2 : Nat) : Int)) (by rw [aK (by omega) (by omega)]; omega) | exact bC (by omega) | exact aF (aK (by omega) (by omega)) | exact aF rfl) ?_ | refine aH rfl rfl rfl ?_
   refine aH rfl rfl rfl ?_
   first | refine bO rfl rfl (fun h => nomatch h) rfl aAp (by repeat (first | exact Opvs.nil | apply Opvs.cons rfl)) (fun H hH => ho2 H) ?_ | refine aH rfl rfl rfl ?_
   first | refine bA rfl rfl rfl rfl ?_ | refine bB rfl rfl rfl rfl ?_
   refine aD ?_
   refine aM rfl ?_
   refine aX ?_
   refine cP ?_
   refine aQ ?_
   refine aB (E := E) ?_
   refine aA rfl rfl rfl ?_
   refine aG rfl rfl rfl rfl (by first | exact gE (c := ((1 : Nat) : Int)) (by rw [aK (by omega) (by omega)]; omega) | exact qD (by omega) | exact gE (aK (by omega) (by omega)) | exact gE rfl) ?_
   refine aC rfl rfl rfl ?_
   refine eY ?_
   exact dR 1 (by omega) (.inr rfl) (by repeat (first | exact .nil | refine .cons rfl ?_)) rfl rfl (List.Sublist.refl _)
  ·skip
   refine aB (E := E) ?_
   refine aA rfl rfl rfl ?_
   refine aA rfl rfl rfl ?_
   refine aG rfl rfl rfl rfl (by first | exact aF (c := ((p + 2 : Nat) : Int)) (by rw [aK (by omega) (by omega)]; omega) | exact bC (by omega) | exact aF (aK (by omega) (by omega)) | exact aF rfl) ?_
   refine aA rfl rfl rfl ?_
   refine eC rfl rfl rfl rfl rfl rfl Tryz.underlying9 ?_
   refine aG rfl rfl rfl rfl (by first | exact bI (by omega) | exact lC (by omega)) ?_
   refine aA rfl rfl rfl ?_
   first | refine aA rfl rfl rfl ?_ | refine aH rfl rfl rfl ?_
   first | refine aA rfl rfl rfl ?_ | refine aH rfl rfl rfl ?_
   first | refine aA rfl rfl rfl ?_ | refine aH rfl rfl rfl ?_
   first | refine aA rfl rfl rfl ?_ | refine aH rfl rfl rfl ?_
   first | refine aG rfl rfl rfl rfl (by first | exact aF (c := ((p + 2 : Nat) : Int)) (by rw [aK (by omega) (by omega)]; omega) | exact bC (by omega) | exact aF (aK (by omega) (by omega)) | exact aF rfl) ?_ | refine aH rfl rfl rfl ?_
   refine lP rfl rfl rfl Tryz.underlying9 (.some rfl) (.some rfl) (hU (a := p) (b := p + 2) (by omega) (by omega)) ?_
   first | refine bO rfl rfl (fun h => nomatch h) rfl aAp (by repeat (first | exact Opvs.nil | apply Opvs.cons rfl)) (fun H hH => ho2 H) ?_ | refine aH rfl rfl rfl ?_
   first | refine bA rfl rfl rfl rfl ?_ | refine bB rfl rfl rfl rfl ?_
   refine aD ?_
   refine aM rfl ?_
   refine aX ?_
   refine cP ?_
   refine aQ ?_
   refine aB (E := E) ?_
   refine aA rfl rfl rfl ?_
   refine aG rfl rfl rfl rfl (by first | exact gE (c := ((1 : Nat) : Int)) (by rw [aK (by omega) (by omega)]; omega) | exact qD (by omega) | exact gE (aK (by omega) (by omega)) | exact gE rfl) ?_
   refine aC rfl rfl rfl ?_
   refine eY ?_
   exact dR 1 (by omega) (.inr rfl) (by repeat (first | exact .nil | refine .cons rfl ?_)) rfl rfl (List.Sublist.refl _)
 ·skip
  refine aB (E := E) ?_
  refine aA rfl rfl rfl ?_
  refine aG rfl rfl rfl rfl (by first | exact jM (by omega) | exact jJ (by omega)) ?_
  refine aD ?_
  refine bX rfl ?_
  refine aX ?_
  refine aQ ?_
  refine aE ?_
  refine bE ?_
  refine aE ?_
  refine aB (E := E) ?_
  refine aA rfl rfl rfl ?_
  refine aA rfl rfl rfl ?_
  refine aG rfl rfl rfl rfl (by first | exact aF (c := ((p + 1 : Nat) : Int)) (by rw [aK (by omega) (by omega)]; omega) | exact bC (by omega) | exact aF (aK (by omega) (by omega)) | exact aF rfl) ?_
  refine aA rfl rfl rfl ?_
  refine eC rfl rfl rfl rfl rfl rfl Tryz.underlying9 ?_
  refine aG rfl rfl rfl rfl (by first | exact bI (by omega) | exact lC (by omega)) ?_
  refine aA rfl rfl rfl ?_
  first | refine aA rfl rfl rfl ?_ | refine aH rfl rfl rfl ?_
  first | refine aA rfl rfl rfl ?_ | refine aH rfl rfl rfl ?_
  first | refine aA rfl rfl rfl ?_ | refine aH rfl rfl rfl ?_
  first | refine aA rfl rfl rfl ?_ | refine aH rfl rfl rfl ?_
  first | refine aG rfl rfl rfl rfl (by first | exact aF (c := ((p + 1 : Nat) : Int)) (by rw [aK (by omega) (by omega)]; omega) | exact bC (by omega) | exact aF (aK (by omega) (by omega)) | exact aF rfl) ?_ | refine aH rfl rfl rfl ?_
  refine lP rfl rfl rfl Tryz.underlying9 (.some rfl) (.some rfl) (hU (a := p) (b := p + 1) (by omega) (by omega)) ?_
  first | refine bO rfl rfl (fun h => nomatch h) rfl aAp (by repeat (first | exact Opvs.nil | apply Opvs.cons rfl)) (fun H hH => ho H) ?_ | refine aH rfl rfl rfl ?_
  first | refine bA rfl rfl rfl rfl ?_ | refine bB rfl rfl rfl rfl ?_
  refine aD ?_
  refine bX rfl ?_
  refine aE ?_
  refine aB (E := E) ?_
  refine aA rfl rfl rfl ?_
  refine aA rfl rfl rfl ?_
  refine aA rfl rfl rfl ?_
  refine aA rfl rfl rfl ?_
  refine aG rfl rfl rfl rfl (by first | exact aF (c := ((p + 1 : Nat) : Int)) (by rw [aK (by omega) (by omega)]; omega) | exact bC (by omega) | exact aF (aK (by omega) (by omega)) | exact aF rfl) ?_
  refine lP rfl rfl rfl Tryz.underlying9 (.some rfl) (.some rfl) (hU (a := p) (b := p + 1) (by omega) (by omega)) ?_
  refine aA rfl rfl rfl ?_
  refine iY rfl rfl (by repeat (first | exact Opps.nil | apply Opps.cons rfl)) (by rfl) ?_
  refine aA rfl rfl rfl ?_
  refine aA rfl rfl rfl ?_
  refine aG rfl rfl rfl rfl (by first | exact aF (c := ((p + 1 : Nat) : Int)) (by rw [aK (by omega) (by omega)]; omega) | exact bC (by omega) | exact aF (aK (by omega) (by omega)) | exact aF rfl) ?_
  refine cQ rfl (fun h => nomatch h) rfl rfl cC (by first | exact aI _ _ | rfl) rfl (by repeat (first | exact .zero | apply Upd.succ)) (by first | exact bW rfl | exact bR rfl | exact bK rfl | exact cD rfl | rfl) (by first | exact aT rfl rfl | exact aT rfl (aI _ _) | exact aP rfl | exact Nat.le_of_ble_eq_true rfl | omega) (fun h => nomatch h) ?_
  refine aC rfl rfl rfl ?_
  refine aC rfl rfl rfl ?_
  refine aD ?_
  refine cI ?_
  refine cA ?_
  refine bT ?_
  refine iZ ?_
  refine cA ?_
  refine bT ?_
  refine eS (.cell rfl (by first | exact cM Tryz.underlying121 rfl cC rfl (by repeat (first | exact List.Mem.head _ | apply List.Mem.tail | apply List.mem_append_right)) (by first | exact aP rfl | exact Nat.le_of_ble_eq_true rfl | decide | omega) (by first | exact bM | exact take_all rfl | exact bD rfl | rfl) | exact cF Tryz.underlying121 rfl cC rfl (by first | assumption | exact InA.add (by assumption) | exact InA.add (InA.add (by assumption))) (by assumption)) (.tmp rfl (.tmp rfl .nil))) rfl ?_
  exact fun H hH => ⟨rfl, hH.kept⟩
end Go.Proofs.YthgfcpgjabodoaaGreatDoor
namespace Go.Proofs.YthgfcpgjabodoaaGreatDoor
open Go Go.AM
/-- the cells of the first k tokens -/
def tcs (kk : Nat → Int) (tx : Nat → ByteArray) (at0 : Nat → Nat) (k : Nat) : List Value := (List.range k).flatMap fun j => [.int .i64 (kk j), .string (tx j), .int .i64 ((at0 j : Nat) : Int)]
theorem aBk (kk : Nat → Int) (tx : Nat → ByteArray) (at0 : Nat → Nat) (k : Nat) : tcs kk tx at0 k ++ [.int .i64 (kk k), .string (tx k), .int .i64 ((at0 k : Nat) : Int)] = tcs kk tx at0 (k + 1) := by
 rw [tcs, tcs, List.range_succ, List.flatMap_append]; simp
theorem aGl (kk : Nat → Int) (tx : Nat → ByteArray) (at0 : Nat → Nat) (k : Nat) : (tcs kk tx at0 k).length = k * 3 := by
 induction k with
 | zero => rfl
 | succ k ih => rw [← aBk, List.length_append, ih]; simp; omega
set_option maxHeartbeats 1000000 in
theorem aHs {S : AH} {s : ByteArray} {n : Nat} {kk : Nat → Int} {tx : Nat → ByteArray} {at0 e : Nat → Nat} (hs : s.data.toList.length ≤ 16384) (hn : n ≤ 4000) (h0 : ∀ S : AH, XCall Tryz.prog 80 [.string s, .int .i64 0] S fun v H' => v = .int .i64 ((at0 0 : Nat) : Int) ∧ Kept S.nx S H') (ht : ∀ j, j < n → at0 j < s.data.toList.length ∧ (∀ S : AH, XCall Tryz.prog 81 [.string s, .int .i64 ((at0 j : Nat) : Int)] S fun v H' => v = .tuple ⟨[.agg ⟨[.int .i64 (kk j), .string (tx j), .int .i64 ((at0 j : Nat) : Int)]⟩, .int .i64 ((e j : Nat) : Int), .int .i64 0]⟩ ∧ Kept S.nx S H') ∧ ∀ S : AH, XCall Tryz.prog 80 [.string s, .int .i64 ((e j : Nat) : Int)] S fun v H' => v = .int .i64 ((at0 (j + 1) : Nat) : Int) ∧ Kept S.nx S H') (hen : at0 n = s.data.toList.length) : XCall Tryz.prog 46 [.string s] S fun v H' => ∃ N, S.nx ≤ N ∧ N < H'.nx ∧ Kept S.nx S H' ∧ H'.tr.get N = some (.cells (tcs kk tx at0 n ++ [.int .i64 0, .string ⟨#[]⟩, .int .i64 ((at0 n : Nat) : Int)]) 3 false) ∧ v = .tuple ⟨[.slice (some ⟨2 * N + 1, 0, none⟩) (n + 1) (n + 1), .int .i64 0, .int .i64 0]⟩ := by
 refine fD (E := E) (n := 46) (rs := [.tmp 2, .tmp 3, .tmp 4]) (l := [(0, _)]) (aV Tryz.func46 rfl rfl rfl) (A0 := fun _ => False) (fun j h => h.elim) rfl ?_
 refine aE ?_
 refine aB (E := E) ?_
 refine aC rfl rfl rfl ?_
 refine aC rfl rfl rfl ?_
 refine aC rfl rfl rfl ?_
 refine aD ?_
 refine aE ?_
 refine aE ?_
 refine aB (E := E) ?_
 refine aA rfl rfl rfl ?_
 refine eC rfl rfl rfl rfl rfl rfl Tryz.underlying9 ?_
 refine aG rfl rfl rfl rfl (by first | exact bU (by omega) | exact aY (by omega)) ?_
 refine aD ?_
 refine aM rfl ?_
 refine aX ?_
 refine aQ ?_
 refine aE ?_
 refine aB (E := E) ?_
 refine aC rfl rfl rfl ?_
 refine aD ?_
 refine aE ?_
 refine aB (E := E) ?_
 refine aA rfl rfl rfl ?_
 refine bO rfl rfl (fun h => nomatch h) rfl aQr (by repeat (first | exact Opvs.nil | apply Opvs.cons rfl)) (fun H hH => h0 H) ?_
 refine aC rfl rfl rfl ?_
 refine aD ?_
 refine bE ?_
 refine gT (τ := Nat × Nat) (fun q => n - q.1) (fun q => [(0, .string s), (5, gsl q.2 q.1), (6, .int .i64 ((at0 q.1 : Nat) : Int))]) (fun _ => _) (fun _ => _) (fun q => grow q.2 3 (tcs kk tx at0 q.1) q.1) (fun q => q.1 ≤ n) ((0, 0)) (Nat.zero_le _) (by repeat (first | exact .nil | refine .cons rfl ?_)) rfl rfl (by repeat (first | exact List.nil_sublist _ | apply List.Sublist.cons_cons | apply List.Sublist.cons)) ?_
 intro s1 hJ2 t1
 obtain ⟨k, M⟩ := s1
 have hk0 : k ≤ n := hJ2
 obtain ⟨ga, hga⟩ := aPr M k
 refine bE ?_
 refine aE ?_
 refine aE ?_
 refine aB (E := E) ?_
 refine aA rfl rfl rfl ?_
 refine iH rfl rfl rfl rfl rfl (show opv _ _ = some (.slice ga k k) by rw [← hga]; rfl) Tryz.underlying114 ?_
 refine aG rfl rfl rfl rfl (by first | exact jM (by omega) | exact jJ (by omega)) ?_
 refine aD ?_
 refine aM rfl ?_
 refine aX ?_
 refine aQ ?_
 refine aE ?_
 refine aE ?_
 rcases Nat.lt_or_ge k n with hk | hk
 ·skip
  obtain ⟨hlt, htk, hsk⟩ := ht k hk
  refine aB (E := E) ?_
  refine aA rfl rfl rfl ?_
  refine aA rfl rfl rfl ?_
  refine eC rfl rfl rfl rfl rfl rfl Tryz.underlying9 ?_
  refine aG rfl rfl rfl rfl (by first | exact bN (show ((at0 k : Nat) : Int) = ((s.data.toList.length : Nat) : Int) by omega) | exact bJ (show ((at0 k : Nat) : Int) ≠ ((s.data.toList.length : Nat) : Int) by omega) | exact bN (by first | rfl | assumption | omega) | exact bJ (by first | rfl | assumption | omega)) ?_
  refine aD ?_
  refine aM rfl ?_
  refine aX ?_
  refine aQ ?_
  refine aE ?_
  refine aB (E := E) ?_
  refine aA rfl rfl rfl ?_
  refine aA rfl rfl rfl ?_
  refine bO rfl rfl (fun h => nomatch h) rfl has81 (by repeat (first | exact Opvs.nil | apply Opvs.cons rfl)) (fun H hH => htk H) ?_
  refine aA rfl rfl rfl ?_
  refine bP rfl rfl rfl rfl ?_
  refine bP rfl rfl rfl rfl ?_
  refine bP rfl rfl rfl rfl ?_
  refine cZ (cs := (.int .i64 0 :: .string ⟨#[]⟩ :: .int .i64 0 :: [])) rfl rfl (fun h => nomatch h) cC rfl rfl ?_
  intro N7
  refine cQ rfl (fun h => nomatch h) rfl rfl cC (by first | exact aI _ _ | rfl) rfl (by repeat (first | exact .zero | apply Upd.succ)) (by first | exact bW rfl | exact bR rfl | exact bK rfl | exact cD rfl | rfl) (by first | exact aT rfl rfl | exact aT rfl (aI _ _) | exact aP rfl | exact Nat.le_of_ble_eq_true rfl | omega) (fun h => nomatch h) ?_
  refine aC rfl rfl rfl ?_
  refine aC rfl rfl rfl ?_
  refine aD ?_
  refine aE ?_
  refine aE ?_
  refine aB (E := E) ?_
  refine aA rfl rfl rfl ?_
  refine aG rfl rfl rfl rfl (by first | exact eV (by first | rfl | assumption | omega) | exact gJ (by first | rfl | assumption | omega)) ?_
  refine aD ?_
  refine aM rfl ?_
  refine aX ?_
  refine aQ ?_
  refine aE ?_
  refine aB (E := E) ?_
  refine aA rfl rfl rfl ?_
  refine bL rfl rfl rfl (by first | exact cM Tryz.underlying121 rfl cC rfl (by repeat (first | exact List.Mem.head _ | apply List.Mem.tail | apply List.mem_append_right)) (by first | exact aP rfl | exact Nat.le_of_ble_eq_true rfl | decide | omega) (by first | exact bM | exact take_all rfl | exact bD rfl | rfl) | exact cF Tryz.underlying121 rfl cC rfl (by first | assumption | exact InA.add (by assumption) | exact InA.add (InA.add (by assumption))) (by assumption)) ?_
  refine dN (out := [.int .i64 (kk k), .string (tx k), .int .i64 ((at0 k : Nat) : Int)]) rfl rfl (fun h => nomatch h) (by repeat (first | exact Opps.nil | apply Opps.cons rfl)) Tryz.underlying114 cC rfl rfl (by kernel_rfl) rfl rfl ?_
  intro N41
  refine aGk (bt := 32) (sz := 3) (L1 := [(N41, _), (N7, _)]) (cells := tcs kk tx at0 k) rfl rfl (fun h => nomatch h) rfl rfl rfl rfl rfl Tryz.underlying114 Tryz.underlying114 (by rfl) cC rfl rfl (by decide) rfl (iP (List.mem_append_left _ (by repeat (first | exact List.Mem.head _ | apply List.Mem.tail | apply List.mem_append_right))) rfl) (aGl _ _ _ _) rfl (by omega) (by omega) (aBk _ _ _ _) (fun h => nomatch h) ?_
  intro M2
  refine aC rfl rfl rfl ?_
  refine aD ?_
  refine aB (E := E) ?_
  refine aA rfl rfl rfl ?_
  refine aA rfl rfl rfl ?_
  refine bO rfl rfl (fun h => nomatch h) rfl aQr (by repeat (first | exact Opvs.nil | apply Opvs.cons rfl)) (fun H hH => hsk H) ?_
  refine aC rfl rfl rfl ?_
  refine eY ?_
  refine cP ?_
  refine dR (k + 1, M2) (show n - (k + 1) < n - k by omega) (show k + 1 ≤ n by omega) (by repeat (first | exact .nil | refine .cons rfl ?_)) rfl rfl ?_
  exact List.sublist_append_right _ _
 ·skip
  obtain rfl : k = n := by omega
  refine aB (E := E) ?_
  refine aA rfl rfl rfl ?_
  refine aA rfl rfl rfl ?_
  refine eC rfl rfl rfl rfl rfl rfl Tryz.underlying9 ?_
  refine aG rfl rfl rfl rfl (by first | exact bN (show ((at0 k : Nat) : Int) = ((s.data.toList.length : Nat) : Int) by omega) | exact bJ (show ((at0 k : Nat) : Int) ≠ ((s.data.toList.length : Nat) : Int) by omega) | exact bN (by first | rfl | assumption | omega) | exact bJ (by first | rfl | assumption | omega)) ?_
  refine aD ?_
  refine bX rfl ?_
  refine aE ?_
  refine aB (E := E) ?_
  refine aA rfl rfl rfl ?_
  refine aA rfl rfl rfl ?_
  refine iY rfl rfl (by repeat (first | exact Opps.nil | apply Opps.cons rfl)) (by rfl) ?_
  refine dN (out := [.int .i64 0, .string ⟨#[]⟩, .int .i64 ((at0 k : Nat) : Int)]) rfl rfl (fun h => nomatch h) (by repeat (first | exact Opps.nil | apply Opps.cons rfl)) Tryz.underlying114 cC rfl rfl (by kernel_rfl) rfl rfl ?_
  intro N26
  refine aGk (bt := 32) (sz := 3) (L1 := [(N26, _)]) (cells := tcs kk tx at0 k) rfl rfl (fun h => nomatch h) rfl rfl rfl rfl rfl Tryz.underlying114 Tryz.underlying114 (by rfl) cC rfl rfl (by decide) rfl (iP (List.mem_append_left _ (by repeat (first | exact List.Mem.head _ | apply List.Mem.tail | apply List.mem_append_right))) rfl) (aGl _ _ _ _) rfl (by omega) (by omega) rfl (fun h => nomatch h) ?_
  intro M2
  refine aC rfl rfl rfl ?_
  refine aC rfl rfl rfl ?_
  refine aC rfl rfl rfl ?_
  refine aD ?_
  refine cI ?_
  refine bT ?_
  refine cA ?_
  refine iZ ?_
  refine cA ?_
  refine eS (.tmp rfl (.tmp rfl (.tmp rfl .nil))) rfl ?_
  exact fun H hH => ⟨M2, (hH.own _ (List.mem_append_right _ (.head _))).2.1, (hH.own _ (List.mem_append_right _ (.head _))).2.2.1, hH.kept, (hH.own _ (List.mem_append_right _ (.head _))).1, rfl⟩
end Go.Proofs.YthgfcpgjabodoaaGreatDoor
namespace Go.Proofs.YthgfcpgjabodoaaGreatDoor
open Go Go.AM
def opTab : List (List Nat × Bool) := [([37, 32], false), ([38, 38], true), ([40, 45], false), ([40, 48], false), ([40, 49], false), ([40, 50], false), ([40, 51], false), ([40, 52], false), ([40, 53], false), ([40, 54], false), ([40, 55], false), ([40, 56], false), ([40, 57], false), ([40, 97], false), ([40, 105], false), ([40, 110], false), ([41, 59], false), ([42, 32], false), ([43, 32], false), ([44, 32], false), ([45, 32], false), ([45, 48], false), ([45, 49], false), ([45, 50], false), ([45, 51], false), ([45, 52], false), ([45, 53], false), ([45, 54], false), ([45, 55], false), ([45, 56], false), ([45, 57], false), ([45, 97], false), ([46, 46], true), ([47, 32], false), ([59, 32], false), ([59, 48], false), ([59, 49], false), ([59, 50], false), ([59, 51], false), ([59, 52], false), ([59, 53], false), ([59, 54], false), ([59, 55], false), ([59, 56], false), ([59, 57], false), ([60, 32], false), ([60, 61], true), ([61, 32], false), ([61, 61], true), ([62, 32], false), ([62, 61], true), ([123, 32], false), ([124, 124], true), ([125, 32], false), ([37], true), ([40], true), ([41], true), ([42], true), ([43], true), ([44], true), ([45], true), ([47], true), ([59], true), ([60], true), ([61], true), ([62], true), ([123], true), ([125], true)]
def resTab : List (List Nat × Bool) := [([97], false), ([98], false), ([102, 111, 114], true), ([105], false), ([105, 110], true), ([108, 101, 116], true), ([110], false), ([112, 114, 105, 110, 116], false), ([114], false)]
theorem aQf (w : World) : (opTab.all fun p => isB p.2 (kR (lD 60 131 [vT p.1] (AM.start w)))) = true := by kernel_rfl
theorem aQh (w : World) : (resTab.all fun p => isB p.2 (kR (lD 60 175 [vT p.1] (AM.start w)))) = true := by kernel_rfl
def mU (l : List UInt8) : List Nat := l.map fun b => b.toNat
theorem aGe (l : List UInt8) : vT (mU l) = .string ⟨⟨l⟩⟩ := by
 unfold vT mU
 rw [List.map_map]
 congr 3
 conv => rhs; rw [← List.map_id l]
 apply List.map_congr_left
 intro b _
 simp
def mF (t : List (List Nat × Bool)) (l : List Nat) : Option Bool := match t with
 | [] => none
 | p :: r => bif p.1 == l then some p.2 else mF r l
theorem rN : ∀ {t : List (List Nat × Bool)} {l : List Nat} {b : Bool}, mF t l = some b → (l, b) ∈ t
 | [], _, _, h => by cases h
 | p :: r, l, b, h => by
  unfold mF at h
  cases e : (p.1 == l) with
  | true => rw [e, cond_true] at h; cases h; rw [← eq_of_beq e]; exact .head _
  | false => rw [e, cond_false] at h; exact .tail _ (rN h)
theorem yU {S : AH} {l : List UInt8} {b : Bool} (h : mF opTab (mU l) = some b) : XCall Tryz.prog 131 [.string ⟨⟨l⟩⟩] S fun v H' => v = .bool b ∧ Kept S.nx S H' := by
 rw [← aGe]
 exact qU rfl rfl (aMo _) fun w => yS (List.all_eq_true.1 (aQf w) _ (rN h))
theorem aSf {S : AH} {l : List UInt8} {b : Bool} (h : mF resTab (mU l) = some b) : XCall Tryz.prog 175 [.string ⟨⟨l⟩⟩] S fun v H' => v = .bool b ∧ Kept S.nx S H' := by
 rw [← aGe]
 exact qU rfl rfl (aMo _) fun w => yS (List.all_eq_true.1 (aQh w) _ (rN h))
/-! ### positions -/
structure Tk where
 kk : Int
 tx : List UInt8
 at0 : Nat
 e : Nat
def Sk (s : ByteArray) (p q : Nat) : Prop := p ≤ q ∧ q ≤ s.data.toList.length ∧ (∀ i, p ≤ i → i < q → ∃ b, s.data.toList[i]? = some b ∧ b.toNat = 32) ∧ (s.data.toList.length = q ∨ ∃ c, s.data.toList[q]? = some c ∧ c.toNat ≠ 10 ∧ c.toNat ≠ 32 ∧ c.toNat ≠ 9 ∧ c.toNat ≠ 35)
def aGv (s : ByteArray) (t : Tk) : Prop := ∀ S : AH, XCall Tryz.prog 81 [.string s, .int .i64 ((t.at0 : Nat) : Int)] S fun v H' => v = .tuple ⟨[.agg ⟨[.int .i64 t.kk, .string ⟨⟨t.tx⟩⟩, .int .i64 ((t.at0 : Nat) : Int)]⟩, .int .i64 ((t.e : Nat) : Int), .int .i64 0]⟩ ∧ Kept S.nx S H'
/-- from p on the tokens are these -/
def TokL (s : ByteArray) : Nat → List Tk → Prop
 | p, [] => Sk s p s.data.toList.length
 | p, t :: r => Sk s p t.at0 ∧ t.at0 < s.data.toList.length ∧ aGv s t ∧ TokL s t.e r
def Suf (s : ByteArray) (p : Nat) (r : List UInt8) : Prop := s.data.toList.drop p = r ∧ p ≤ s.data.toList.length
theorem Suf.get {s : ByteArray} {p : Nat} {r : List UInt8} (h : Suf s p r) (j : Nat) : s.data.toList[p + j]? = r[j]? := by rw [← h.1, List.getElem?_drop]
theorem Suf.at0 {s : ByteArray} {p : Nat} {c : UInt8} {r : List UInt8} (h : Suf s p (c :: r)) : s.data.toList[p]? = some c := by
 have := h.get 0
 rwa [Nat.add_zero, List.getElem?_cons_zero] at this
theorem Suf.at1 {s : ByteArray} {p : Nat} {c d : UInt8} {r : List UInt8} (h : Suf s p (c :: d :: r)) : s.data.toList[p + 1]? = some d := by
 have := h.get 1
 rwa [List.getElem?_cons_succ, List.getElem?_cons_zero] at this
theorem Suf.step {s : ByteArray} {p : Nat} {x r : List UInt8} (h : Suf s p (x ++ r)) : Suf s (p + x.length) r := by
 refine ⟨?_, ?_⟩
 ·rw [← List.drop_drop, h.1, List.drop_left]
 ·have := congrArg List.length h.1
  simp only [List.length_drop, List.length_append] at this
  have h2 := h.2
  omega
theorem Suf.cut {s : ByteArray} {p : Nat} {x r : List UInt8} (h : Suf s p (x ++ r)) {n : Nat} (hn : x.length = n) : (s.data.toList.take (p + n)).drop p = x := by
 subst hn
 rw [List.drop_take, h.1, show p + x.length - p = x.length by omega, List.take_left]
theorem Sk.blank {s : ByteArray} {p q : Nat} {c : UInt8} {r : List UInt8} (h : Suf s p (c :: r)) (hc : c.toNat = 32) (k : Sk s (p + 1) q) : Sk s p q := by
 obtain ⟨k1, k2, k3, k4⟩ := k
 refine ⟨by omega, k2, fun i h1 h2 => ?_, k4⟩
 by_cases e : i = p
 ·subst e
  exact ⟨c, h.at0, hc⟩
 ·exact k3 i (by omega) h2
theorem Sk.here {s : ByteArray} {p : Nat} {c : UInt8} {r : List UInt8} (h : Suf s p (c :: r)) (h1 : c.toNat ≠ 10) (h2 : c.toNat ≠ 32) (h3 : c.toNat ≠ 9) (h4 : c.toNat ≠ 35) : Sk s p p :=
 ⟨Nat.le_refl _, h.2, fun i a b => by omega, .inr ⟨c, h.at0, h1, h2, h3, h4⟩⟩
theorem Sk.last {s : ByteArray} {p : Nat} (h : Suf s p []) : Sk s p s.data.toList.length := by
 have : s.data.toList.length = p := by
  have h1 := congrArg List.length h.1
  simp only [List.length_drop, List.length_nil] at h1
  have := h.2; omega
 rw [this]
 exact ⟨Nat.le_refl _, by omega, fun i a b => by omega, .inl this⟩
theorem TokL.blank {s : ByteArray} {p : Nat} {c : UInt8} {r : List UInt8} {ts : List Tk} (h : Suf s p (c :: r)) (hc : c.toNat = 32) (k : TokL s (p + 1) ts) : TokL s p ts := by
 cases ts with
 | nil => exact Sk.blank h hc k
 | cons t r => exact ⟨Sk.blank h hc k.1, k.2⟩
theorem aDc {s : ByteArray} {p : Nat} {c : UInt8} {r : List UInt8} (h : Suf s p (c :: r)) : p < s.data.toList.length := by
 exact lt_of_getElem? h.at0
/-- digits, then something else -/
def iW (l : List UInt8) : Nat := l.foldl (fun n b => 10 * n + (b.toNat - 48)) 0
theorem yW {s : ByteArray} {p : Nat} {ds r : List UInt8} {c : UInt8} (hs : s.data.toList.length ≤ 16384) (h : Suf s p (ds ++ c :: r)) (hne : ds ≠ []) (hd : ∀ b ∈ ds, dg b.toNat = true) (hv : ∀ k, iW (ds.take k) ≤ 4611686018427387904) (hc : dg c.toNat = false) (hl : lt c.toNat = false) : aGv s ⟨1, ds, p, p + ds.length⟩ := by
 intro S
 obtain ⟨d, ds', rfl⟩ : ∃ d ds', ds = d :: ds' := by cases ds with
  | nil => exact absurd rfl hne
  | cons d r => exact ⟨d, r, rfl⟩
 have h0 : s.data.toList[p]? = some d := Suf.at0 h
 refine aHc h0 (hd d (.head _)) fun S => ?_
 have hn := aHe (S := S) (s := s) (p := p) (n := (d :: ds').length) (val := fun j => iW ((d :: ds').take j)) (fun j hj => ?_) rfl (fun j _ => hv j) ⟨c, by rw [h.get, List.getElem?_append_right (Nat.le_refl _)]; simp, hc, hl⟩ hs
 ·rw [h.cut rfl] at hn
  exact hn
 ·refine ⟨(d :: ds')[j], ?_, hd _ (List.getElem_mem hj), ?_⟩
  ·rw [h.get, List.getElem?_append_left hj, List.getElem?_eq_getElem hj]
  ·show iW _ = _
   rw [List.take_succ_eq_append_getElem hj, iW, List.foldl_append]
   rfl
theorem aNx {s : ByteArray} {p : Nat} {ns r : List UInt8} {c : UInt8} {b : Bool} (hs : s.data.toList.length ≤ 16384) (h : Suf s p (ns ++ c :: r)) (hne : ns ≠ []) (hd : ∀ b ∈ ns, lt b.toNat = true) (hn : ns.length ≤ 32) (hc : dg c.toNat = false) (hl : lt c.toNat = false) (hr : mF resTab (mU ns) = some b) : aGv s ⟨bif b then 5 else 3, ns, p, p + ns.length⟩ := by
 intro S
 obtain ⟨d, ns', rfl⟩ : ∃ d ns', ns = d :: ns' := by cases ns with
  | nil => exact absurd rfl hne
  | cons d r => exact ⟨d, r, rfl⟩
 have h0 : s.data.toList[p]? = some d := Suf.at0 h
 have hdl := hd d (.head _)
 have hdd : dg d.toNat = false := by
  cases e : dg d.toNat with
  | false => rfl
  | true =>
   have h1 := aHj e
   simp only [lt, Bool.or_eq_true, Bool.and_eq_true, Nat.ble_eq, Nat.beq_eq] at hdl
   omega
 refine aCs h0 hdd hdl fun S => ?_
 have hn := aOr (S := S) (s := s) (p := p) (n := (d :: ns').length) (r := b) (fun j hj => ?_) hn ⟨c, by rw [h.get, List.getElem?_append_right (Nat.le_refl _)]; simp, hc, hl⟩ (fun S => by rw [h.cut rfl]; exact aSf hr) hs
 ·rw [h.cut rfl] at hn
  exact hn
 ·exact ⟨(d :: ns')[j], by rw [h.get, List.getElem?_append_left hj, List.getElem?_eq_getElem hj], hd _ (List.getElem_mem hj)⟩
theorem aPd {s : ByteArray} {p : Nat} {r : List UInt8} {c d : UInt8} (hs : s.data.toList.length ≤ 16384) (h : Suf s p (c :: d :: r)) (hc : dg c.toNat = false) (hl : lt c.toNat = false) (hq : c.toNat ≠ 34) (ho : mF opTab (mU [c, d]) = some true) : aGv s ⟨4, [c, d], p, p + 2⟩ := by
 intro S
 have h0 : s.data.toList[p]? = some c := h.at0
 have h2 : p + 1 < s.data.toList.length := lt_of_getElem? h.at1
 have hcut : (s.data.toList.take (p + 2)).drop p = [c, d] := Suf.cut (x := [c, d]) (r := r) h rfl
 have := aHf (S := S) h0 hc hl hq h2 (fun S => by rw [hcut]; exact yU ho) hs
 rw [hcut] at this
 exact this
theorem aFf {s : ByteArray} {p : Nat} {r : List UInt8} {c : UInt8} (hs : s.data.toList.length ≤ 16384) (h : Suf s p (c :: r)) (hc : dg c.toNat = false) (hl : lt c.toNat = false) (hq : c.toNat ≠ 34) (ho : mF opTab (mU [c]) = some true) (h2 : ∀ d r', r = d :: r' → mF opTab (mU [c, d]) = some false) : aGv s ⟨4, [c], p, p + 1⟩ := by
 intro S
 have h0 : s.data.toList[p]? = some c := h.at0
 have hcut : (s.data.toList.take (p + 1)).drop p = [c] := Suf.cut (x := [c]) (r := r) h rfl
 have key : s.data.toList.length < p + 2 ∨ (p + 2 ≤ s.data.toList.length ∧ ∀ S : AH, XCall Tryz.prog 131 [.string ⟨⟨(s.data.toList.take (p + 2)).drop p⟩⟩] S fun v H' => v = .bool false ∧ Kept S.nx S H') := by
  cases r with
  | nil =>
   left
   have := congrArg List.length h.1
   simp only [List.length_drop, List.length_cons, List.length_nil] at this
   omega
  | cons d r' =>
   right
   have h1 : p + 1 < s.data.toList.length := lt_of_getElem? h.at1
   refine ⟨h1, fun S => ?_⟩
   rw [Suf.cut (x := [c, d]) (r := r') h (n := 2) rfl]
   exact yU (h2 d r' rfl)
 have := aHt (S := S) h0 hc hl hq key (fun S => by rw [hcut]; exact yU ho) hs
 rw [hcut] at this
 exact this
end Go.Proofs.YthgfcpgjabodoaaGreatDoor
namespace Go.Proofs.YthgfcpgjabodoaaGreatDoor
open Go Go.AM
def dW (f : Nat → Bool) : List UInt8 → List UInt8 × List UInt8
 | [] => ([], [])
 | c :: r => bif f c.toNat then (c :: (dW f r).1, (dW f r).2) else ([], c :: r)
theorem mL (f : Nat → Bool) : ∀ l : List UInt8, (dW f l).1 ++ (dW f l).2 = l ∧ ∀ b ∈ (dW f l).1, f b.toNat = true
 | [] => ⟨rfl, fun b hb => by cases hb⟩
 | c :: r => by
  obtain ⟨h1, h2⟩ := mL f r
  unfold dW
  cases e : f c.toNat with
  | false => exact ⟨rfl, fun b hb => by cases hb⟩
  | true =>
   rw [cond_true]
   refine ⟨by simp only [List.cons_append, h1], fun b hb => ?_⟩
   rcases List.mem_cons.1 hb with rfl | hb
   ·exact e
   ·exact h2 b hb
def aGa (x : List UInt8) : Bool := (List.range (x.length + 1)).all fun k => Nat.ble (iW (x.take k)) 4611686018427387904
theorem aGr {x : List UInt8} (h : aGa x = true) (k : Nat) : iW (x.take k) ≤ 4611686018427387904 := by
 unfold aGa at h
 rw [List.all_eq_true] at h
 rcases Nat.lt_or_ge k (x.length + 1) with hk | hk
 ·exact Nat.le_of_ble_eq_true (h k (List.mem_range.2 hk))
 ·have := Nat.le_of_ble_eq_true (h x.length (List.mem_range.2 (Nat.lt_succ_self _)))
  rw [List.take_of_length_le (Nat.le_refl _)] at this
  rw [List.take_of_length_le (by omega)]
  exact this
def opB (l : List Nat) (b : Bool) : Bool := match mF opTab l with
 | some c => c == b
 | none => false
theorem vO {l : List Nat} {b : Bool} (h : opB l b = true) : mF opTab l = some b := by
 unfold opB at h
 split at h
 ·rename_i c hc; rw [hc, eq_of_beq h]
 ·cases h
def aBf (t : Tk) : Option (List Tk) → Option (List Tk)
 | some l => some (t :: l)
 | none => none
theorem lS {t : Tk} {o : Option (List Tk)} {l : List Tk} (h : aBf t o = some l) : ∃ r, o = some r ∧ l = t :: r := by
 cases o with
 | none => cases h
 | some r => cases h; exact ⟨r, rfl, rfl⟩
/-- the tokens of a part of a script; d: a digit comes behind it, otherwise nothing -/
def lxC : Nat → Nat → List UInt8 → Bool → Option (List Tk)
 | 0, _, _, _ => none
 | _ + 1, _, [], _ => some []
 | n + 1, p, c :: cs, d =>
  bif Nat.beq c.toNat 32 then lxC n (p + 1) cs d
  else bif dg c.toNat then (match (dW dg (c :: cs)).2 with
   | [] => none
   | y :: ys => bif !(lt y.toNat) && (!(dg y.toNat) && aGa (dW dg (c :: cs)).1) then aBf ⟨1, (dW dg (c :: cs)).1, p, p + (dW dg (c :: cs)).1.length⟩ (lxC n (p + (dW dg (c :: cs)).1.length) (y :: ys) d) else none)
  else bif lt c.toNat then (match (dW lt (c :: cs)).2 with
   | [] => none
   | y :: ys => bif !(lt y.toNat) && (!(dg y.toNat) && Nat.ble (dW lt (c :: cs)).1.length 32) then (match mF resTab (mU (dW lt (c :: cs)).1) with
    | some b => aBf ⟨bif b then 5 else 3, (dW lt (c :: cs)).1, p, p + (dW lt (c :: cs)).1.length⟩ (lxC n (p + (dW lt (c :: cs)).1.length) (y :: ys) d)
    | none => none) else none)
  else bif Nat.beq c.toNat 34 || (Nat.beq c.toNat 10 || (Nat.beq c.toNat 9 || Nat.beq c.toNat 35)) then none
  else (match cs with
   | [] => bif opB (mU [c]) true && (!d || (List.range 10).all fun k => opB [c.toNat, 48 + k] false) then some [⟨4, [c], p, p + 1⟩] else none
   | y :: ys => bif opB (mU [c, y]) true then aBf ⟨4, [c, y], p, p + 2⟩ (lxC n (p + 2) ys d)
    else bif opB (mU [c, y]) false && opB (mU [c]) true then aBf ⟨4, [c], p, p + 1⟩ (lxC n (p + 1) (y :: ys) d) else none)
theorem aDn {a b : Nat} (h : Nat.beq a b = false) : a ≠ b := fun e => by subst e; simp at h
theorem aDq {s : ByteArray} (hs : s.data.toList.length ≤ 16384) {rest : List UInt8} {d : Bool} (hd1 : d = true → ∃ x r, rest = x :: r ∧ dg x.toNat = true) (hd0 : d = false → rest = []) {ts2 : List Tk} : ∀ (n p : Nat) (ch : List UInt8) (ts : List Tk), lxC n p ch d = some ts → Suf s p (ch ++ rest) → TokL s (p + ch.length) ts2 → TokL s p (ts ++ ts2) := by
 intro n
 induction n with
 | zero => intro p ch ts h; cases h
 | succ n ih =>
  intro p ch ts h hS hT
  cases ch with
  | nil => unfold lxC at h; cases h; exact hT
  | cons c cs =>
   have hS : Suf s p (c :: (cs ++ rest)) := hS
   have hlt := aDc hS
   unfold lxC at h
   cases e1 : Nat.beq c.toNat 32 with
   | true =>
    rw [e1, cond_true] at h
    refine TokL.blank hS (Nat.eq_of_beq_eq_true e1) (ih _ _ _ h (Suf.step (x := [c]) hS) ?_)
    rw [show p + 1 + cs.length = p + (c :: cs).length by simp; omega]
    exact hT
   | false =>
    rw [e1, cond_false] at h
    have hsp : ∀ f : Nat → Bool, c :: (cs ++ rest) = (dW f (c :: cs)).1 ++ ((dW f (c :: cs)).2 ++ rest) := fun f => by
     rw [← List.append_assoc, (mL f (c :: cs)).1]; rfl
    have hln : ∀ f : Nat → Bool, (c :: cs).length = (dW f (c :: cs)).1.length + (dW f (c :: cs)).2.length := fun f => by
     rw [← List.length_append, (mL f (c :: cs)).1]
    cases e2 : dg c.toNat with
    | true =>
     rw [e2, cond_true] at h
     split at h
     ·cases h
     ·rename_i y ys hy
      cases e3 : (!(lt y.toNat) && (!(dg y.toNat) && aGa (dW dg (c :: cs)).1)) with
      | false => rw [e3] at h; cases h
      | true =>
       rw [e3, cond_true] at h
       simp only [Bool.and_eq_true, Bool.not_eq_true'] at e3
       obtain ⟨r, hr, rfl⟩ := lS h
       have hd2 := aHj e2
       have hS2 : Suf s p ((dW dg (c :: cs)).1 ++ y :: (ys ++ rest)) := by
        rw [show (dW dg (c :: cs)).1 ++ y :: (ys ++ rest) = c :: (cs ++ rest) by rw [hsp dg, hy]; rfl]; exact hS
       refine ⟨Sk.here hS (by omega) (by omega) (by omega) (by omega), hlt, yW hs hS2 (by unfold dW; rw [e2, cond_true]; simp) (mL dg (c :: cs)).2 (aGr e3.2.2) e3.2.1 e3.1, ?_⟩
       refine ih _ _ _ hr hS2.step ?_
       have := hln dg
       rw [hy] at this
       rw [show p + (dW dg (c :: cs)).1.length + (y :: ys).length = p + (c :: cs).length by omega]
       exact hT
    | false =>
     rw [e2, cond_false] at h
     cases e4 : lt c.toNat with
     | true =>
      rw [e4, cond_true] at h
      split at h
      ·cases h
      ·rename_i y ys hy
       cases e3 : (!(lt y.toNat) && (!(dg y.toNat) && Nat.ble (dW lt (c :: cs)).1.length 32)) with
       | false => rw [e3] at h; cases h
       | true =>
        rw [e3, cond_true] at h
        simp only [Bool.and_eq_true, Bool.not_eq_true'] at e3
        split at h
        ·rename_i b hb
         obtain ⟨r, hr, rfl⟩ := lS h
         have hl2 := e4
         simp only [lt, Bool.or_eq_true, Bool.and_eq_true, Nat.ble_eq, Nat.beq_eq] at hl2
         have hS2 : Suf s p ((dW lt (c :: cs)).1 ++ y :: (ys ++ rest)) := by
          rw [show (dW lt (c :: cs)).1 ++ y :: (ys ++ rest) = c :: (cs ++ rest) by rw [hsp lt, hy]; rfl]; exact hS
         refine ⟨Sk.here hS (by omega) (by omega) (by omega) (by omega), hlt, aNx hs hS2 (by unfold dW; rw [e4, cond_true]; simp) (mL lt (c :: cs)).2 (Nat.le_of_ble_eq_true e3.2.2) e3.2.1 e3.1 hb, ?_⟩
         refine ih _ _ _ hr hS2.step ?_
         have := hln lt
         rw [hy] at this
         rw [show p + (dW lt (c :: cs)).1.length + (y :: ys).length = p + (c :: cs).length by omega]
         exact hT
        ·cases h
     | false =>
      rw [e4, cond_false] at h
      cases e5 : (Nat.beq c.toNat 34 || (Nat.beq c.toNat 10 || (Nat.beq c.toNat 9 || Nat.beq c.toNat 35))) with
      | true => rw [e5] at h; cases h
      | false =>
       rw [e5, cond_false] at h
       simp only [Bool.or_eq_false_iff] at e5
       obtain ⟨q1, q2, q3, q4⟩ := e5
       have hk := Sk.here hS (aDn q2) (aDn e1) (aDn q3) (aDn q4)
       cases cs with
       | nil =>
        simp only at h
        cases e6 : (opB (mU [c]) true && (!d || (List.range 10).all fun k => opB [c.toNat, 48 + k] false)) with
        | false => rw [e6] at h; cases h
        | true =>
         rw [e6, cond_true] at h
         cases h
         simp only [Bool.and_eq_true, Bool.or_eq_true, Bool.not_eq_true'] at e6
         refine ⟨hk, hlt, aFf hs hS e2 e4 (aDn q1) (vO e6.1) fun x r' hx => ?_, hT⟩
         rcases e6.2 with e7 | e7
         ·rw [hd0 e7] at hx; cases hx
         ·cases hd : d with
          | false => rw [hd0 hd] at hx; cases hx
          | true =>
           obtain ⟨x', r'', h1, h2⟩ := hd1 hd
           have hx : rest = x :: r' := hx
           rw [h1] at hx
           cases hx
           have h3 := aHj h2
           rw [List.all_eq_true] at e7
           have := vO (e7 (x.toNat - 48) (List.mem_range.2 (by omega)))
           rw [show 48 + (x.toNat - 48) = x.toNat by omega] at this
           exact this
       | cons y ys =>
        simp only at h
        cases e6 : opB (mU [c, y]) true with
        | true =>
         rw [e6, cond_true] at h
         obtain ⟨r, hr, rfl⟩ := lS h
         refine ⟨hk, hlt, aPd hs hS e2 e4 (aDn q1) (vO e6), ?_⟩
         refine ih _ _ _ hr (Suf.step (x := [c, y]) hS) ?_
         rw [show p + 2 + ys.length = p + (c :: y :: ys).length by simp; omega]
         exact hT
        | false =>
         rw [e6, cond_false] at h
         cases e8 : (opB (mU [c, y]) false && opB (mU [c]) true) with
         | false => rw [e8] at h; cases h
         | true =>
          rw [e8, cond_true] at h
          simp only [Bool.and_eq_true] at e8
          obtain ⟨r, hr, rfl⟩ := lS h
          refine ⟨hk, hlt, aFf hs hS e2 e4 (aDn q1) (vO e8.2) (fun x r' hx => ?_), ?_⟩
          ·have hx : y :: (ys ++ rest) = x :: r' := hx
           cases hx
           exact vO e8.1
          ·refine ih _ _ _ hr (Suf.step (x := [c]) hS) ?_
           rw [show p + 1 + (y :: ys).length = p + (c :: y :: ys).length by simp; omega]
           exact hT
/-! ### all of them -/
def aFc (t : Tk) : List Value := [.int .i64 t.kk, .string ⟨⟨t.tx⟩⟩, .int .i64 ((t.at0 : Nat) : Int)]
def at1 (s : ByteArray) (ts : List Tk) (k : Nat) : Nat := match ts[k]? with
 | some t => t.at0
 | none => s.data.toList.length
theorem TokL.nth {s : ByteArray} : ∀ {ts : List Tk} {p : Nat}, TokL s p ts → Sk s p (at1 s ts 0) ∧ ∀ j (h : j < ts.length), ts[j].at0 < s.data.toList.length ∧ aGv s ts[j] ∧ Sk s ts[j].e (at1 s ts (j + 1))
 | [], p, h => ⟨h, fun j hj => by cases hj⟩
 | t :: r, p, h => by
  obtain ⟨h1, h2, h3, h4⟩ := h
  obtain ⟨k1, k2⟩ := TokL.nth h4
  refine ⟨h1, fun j hj => ?_⟩
  cases j with
  | zero => exact ⟨h2, h3, k1⟩
  | succ j => exact k2 j (by simpa using hj)
theorem Sk.calls {s : ByteArray} {p q : Nat} (hs : s.data.toList.length ≤ 16384) (h : Sk s p q) (S : AH) : XCall Tryz.prog 80 [.string s, .int .i64 ((p : Nat) : Int)] S fun v H' => v = .int .i64 ((q : Nat) : Int) ∧ Kept S.nx S H' := aQc h.1 h.2.1 h.2.2.1 h.2.2.2 hs
theorem aCq {S : AH} {s : ByteArray} {ts : List Tk} (hs : s.data.toList.length ≤ 16384) (hn : ts.length ≤ 4000) (h : TokL s 0 ts) : XCall Tryz.prog 46 [.string s] S fun v H' => ∃ N, S.nx ≤ N ∧ N < H'.nx ∧ Kept S.nx S H' ∧ H'.tr.get N = some (.cells (ts.flatMap aFc ++ [.int .i64 0, .string ⟨#[]⟩, .int .i64 ((s.data.toList.length : Nat) : Int)]) 3 false) ∧ v = .tuple ⟨[.slice (some ⟨2 * N + 1, 0, none⟩) (ts.length + 1) (ts.length + 1), .int .i64 0, .int .i64 0]⟩ := by
 obtain ⟨k1, k2⟩ := h.nth
 have hat : ∀ j (hj : j < ts.length), at1 s ts j = ts[j].at0 := fun j hj => by unfold at1; rw [List.getElem?_eq_getElem hj]
 have hend : at1 s ts ts.length = s.data.toList.length := by unfold at1; rw [List.getElem?_eq_none (Nat.le_refl _)]
 let d0 : Tk := ⟨0, [], 0, 0⟩
 have hgd : ∀ j (hj : j < ts.length), ts.getD j d0 = ts[j] := fun j hj => by simp [List.getD_eq_getElem?_getD, hj]
 have := aHs (S := S) (s := s) (n := ts.length) (kk := fun j => (ts.getD j d0).kk) (tx := fun j => ⟨⟨(ts.getD j d0).tx⟩⟩) (at0 := at1 s ts) (e := fun j => (ts.getD j d0).e) hs hn (k1.calls hs) (fun j hj => ?_) hend
 ·rw [hend] at this
  have e : tcs (fun j => (ts.getD j d0).kk) (fun j => ⟨⟨(ts.getD j d0).tx⟩⟩) (at1 s ts) ts.length = ts.flatMap aFc := by
   have e2 : ts = (List.range ts.length).map fun j => ts.getD j d0 := by
    apply List.ext_getElem
    ·simp
    ·intro j h1 h2
     rw [List.getElem_map, List.getElem_range, hgd j h1]
   conv => rhs; rw [e2, List.flatMap_map]
   unfold tcs
   simp only [List.flatMap]
   congr 1
   apply List.map_congr_left
   intro j hj
   have hj := List.mem_range.1 hj
   simp only [aFc, hat j hj, hgd j hj]
  rw [e] at this
  exact this
 ·obtain ⟨q1, q2, q3⟩ := k2 j hj
  simp only [hgd j hj, hat j hj]
  exact ⟨q1, q2, q3.calls hs⟩
/-- a script with two numbers in it -/
theorem jI {c1 c2 c3 da db : List UInt8} {t1 : List Tk} {t2 t3 : Nat → List Tk} {y2 y3 : UInt8} {r2 r3 : List UInt8} (h1 : lxC 300 0 c1 true = some t1) (h2 : ∀ p, lxC 300 p c2 true = some (t2 p)) (h3 : ∀ p, lxC 300 p c3 false = some (t3 p))
 (e2 : c2 = y2 :: r2) (e3 : c3 = y3 :: r3) (y2d : dg y2.toNat = false) (y2l : lt y2.toNat = false) (y3d : dg y3.toNat = false) (y3l : lt y3.toNat = false) (na : da ≠ []) (nb : db ≠ []) (ha : ∀ b ∈ da, dg b.toNat = true) (hb : ∀ b ∈ db, dg b.toNat = true) (va : ∀ k, iW (da.take k) ≤ 4611686018427387904) (vb : ∀ k, iW (db.take k) ≤ 4611686018427387904)
 (hs : (c1 ++ (da ++ (c2 ++ (db ++ c3)))).length ≤ 16384) : TokL ⟨⟨c1 ++ (da ++ (c2 ++ (db ++ c3)))⟩⟩ 0 (t1 ++ (⟨1, da, c1.length, c1.length + da.length⟩ :: (t2 (c1.length + da.length) ++ (⟨1, db, c1.length + da.length + c2.length, c1.length + da.length + c2.length + db.length⟩ :: (t3 (c1.length + da.length + c2.length + db.length) ++ []))))) := by
 have hs' : (⟨⟨c1 ++ (da ++ (c2 ++ (db ++ c3)))⟩⟩ : ByteArray).data.toList.length ≤ 16384 := hs
 have S0 : Suf ⟨⟨c1 ++ (da ++ (c2 ++ (db ++ c3)))⟩⟩ 0 (c1 ++ (da ++ (c2 ++ (db ++ c3)))) := ⟨rfl, Nat.zero_le _⟩
 have S1 := S0.step
 rw [Nat.zero_add] at S1
 have S2 := S1.step
 have S3 := S2.step
 have S4 := S3.step
 have hda : ∃ x r, da = x :: r ∧ dg x.toNat = true := by cases da with
  | nil => exact absurd rfl na
  | cons x r => exact ⟨x, r, rfl, ha x (.head _)⟩
 have hdb : ∃ x r, db = x :: r ∧ dg x.toNat = true := by cases db with
  | nil => exact absurd rfl nb
  | cons x r => exact ⟨x, r, rfl, hb x (.head _)⟩
 have hnd : ∀ {x : UInt8}, dg x.toNat = true → x.toNat ≠ 10 ∧ x.toNat ≠ 32 ∧ x.toNat ≠ 9 ∧ x.toNat ≠ 35 := fun {x} h => by have := aHj h; omega
 have L5 : TokL ⟨⟨c1 ++ (da ++ (c2 ++ (db ++ c3)))⟩⟩ (c1.length + da.length + c2.length + db.length) (t3 (c1.length + da.length + c2.length + db.length) ++ []) := by
  refine aDq hs' (fun h => by cases h) (fun _ => rfl) 300 _ c3 _ (h3 _) (by rw [List.append_nil]; exact S4) ?_
  have S5 : Suf _ _ ([] : List UInt8) := Suf.step (x := c3) (r := []) (by rw [List.append_nil]; exact S4)
  exact Sk.last S5
 have L4 : TokL ⟨⟨c1 ++ (da ++ (c2 ++ (db ++ c3)))⟩⟩ (c1.length + da.length + c2.length) (⟨1, db, c1.length + da.length + c2.length, c1.length + da.length + c2.length + db.length⟩ :: (t3 (c1.length + da.length + c2.length + db.length) ++ [])) := by
  obtain ⟨x, r, hx, hxd⟩ := hdb
  have S3' : Suf ⟨⟨c1 ++ (da ++ (c2 ++ (db ++ c3)))⟩⟩ (c1.length + da.length + c2.length) (x :: (r ++ c3)) := by rw [show x :: (r ++ c3) = db ++ c3 by rw [hx]; rfl]; exact S3
  obtain ⟨n1, n2, n3, n4⟩ := hnd hxd
  refine ⟨Sk.here S3' n1 n2 n3 n4, aDc S3', ?_, L5⟩
  rw [e3] at S3
  have := yW (c := y3) (r := r3) hs' (by rw [← e3] at S3 ⊢; exact S3) nb hb vb y3d y3l
  exact this
 have L3 := aDq hs' (rest := db ++ c3) (d := true) (fun _ => by obtain ⟨x, r, hx, hxd⟩ := hdb; exact ⟨x, r ++ c3, by rw [hx]; rfl, hxd⟩) (fun h => by cases h) 300 _ c2 _ (h2 _) S2 L4
 have L2 : TokL ⟨⟨c1 ++ (da ++ (c2 ++ (db ++ c3)))⟩⟩ c1.length (⟨1, da, c1.length, c1.length + da.length⟩ :: (t2 (c1.length + da.length) ++ (⟨1, db, c1.length + da.length + c2.length, c1.length + da.length + c2.length + db.length⟩ :: (t3 (c1.length + da.length + c2.length + db.length) ++ [])))) := by
  obtain ⟨x, r, hx, hxd⟩ := hda
  have S1' : Suf ⟨⟨c1 ++ (da ++ (c2 ++ (db ++ c3)))⟩⟩ c1.length (x :: (r ++ (c2 ++ (db ++ c3)))) := by rw [show x :: (r ++ (c2 ++ (db ++ c3))) = da ++ (c2 ++ (db ++ c3)) by rw [hx]; rfl]; exact S1
  obtain ⟨n1, n2, n3, n4⟩ := hnd hxd
  refine ⟨Sk.here S1' n1 n2 n3 n4, aDc S1', ?_, L3⟩
  have := yW (c := y2) (r := r2 ++ (db ++ c3)) hs' (show Suf _ _ (da ++ y2 :: (r2 ++ (db ++ c3))) by rw [show y2 :: (r2 ++ (db ++ c3)) = c2 ++ (db ++ c3) by rw [e2]; rfl]; exact S1) na ha va y2d y2l
  exact this
 have L1 := aDq hs' (rest := da ++ (c2 ++ (db ++ c3))) (d := true) (fun _ => by obtain ⟨x, r, hx, hxd⟩ := hda; exact ⟨x, r ++ (c2 ++ (db ++ c3)), by rw [hx]; rfl, hxd⟩) (fun h => by cases h) 300 0 c1 _ h1 S0 (by rw [Nat.zero_add]; exact L2)
 exact L1
end Go.Proofs.YthgfcpgjabodoaaGreatDoor
