/-
  A round of the loop.
-/
import Derived.Test.YthgfcpgjabodoaaGreatDoorT0
set_option linter.unusedVariables false
set_option linter.unusedSimpArgs false
set_option linter.unusedSectionVars false
set_option maxRecDepth 100000
namespace Go.Proofs.YthgfcpgjabodoaaGreatDoor
open Go Go.AM
theorem has24 : ∃ fn, E.fn 24 = some fn := ⟨_, aV Tryz.func24 rfl rfl rfl⟩
theorem has98 : ∃ fn, E.fn 98 = some fn := ⟨_, aV Tryz.func98 rfl rfl rfl⟩
/-- a contract holds beside other own objects -/
theorem XCall.more {P : Program} {g : FuncId} {args : List Value} {H : AH} {Lx Li L : OL} {T : Value → OL → Prop} (hp : L.Perm (Lx ++ Li)) (hin : ∀ p ∈ L, H.tr.get p.1 = some p.2 ∧ p.1 < H.nx) (hd : L.Pairwise (fun p q => p.1 ≠ q.1))
    (hc : (∀ p ∈ Li, H.tr.get p.1 = some p.2 ∧ p.1 < H.nx) → Li.Pairwise (fun p q => p.1 ≠ q.1) → XCall P g args H fun u H' => ∃ Lo, Turned Li H H' Lo ∧ T u Lo) : XCall P g args H fun u H' => ∃ Lo, Turned L H H' Lo ∧ ∃ Lo0, T u Lo0 ∧ Lo = Lx ++ Lo0 := by
  have hd2 : (Lx ++ Li).Pairwise (fun p q => p.1 ≠ q.1) := hp.pairwise hd (fun h => Ne.symm h)
  obtain ⟨d1, d2, d3⟩ := List.pairwise_append.1 hd2
  have hm : ∀ {p}, p ∈ L ↔ p ∈ Lx ∨ p ∈ Li := fun {p} => hp.mem_iff.trans List.mem_append
  refine (hc (fun p h => hin p (hm.2 (.inr h))) d2).mono ?_
  rintro u K kw ⟨Lo, hT, hu⟩
  have hx : ∀ p ∈ Lx, ¬ ids Li p.1 := fun p h ⟨q, hq, e⟩ => d3 p h q hq e.symm
  have hsub : ∀ j, ids Li j → ids L j := fun j ⟨q, hq, e⟩ => ⟨q, hm.2 (.inr hq), e⟩
  refine ⟨Lx ++ Lo, ⟨hT.w0, fun j hj hn => hT.get j hj fun h => hn (hsub j h), fun j hj hn => hT.lt j hj fun h => hn (hsub j h), fun p hp => ?_, List.pairwise_append.2 ⟨d1, hT.dist, fun p hp q hq e => ?_⟩, ?_⟩, Lo, hu, rfl⟩
  · rcases List.mem_append.1 hp with h | h
    · have hq := hin p (hm.2 (.inl h))
      exact ⟨(hT.get _ hq.2 (hx p h)).trans hq.1, hT.lt _ hq.2 (hx p h), .inl ⟨p, hm.2 (.inl h), rfl⟩⟩
    · obtain ⟨a, b, c⟩ := hT.out p h
      exact ⟨a, b, c.imp (hsub _) id⟩
  · rcases (hT.out q hq).2.2 with h | h
    · exact hx p hp (by rw [e]; exact h)
    · have := (hin p (hm.2 (.inl hp))).2
      omega
  · obtain ⟨p, h⟩ := hT.sv
    exact ⟨p, List.mem_append_right _ h⟩
theorem aPj {S : AH} {M F K kk : Nat} {o : Value} {s : Int} (h0 : 0 ≤ s) (h1 : s + 1 ≤ 10000) (hin : ∀ p ∈ ([(M, kC F s o)] : OL), S.tr.get p.1 = some p.2 ∧ p.1 < S.nx) : XCall Tryz.prog 98 [.pointer (some ⟨2 * M + 1, 0, none⟩), .pointer (some ⟨2 * K + 1, kk, none⟩)] S fun u H' => ∃ Lo, Turned ([(M, kC F s o)]) S H' Lo ∧ (u = .bool true ∧ Lo = [(M, kC F (s + 1) o)]) := by
  refine eQ (E := E) (Li := [(M, kC F s o)]) (n := 22) (rs := [.tmp 4]) (l := [(1, _), (0, _)]) (aV Tryz.func98 rfl rfl rfl) hin (List.pairwise_singleton _ _) rfl ?_
  refine aE ?_
  refine aB (E := E) ?_
  refine aC rfl rfl rfl ?_
  refine aD ?_
  refine aE ?_
  refine aB (E := E) ?_
  refine aA rfl rfl rfl ?_
  first | refine bV rfl rfl rfl ?_ | refine bQ rfl rfl rfl ?_
  refine bG (o' := 12) rfl rfl rfl Tryz.underlying78 rfl kP rfl rfl ?_
  refine bL rfl rfl rfl (by first | exact cS Tryz.underlying3 rfl (by repeat (first | exact List.Mem.head _ | apply List.Mem.tail | apply List.mem_append_right)) (by first | exact aL rfl | rfl) | exact cG Tryz.underlying3 rfl (by first | assumption | exact InA.add (by assumption) | exact InA.add (InA.add (by assumption))) (by assumption)) ?_
  refine aG rfl rfl rfl rfl (by first | exact aF (aK (by omega) (by omega)) | exact bC (by omega) | exact aF (aK (by omega) (by omega)) | exact aF rfl) ?_
  first | refine bV rfl rfl rfl ?_ | refine bQ rfl rfl rfl ?_
  refine bG (o' := 12) rfl rfl rfl Tryz.underlying78 rfl kP rfl rfl ?_
  refine jL rfl (fun h => nomatch h) rfl rfl kP rfl rfl (by repeat (first | exact .zero | apply Upd.succ)) (by first | exact bW rfl | exact bR rfl | exact bK rfl | exact cD rfl | rfl) (by first | exact aT rfl rfl | exact aT rfl (aI _ _) | exact aP rfl | exact Nat.le_of_ble_eq_true rfl | omega) (fun h => nomatch h) ?_
  refine aD ?_
  refine aE ?_
  refine aB (E := E) ?_
  refine aA rfl rfl rfl ?_
  first | refine bV rfl rfl rfl ?_ | refine bQ rfl rfl rfl ?_
  refine bG (o' := 12) rfl rfl rfl Tryz.underlying78 rfl kP rfl rfl ?_
  refine bL rfl rfl rfl (by first | exact cS Tryz.underlying3 rfl (by repeat (first | exact List.Mem.head _ | apply List.Mem.tail | apply List.mem_append_right)) (by first | exact aL rfl | rfl) | exact cG Tryz.underlying3 rfl (by first | assumption | exact InA.add (by assumption) | exact InA.add (InA.add (by assumption))) (by assumption)) ?_
  refine aG rfl rfl rfl rfl (by first | exact bI (by omega) | exact bI (by omega) | exact lC (by omega)) ?_
  refine aA rfl rfl rfl ?_
  first | refine aA rfl rfl rfl ?_ | refine aH rfl rfl rfl ?_
  first | refine aA rfl rfl rfl ?_ | refine aH rfl rfl rfl ?_
  first | refine bO rfl rfl (fun h => nomatch h) rfl aRx (by repeat (first | exact Opvs.nil | apply Opvs.cons rfl)) (fun H hH => _) ?_ | refine aH rfl rfl rfl ?_
  first | refine bA rfl rfl rfl rfl ?_ | refine bB rfl rfl rfl rfl ?_
  refine aC rfl rfl rfl ?_
  refine aD ?_
  refine cI ?_
  refine bH (.tmp rfl .nil) ?_
  exact fun H hH => ⟨_, hH.turned (Gr.refl _ _) ⟨_, List.Mem.head _⟩, rfl, rfl⟩
abbrev oK (B : Nat) (k0 k1 k2 k3 k4 k5 k6 k7 k8 k9 k10 k11 k12 : Value) : AObj := .cells [k0, k1, k2, k3, k4, k5, k6, k7, k8, k9, k10, k11, .int .i64 25, .string ⟨#[]⟩, .int .i64 0, .slice none 0 0, .slice (some ⟨2 * B + 1, 0, none⟩) 2 2, k12] 6 false
set_option maxHeartbeats 2000000 in
theorem wF {S : AH} {V2 C2 M X F B B1 B2 B3 B4 V C K z : Nat} {bs : List UInt8} {p0 p1 p2 p3 p4 p5 s i n : Int} {k0 k1 k2 k3 k4 k5 k6 k7 k8 k9 k10 k11 k12 : Value} {lW : OL} (hT : Tab S) (hi : It.ok (.num i)) (h0 : 0 ≤ s) (h1 : s + 8 ≤ 10000) (n0 : 0 ≤ n) (n1 : n ≤ 10000) (hz : Bz z) (hl : (bs ++ Lib.itoa i).length < 16384) (hin : ∀ p ∈ ((C2, kT V2 C) :: (V2, mA i) :: (lmL M X F B B1 B2 B3 B4 V C p0 p1 p2 p3 p4 p5 s n z bs ++ (K, oK B k0 k1 k2 k3 k4 k5 k6 k7 k8 k9 k10 k11 k12) :: lW) : OL), S.tr.get p.1 = some p.2 ∧ p.1 < S.nx) (hd : ((C2, kT V2 C) :: (V2, mA i) :: (lmL M X F B B1 B2 B3 B4 V C p0 p1 p2 p3 p4 p5 s n z bs ++ (K, oK B k0 k1 k2 k3 k4 k5 k6 k7 k8 k9 k10 k11 k12) :: lW) : OL).Pairwise (fun p q => p.1 ≠ q.1)) : XCall Tryz.prog 97 [.pointer (some ⟨2 * M + 1, 0, none⟩), .pointer (some ⟨2 * K + 1, 12, none⟩), .pointer (some ⟨2 * C2 + 1, 0, none⟩)] S fun u H' => ∃ Lo, Turned ((C2, kT V2 C) :: (V2, mA i) :: (lmL M X F B B1 B2 B3 B4 V C p0 p1 p2 p3 p4 p5 s n z bs ++ (K, oK B k0 k1 k2 k3 k4 k5 k6 k7 k8 k9 k10 k11 k12) :: lW)) S H' Lo ∧ (u = .int .i64 0 ∧ ∃ X', Lo = lmL M X' F B B1 B2 B3 B4 V C p0 p1 p2 p3 p4 p5 (s + 8) (n + 1) (zx 1 bs (zI i)) (bs ++ (Lib.itoa i ++ [10])) ++ (K, oK B k0 k1 k2 k3 k4 k5 k6 k7 k8 k9 k10 k11 k12) :: lW) := by
  refine eQ (E := E) (Li := (C2, kT V2 C) :: (V2, mA i) :: (lmL M X F B B1 B2 B3 B4 V C p0 p1 p2 p3 p4 p5 s n z bs ++ (K, oK B k0 k1 k2 k3 k4 k5 k6 k7 k8 k9 k10 k11 k12) :: lW)) (n := 18) (rs := [.tmp 6]) (l := [(2, _), (1, _), (0, _)]) (aV Tryz.func97 rfl rfl rfl) hin hd rfl ?_
  refine aE ?_
  refine aB (E := E) ?_
  refine aC rfl rfl rfl ?_
  refine aD ?_
  refine aE ?_
  refine aE ?_
  refine aB (E := E) ?_
  refine aA rfl rfl rfl ?_
  refine aA rfl rfl rfl ?_
  refine cK (Li := [(M, kC F s (bsv X bs))]) (fun u Lo => u = .bool true ∧ Lo = [(M, kC F (s + 1) (bsv X bs))]) rfl rfl (fun h => nomatch h) rfl has98 (by repeat (first | exact Opvs.nil | apply Opvs.cons rfl)) (by repeat (first | exact Takes.nil | exact Takes.app | exact Takes.self | apply Takes.skip)) (fun h => nomatch h) (fun H hH => aPj h0 (by omega) (hH.have fun p hp => by rcases List.mem_singleton.1 hp with rfl; exact List.Mem.tail _ (List.Mem.tail _ (List.Mem.head _)))) ?_
  rintro _ _ ⟨rfl, rfl⟩
  refine xA rfl rfl rfl rfl ?_
  refine aD ?_
  refine aM rfl ?_
  refine aX ?_
  refine aQ ?_
  refine aE ?_
  refine aB (E := E) ?_
  refine aA rfl rfl rfl ?_
  refine aA rfl rfl rfl ?_
  first | refine bV rfl rfl rfl ?_ | refine bQ rfl rfl rfl ?_
  refine bG (o' := 16) rfl rfl rfl Tryz.underlying94 rfl wK rfl rfl ?_
  refine bL rfl rfl rfl (by first | exact cS Tryz.underlying88 rfl (by repeat (first | exact List.Mem.head _ | apply List.Mem.tail | apply List.mem_append_right)) (by first | exact aL rfl | rfl) | exact cG Tryz.underlying88 rfl (by first | assumption | exact InA.add (by assumption) | exact InA.add (InA.add (by assumption))) (by assumption)) ?_
  refine aA rfl rfl rfl ?_
  refine cK (Li := liS M X F B B1 B2 B3 B4 V C p0 p1 p2 p3 p4 p5 V2 C2 i (s + 1) n z bs) (fun u Lo => u = .int .i64 0 ∧ ∃ X', Lo = lmL M X' F B B1 B2 B3 B4 V C p0 p1 p2 p3 p4 p5 (s + 1 + 7) (n + 1) (zx 1 bs (zI i)) (bs ++ (Lib.itoa i ++ [10]))) rfl rfl (fun h => nomatch h) rfl has24 (by repeat (first | exact Opvs.nil | apply Opvs.cons rfl)) (by repeat (first | exact Takes.nil | exact Takes.app | exact Takes.self | apply Takes.skip)) (fun h => nomatch h) (fun H hH => aSl (hT.at hH.kept.w0.symm) hi (by omega) (by omega) n0 n1 hz hl (hH.have fun p hp => List.mem_append_left ((K, oK B k0 k1 k2 k3 k4 k5 k6 k7 k8 k9 k10 k11 k12) :: lW) hp) (hH.dist.sublist (List.sublist_append_left (liS M X F B B1 B2 B3 B4 V C p0 p1 p2 p3 p4 p5 V2 C2 i (s + 1) n z bs) ((K, oK B k0 k1 k2 k3 k4 k5 k6 k7 k8 k9 k10 k11 k12) :: lW)))) ?_
  rintro _ _ ⟨rfl, X', rfl⟩
  rw [show s + 1 + 7 = s + 8 by omega]
  refine aC rfl rfl rfl ?_
  refine aD ?_
  refine cI ?_
  refine bH (.tmp rfl .nil) ?_
  exact fun H hH => ⟨_, hH.turned (Gr.refl _ _) ⟨_, List.Mem.head _⟩, rfl, X', rfl⟩
end Go.Proofs.YthgfcpgjabodoaaGreatDoor
namespace Go.Proofs.YthgfcpgjabodoaaGreatDoor
open Go Go.AM
theorem aPh {S : AH} {n : Int} : XCall Tryz.prog 149 [.int .i64 n] S fun v H' => v = .agg ⟨[.int .i64 1, .int .i64 n, .string ⟨#[]⟩, .slice none 0 0]⟩ ∧ Kept S.nx S H' := by
  refine fD (E := E) (n := 5) (rs := [.cell 2 70]) (l := [(0, _)]) (aV Tryz.func149 rfl rfl rfl) (A0 := fun _ => False) (fun j h => h.elim) rfl ?_
  refine aE ?_
  refine aB (E := E) ?_
  refine cZ (cs := (.int .i64 0 :: .int .i64 0 :: .string ⟨#[]⟩ :: .slice none 0 0 :: [])) rfl rfl (fun h => nomatch h) dD rfl rfl ?_
  intro N2
  refine aD ?_
  refine aE ?_
  refine aB (E := E) ?_
  refine aA rfl rfl rfl ?_
  refine iY rfl rfl (by repeat (first | exact Opps.nil | apply Opps.cons rfl)) (by rfl) ?_
  refine cQ rfl (fun h => nomatch h) rfl rfl dD (by first | exact aI _ _ | rfl) rfl (by repeat (first | exact .zero | apply Upd.succ)) (by first | exact bW rfl | exact bR rfl | exact bK rfl | exact cD rfl | rfl) (by first | exact aT rfl rfl | exact aT rfl (aI _ _) | exact aP rfl | exact Nat.le_of_ble_eq_true rfl | omega) (fun h => nomatch h) ?_
  refine aD ?_
  refine cI ?_
  refine bH (.cell rfl (by first | exact cM Tryz.underlying70 rfl dD rfl (by repeat (first | exact List.Mem.head _ | apply List.Mem.tail | apply List.mem_append_right)) (by first | exact aP rfl | exact Nat.le_of_ble_eq_true rfl | decide | omega) (by first | exact bM | exact take_all rfl | exact bD rfl | rfl) | exact cF Tryz.underlying70 rfl dD rfl (by first | assumption | exact InA.add (by assumption) | exact InA.add (InA.add (by assumption))) (by assumption)) .nil) ?_
  exact fun H hH => ⟨rfl, hH.kept⟩
theorem aSh {S : AH} {C : Nat} : XCall Tryz.prog 25 [.pointer (some ⟨2 * C + 1, 0, none⟩)] S fun v H' => ∃ Lo, Fresh S H' Lo ∧ ∃ V2 C2, v = .pointer (some ⟨2 * C2 + 1, 0, none⟩) ∧ Lo = [(C2, kT V2 C), (V2, .map [] 0)] := by
  refine fD (E := E) (n := 7) (rs := [.tmp 2]) (l := [(0, _)]) (aV Tryz.func25 rfl rfl rfl) (A0 := fun _ => False) (fun j h => h.elim) rfl ?_
  refine aE ?_
  refine aB (E := E) ?_
  refine aC rfl rfl rfl ?_
  refine aD ?_
  refine aE ?_
  refine aB (E := E) ?_
  refine aDl rfl rfl (fun h => nomatch h) ?_
  intro N3
  refine aA rfl rfl rfl ?_
  refine iY rfl rfl (by repeat (first | exact Opps.nil | apply Opps.cons rfl)) (by rfl) ?_
  refine qJ rfl rfl (fun h => nomatch h) rfl ?_
  intro N6
  refine aC rfl rfl rfl ?_
  refine aD ?_
  refine cI ?_
  refine bH (.tmp rfl .nil) ?_
  exact fun H hH => ⟨_, ⟨hH.kept, fun p hp => ⟨(hH.own _ hp).1, (hH.own _ hp).2.1, (hH.own _ hp).2.2.1⟩, hH.dist⟩, N3, N6, rfl, rfl⟩
theorem nK {L M : OL} (h : L = M) : L.Sublist (M ++ []) := by rw [h, List.append_nil]; exact List.Sublist.refl _
/-- the two ends of the loop, in their variable -/
def arL (a b : Int) : Nat → List Value
  | 0 => [.int .i64 0, .int .i64 0]
  | 1 => [.int .i64 a, .int .i64 0]
  | _ => [.int .i64 a, .int .i64 b]
set_option maxHeartbeats 4000000 in
theorem rY {S : AH} {M R K C n : Nat} {a b : Int} {x0 x1 x2 x3 x4 x5 x6 y0 y1 y2 y3 y4 y5 : Value} {Lv : Nat → OL} {Lm : Nat → Nat → OL} (hn : b = a + ((n : Nat) : Int)) (ha0 : -1048576 ≤ a) (ha1 : a ≤ 1048576) (hn1 : n ≤ 1000) (hLv : Lv 2 = Lm 0 0) (hv0 : ∀ H : AH, S.w0 = H.w0 → (∀ p ∈ Lv 0, H.tr.get p.1 = some p.2 ∧ p.1 < H.nx) → (Lv 0).Pairwise (fun p q => p.1 ≠ q.1) → XCall Tryz.prog 102 [.pointer (some ⟨2 * M + 1, 0, none⟩), .pointer (some ⟨2 * K + 1, 0, none⟩), .pointer (some ⟨2 * C + 1, 0, none⟩)] H fun u H' => ∃ Lo, Turned (Lv 0) H H' Lo ∧ (u = .tuple ⟨[.agg ⟨[.int .i64 1, .int .i64 a, .string ⟨#[]⟩, .slice none 0 0]⟩, .bool true]⟩ ∧ Lo = Lv 1)) (hv1 : ∀ H : AH, S.w0 = H.w0 → (∀ p ∈ Lv 1, H.tr.get p.1 = some p.2 ∧ p.1 < H.nx) → (Lv 1).Pairwise (fun p q => p.1 ≠ q.1) → XCall Tryz.prog 102 [.pointer (some ⟨2 * M + 1, 0, none⟩), .pointer (some ⟨2 * K + 1, 6, none⟩), .pointer (some ⟨2 * C + 1, 0, none⟩)] H fun u H' => ∃ Lo, Turned (Lv 1) H H' Lo ∧ (u = .tuple ⟨[.agg ⟨[.int .i64 1, .int .i64 b, .string ⟨#[]⟩, .slice none 0 0]⟩, .bool true]⟩ ∧ Lo = Lv 2)) (hb : ∀ (k X V2 C2 : Nat), k < n → ∀ H : AH, S.w0 = H.w0 → (∀ p ∈ (C2, kT V2 C) :: (V2, mA (a + ((k : Nat) : Int))) :: Lm k X, H.tr.get p.1 = some p.2 ∧ p.1 < H.nx) → ((C2, kT V2 C) :: (V2, mA (a + ((k : Nat) : Int))) :: Lm k X).Pairwise (fun p q => p.1 ≠ q.1) → XCall Tryz.prog 97 [.pointer (some ⟨2 * M + 1, 0, none⟩), .pointer (some ⟨2 * K + 1, 12, none⟩), .pointer (some ⟨2 * C2 + 1, 0, none⟩)] H fun u H' => ∃ Lo, Turned ((C2, kT V2 C) :: (V2, mA (a + ((k : Nat) : Int))) :: Lm k X) H H' Lo ∧ (u = .int .i64 0 ∧ ∃ X', Lo = Lm (k + 1) X')) (hin : ∀ p ∈ ((R, .cells [x0, x1, x2, x3, x4, x5, .int .i64 24, vT [105], .int .i64 0, .slice none 0 0, .slice (some ⟨2 * K + 1, 0, none⟩) 3 3, x6, y0, y1, y2, y3, y4, y5] 6 false) :: Lv 0 : OL), S.tr.get p.1 = some p.2 ∧ p.1 < S.nx) (hd : ((R, .cells [x0, x1, x2, x3, x4, x5, .int .i64 24, vT [105], .int .i64 0, .slice none 0 0, .slice (some ⟨2 * K + 1, 0, none⟩) 3 3, x6, y0, y1, y2, y3, y4, y5] 6 false) :: Lv 0 : OL).Pairwise (fun p q => p.1 ≠ q.1)) : XCall Tryz.prog 101 [.pointer (some ⟨2 * M + 1, 0, none⟩), .pointer (some ⟨2 * R + 1, 6, none⟩), .pointer (some ⟨2 * C + 1, 0, none⟩)] S fun u H' => ∃ Lo, Turned ((R, .cells [x0, x1, x2, x3, x4, x5, .int .i64 24, vT [105], .int .i64 0, .slice none 0 0, .slice (some ⟨2 * K + 1, 0, none⟩) 3 3, x6, y0, y1, y2, y3, y4, y5] 6 false) :: Lv 0) S H' Lo ∧ (u = .int .i64 0 ∧ ∃ X', Lo = (R, .cells [x0, x1, x2, x3, x4, x5, .int .i64 24, vT [105], .int .i64 0, .slice none 0 0, .slice (some ⟨2 * K + 1, 0, none⟩) 3 3, x6, y0, y1, y2, y3, y4, y5] 6 false) :: Lm n X') := by
  refine eQ (E := E) (Li := (R, .cells [x0, x1, x2, x3, x4, x5, .int .i64 24, vT [105], .int .i64 0, .slice none 0 0, .slice (some ⟨2 * K + 1, 0, none⟩) 3 3, x6, y0, y1, y2, y3, y4, y5] 6 false) :: Lv 0) (n := 82) (rs := [.tmp 6]) (l := [(2, _), (1, _), (0, _)]) (aV Tryz.func101 rfl rfl rfl) hin hd rfl ?_
  refine aE ?_
  refine aB (E := E) ?_
  refine aC rfl rfl rfl ?_
  refine aD ?_
  refine aE ?_
  refine aB (E := E) ?_
  refine cZ (cs := (.int .i64 0 :: .int .i64 0 :: [])) rfl rfl (fun h => nomatch h) aRq rfl rfl ?_
  intro N7
  refine aD ?_
  refine aE ?_
  refine aE ?_
  refine aB (E := E) ?_
  refine aA rfl rfl rfl ?_
  refine aD ?_
  refine bE ?_
  refine gT (τ := Nat) (fun k => 2 - k) (fun k => [(0, .pointer (some ⟨2 * M + 1, 0, none⟩)), (1, .pointer (some ⟨2 * R + 1, 6, none⟩)), (2, .pointer (some ⟨2 * C + 1, 0, none⟩)), (7, .pointer (some ⟨2 * N7 + 1, 0, none⟩)), (14, .int .i64 ((k : Nat) : Int))]) (fun _ => S) (fun _ => mQ S ((R, .cells [x0, x1, x2, x3, x4, x5, .int .i64 24, vT [105], .int .i64 0, .slice none 0 0, .slice (some ⟨2 * K + 1, 0, none⟩) 3 3, x6, y0, y1, y2, y3, y4, y5] 6 false) :: Lv 0)) (fun k => (N7, .cells (arL a b k) (fN E 207) true) :: (R, .cells [x0, x1, x2, x3, x4, x5, .int .i64 24, vT [105], .int .i64 0, .slice none 0 0, .slice (some ⟨2 * K + 1, 0, none⟩) 3 3, x6, y0, y1, y2, y3, y4, y5] 6 false) :: Lv k) (fun k => k ≤ 2) (0) ((Nat.zero_le _)) (by repeat (first | exact .nil | refine .cons rfl ?_)) rfl rfl (List.Sublist.refl _) ?_
  intro k hJ2 t1
  have hk2 : k ≤ 2 := hJ2
  refine aE ?_
  rcases (show k = 0 ∨ k = 1 ∨ k = 2 by omega) with rfl | rfl | rfl
  · skip
    refine aB (E := E) ?_
    refine aG rfl rfl rfl rfl (by first | exact aW (by decide) | exact aS (by decide) | exact aW (by omega) | exact aS (by omega)) ?_
    refine aD ?_
    refine aE ?_
    refine bX rfl ?_
    refine aX ?_
    refine aQ ?_
    refine aE ?_
    refine bE ?_
    refine aE ?_
    refine aB (E := E) ?_
    refine aA rfl rfl rfl ?_
    refine aC rfl rfl rfl ?_
    refine aD ?_
    refine aE ?_
    refine aB (E := E) ?_
    refine aA rfl rfl rfl ?_
    refine aA rfl rfl rfl ?_
    first | refine bV rfl rfl rfl ?_ | refine bQ rfl rfl rfl ?_
    refine bG (o' := 10) rfl rfl rfl Tryz.underlying94 rfl wK rfl rfl ?_
    refine bL rfl rfl rfl (by first | exact cS Tryz.underlying88 rfl (by repeat (first | exact List.Mem.head _ | apply List.Mem.tail | apply List.mem_append_right)) (by first | exact aL rfl | rfl) | exact cG Tryz.underlying88 rfl (by first | assumption | exact InA.add (by assumption) | exact InA.add (InA.add (by assumption))) (by assumption)) ?_
    refine aA rfl rfl rfl ?_
    refine iB (j := 0) (o' := 0) rfl rfl rfl rfl Tryz.underlying88 qZ rfl (by decide) rfl ?_
    refine aA rfl rfl rfl ?_
    refine cK (Li := (N7, .cells (arL a b 0) (fN E 207) true) :: (R, .cells [x0, x1, x2, x3, x4, x5, .int .i64 24, vT [105], .int .i64 0, .slice none 0 0, .slice (some ⟨2 * K + 1, 0, none⟩) 3 3, x6, y0, y1, y2, y3, y4, y5] 6 false) :: Lv 0) (fun u Lo => ∃ Lo0, (u = .tuple ⟨[.agg ⟨[.int .i64 1, .int .i64 a, .string ⟨#[]⟩, .slice none 0 0]⟩, .bool true]⟩ ∧ Lo0 = Lv 1) ∧ Lo = [(N7, .cells (arL a b 0) (fN E 207) true), (R, .cells [x0, x1, x2, x3, x4, x5, .int .i64 24, vT [105], .int .i64 0, .slice none 0 0, .slice (some ⟨2 * K + 1, 0, none⟩) 3 3, x6, y0, y1, y2, y3, y4, y5] 6 false)] ++ Lo0) rfl rfl (fun h => nomatch h) rfl aJv (by repeat (first | exact Opvs.nil | apply Opvs.cons rfl)) (by repeat (first | exact Takes.nil | exact Takes.app | exact Takes.self | apply Takes.skip)) (fun h => nomatch h) (fun H hH => XCall.more (Lx := [(N7, .cells (arL a b 0) (fN E 207) true), (R, .cells [x0, x1, x2, x3, x4, x5, .int .i64 24, vT [105], .int .i64 0, .slice none 0 0, .slice (some ⟨2 * K + 1, 0, none⟩) 3 3, x6, y0, y1, y2, y3, y4, y5] 6 false)]) (.refl _) (hH.have fun p hp => hp) hH.dist (hv0 H hH.kept.w0.symm)) ?_
    rintro _ _ ⟨_, ⟨rfl, rfl⟩, rfl⟩
    refine aA rfl rfl rfl ?_
    refine bP rfl rfl rfl rfl ?_
    refine bP rfl rfl rfl rfl ?_
    refine cZ (cs := (.int .i64 0 :: .int .i64 0 :: .string ⟨#[]⟩ :: .slice none 0 0 :: [])) rfl rfl (fun h => nomatch h) dD rfl rfl ?_
    intro N9
    refine cQ rfl (fun h => nomatch h) rfl rfl dD (by first | exact aI _ _ | rfl) rfl (by repeat (first | exact .zero | apply Upd.succ)) (by first | exact bW rfl | exact bR rfl | exact bK rfl | exact cD rfl | rfl) (by first | exact aT rfl rfl | exact aT rfl (aI _ _) | exact aP rfl | exact Nat.le_of_ble_eq_true rfl | omega) (fun h => nomatch h) ?_
    refine aC rfl rfl rfl ?_
    refine aD ?_
    refine aE ?_
    refine aE ?_
    refine aB (E := E) ?_
    refine aA rfl rfl rfl ?_
    refine xA rfl rfl rfl rfl ?_
    refine aD ?_
    refine aM rfl ?_
    refine aX ?_
    refine aQ ?_
    refine aE ?_
    refine aE ?_
    refine aB (E := E) ?_
    refine bG (o' := 0) rfl rfl rfl Tryz.underlying70 rfl kP rfl rfl ?_
    refine bL rfl rfl rfl (by first | exact cS Tryz.underlying3 rfl (by repeat (first | exact List.Mem.head _ | apply List.Mem.tail | apply List.mem_append_right)) (by first | exact aL rfl | rfl) | exact cG Tryz.underlying3 rfl (by first | assumption | exact InA.add (by assumption) | exact InA.add (InA.add (by assumption))) (by assumption)) ?_
    refine aG rfl rfl rfl rfl (by first | exact eV rfl | exact eV (by first | rfl | assumption | omega) | exact gJ (by first | rfl | assumption | omega)) ?_
    refine aD ?_
    refine aM rfl ?_
    refine aX ?_
    refine aQ ?_
    refine aB (E := E) ?_
    refine aA rfl rfl rfl ?_
    refine bG (o' := 1) rfl rfl rfl Tryz.underlying70 rfl kP rfl rfl ?_
    refine bL rfl rfl rfl (by first | exact cS Tryz.underlying3 rfl (by repeat (first | exact List.Mem.head _ | apply List.Mem.tail | apply List.mem_append_right)) (by first | exact aL rfl | rfl) | exact cG Tryz.underlying3 rfl (by first | assumption | exact InA.add (by assumption) | exact InA.add (InA.add (by assumption))) (by assumption)) ?_
    refine kV (j := 0) (o' := 0) rfl rfl rfl rfl Tryz.underlying207 kP rfl (by decide) rfl ?_
    refine jL rfl (fun h => nomatch h) rfl rfl kP rfl rfl (by repeat (first | exact .zero | apply Upd.succ)) (by first | exact bW rfl | exact bR rfl | exact bK rfl | exact cD rfl | rfl) (by first | exact aT rfl rfl | exact aT rfl (aI _ _) | exact aP rfl | exact Nat.le_of_ble_eq_true rfl | omega) (fun h => nomatch h) ?_
    refine eY ?_
    refine cP ?_
    refine aQ ?_
    refine aB (E := E) ?_
    refine aG rfl rfl rfl rfl (by first | exact aF (aK (by decide) (by decide)) | exact bC (by omega) | exact aF (aK (by omega) (by omega)) | exact aF rfl) ?_
    refine aA rfl rfl rfl ?_
    refine eY ?_
    exact dR 1 (show 2 - 1 < 2 - 0 by decide) (show 1 ≤ 2 by decide) (by repeat (first | exact .nil | refine .cons rfl ?_)) rfl rfl (List.Sublist.cons _ (List.Sublist.cons_cons _ (List.Sublist.cons_cons _ (nK rfl))))
  · skip
    refine aB (E := E) ?_
    refine aG rfl rfl rfl rfl (by first | exact aW (by decide) | exact aS (by decide) | exact aW (by omega) | exact aS (by omega)) ?_
    refine aD ?_
    refine aE ?_
    refine bX rfl ?_
    refine aX ?_
    refine aQ ?_
    refine aE ?_
    refine bE ?_
    refine aE ?_
    refine aB (E := E) ?_
    refine aA rfl rfl rfl ?_
    refine aC rfl rfl rfl ?_
    refine aD ?_
    refine aE ?_
    refine aB (E := E) ?_
    refine aA rfl rfl rfl ?_
    refine aA rfl rfl rfl ?_
    first | refine bV rfl rfl rfl ?_ | refine bQ rfl rfl rfl ?_
    refine bG (o' := 10) rfl rfl rfl Tryz.underlying94 rfl wK rfl rfl ?_
    refine bL rfl rfl rfl (by first | exact cS Tryz.underlying88 rfl (by repeat (first | exact List.Mem.head _ | apply List.Mem.tail | apply List.mem_append_right)) (by first | exact aL rfl | rfl) | exact cG Tryz.underlying88 rfl (by first | assumption | exact InA.add (by assumption) | exact InA.add (InA.add (by assumption))) (by assumption)) ?_
    refine aA rfl rfl rfl ?_
    refine iB (j := 1) (o' := 6) rfl rfl rfl rfl Tryz.underlying88 qZ rfl (by decide) rfl ?_
    refine aA rfl rfl rfl ?_
    refine cK (Li := (N7, .cells (arL a b 1) (fN E 207) true) :: (R, .cells [x0, x1, x2, x3, x4, x5, .int .i64 24, vT [105], .int .i64 0, .slice none 0 0, .slice (some ⟨2 * K + 1, 0, none⟩) 3 3, x6, y0, y1, y2, y3, y4, y5] 6 false) :: Lv 1) (fun u Lo => ∃ Lo0, (u = .tuple ⟨[.agg ⟨[.int .i64 1, .int .i64 b, .string ⟨#[]⟩, .slice none 0 0]⟩, .bool true]⟩ ∧ Lo0 = Lv 2) ∧ Lo = [(N7, .cells (arL a b 1) (fN E 207) true), (R, .cells [x0, x1, x2, x3, x4, x5, .int .i64 24, vT [105], .int .i64 0, .slice none 0 0, .slice (some ⟨2 * K + 1, 0, none⟩) 3 3, x6, y0, y1, y2, y3, y4, y5] 6 false)] ++ Lo0) rfl rfl (fun h => nomatch h) rfl aJv (by repeat (first | exact Opvs.nil | apply Opvs.cons rfl)) (by repeat (first | exact Takes.nil | exact Takes.app | exact Takes.self | apply Takes.skip)) (fun h => nomatch h) (fun H hH => XCall.more (Lx := [(N7, .cells (arL a b 1) (fN E 207) true), (R, .cells [x0, x1, x2, x3, x4, x5, .int .i64 24, vT [105], .int .i64 0, .slice none 0 0, .slice (some ⟨2 * K + 1, 0, none⟩) 3 3, x6, y0, y1, y2, y3, y4, y5] 6 false)]) (.refl _) (hH.have fun p hp => hp) hH.dist (hv1 H hH.kept.w0.symm)) ?_
    rintro _ _ ⟨_, ⟨rfl, rfl⟩, rfl⟩
    refine aA rfl rfl rfl ?_
    refine bP rfl rfl rfl rfl ?_
    refine bP rfl rfl rfl rfl ?_
    refine cZ (cs := (.int .i64 0 :: .int .i64 0 :: .string ⟨#[]⟩ :: .slice none 0 0 :: [])) rfl rfl (fun h => nomatch h) dD rfl rfl ?_
    intro N9
    refine cQ rfl (fun h => nomatch h) rfl rfl dD (by first | exact aI _ _ | rfl) rfl (by repeat (first | exact .zero | apply Upd.succ)) (by first | exact bW rfl | exact bR rfl | exact bK rfl | exact cD rfl | rfl) (by first | exact aT rfl rfl | exact aT rfl (aI _ _) | exact aP rfl | exact Nat.le_of_ble_eq_true rfl | omega) (fun h => nomatch h) ?_
    refine aC rfl rfl rfl ?_
    refine aD ?_
    refine aE ?_
    refine aE ?_
    refine aB (E := E) ?_
    refine aA rfl rfl rfl ?_
    refine xA rfl rfl rfl rfl ?_
    refine aD ?_
    refine aM rfl ?_
    refine aX ?_
    refine aQ ?_
    refine aE ?_
    refine aE ?_
    refine aB (E := E) ?_
    refine bG (o' := 0) rfl rfl rfl Tryz.underlying70 rfl kP rfl rfl ?_
    refine bL rfl rfl rfl (by first | exact cS Tryz.underlying3 rfl (by repeat (first | exact List.Mem.head _ | apply List.Mem.tail | apply List.mem_append_right)) (by first | exact aL rfl | rfl) | exact cG Tryz.underlying3 rfl (by first | assumption | exact InA.add (by assumption) | exact InA.add (InA.add (by assumption))) (by assumption)) ?_
    refine aG rfl rfl rfl rfl (by first | exact eV rfl | exact eV (by first | rfl | assumption | omega) | exact gJ (by first | rfl | assumption | omega)) ?_
    refine aD ?_
    refine aM rfl ?_
    refine aX ?_
    refine aQ ?_
    refine aB (E := E) ?_
    refine aA rfl rfl rfl ?_
    refine bG (o' := 1) rfl rfl rfl Tryz.underlying70 rfl kP rfl rfl ?_
    refine bL rfl rfl rfl (by first | exact cS Tryz.underlying3 rfl (by repeat (first | exact List.Mem.head _ | apply List.Mem.tail | apply List.mem_append_right)) (by first | exact aL rfl | rfl) | exact cG Tryz.underlying3 rfl (by first | assumption | exact InA.add (by assumption) | exact InA.add (InA.add (by assumption))) (by assumption)) ?_
    refine kV (j := 1) (o' := 1) rfl rfl rfl rfl Tryz.underlying207 kP rfl (by decide) rfl ?_
    refine jL rfl (fun h => nomatch h) rfl rfl kP rfl rfl (by repeat (first | exact .zero | apply Upd.succ)) (by first | exact bW rfl | exact bR rfl | exact bK rfl | exact cD rfl | rfl) (by first | exact aT rfl rfl | exact aT rfl (aI _ _) | exact aP rfl | exact Nat.le_of_ble_eq_true rfl | omega) (fun h => nomatch h) ?_
    refine eY ?_
    refine cP ?_
    refine aQ ?_
    refine aB (E := E) ?_
    refine aG rfl rfl rfl rfl (by first | exact aF (aK (by decide) (by decide)) | exact bC (by omega) | exact aF (aK (by omega) (by omega)) | exact aF rfl) ?_
    refine aA rfl rfl rfl ?_
    refine eY ?_
    exact dR 2 (show 2 - 2 < 2 - 1 by decide) (show 2 ≤ 2 by decide) (by repeat (first | exact .nil | refine .cons rfl ?_)) rfl rfl (List.Sublist.cons _ (List.Sublist.cons_cons _ (List.Sublist.cons_cons _ (nK rfl))))
  · skip
    refine aB (E := E) ?_
    refine aG rfl rfl rfl rfl (by first | exact aW (by decide) | exact aS (by decide) | exact aW (by omega) | exact aS (by omega)) ?_
    refine aD ?_
    refine aE ?_
    refine aM rfl ?_
    refine kG ?_
    refine eG ?_
    refine eK ?_
    refine dL ?_
    refine aQ ?_
    refine aE ?_
    refine aE ?_
    refine aB (E := E) ?_
    refine kV (j := 0) (o' := 0) rfl rfl rfl rfl Tryz.underlying207 kP rfl (by decide) rfl ?_
    refine bL rfl rfl rfl (by first | exact cS Tryz.underlying3 rfl (by repeat (first | exact List.Mem.head _ | apply List.Mem.tail | apply List.mem_append_right)) (by first | exact aL rfl | rfl) | exact cG Tryz.underlying3 rfl (by first | assumption | exact InA.add (by assumption) | exact InA.add (InA.add (by assumption))) (by assumption)) ?_
    refine aC rfl rfl rfl ?_
    refine aD ?_
    refine bE ?_
    refine gT (τ := Nat × Nat) (fun q => n - q.1) (fun q => [(0, .pointer (some ⟨2 * M + 1, 0, none⟩)), (1, .pointer (some ⟨2 * R + 1, 6, none⟩)), (2, .pointer (some ⟨2 * C + 1, 0, none⟩)), (7, .pointer (some ⟨2 * N7 + 1, 0, none⟩)), (11, .int .i64 (a + ((q.1 : Nat) : Int)))]) (fun _ => S) (fun _ => mQ S ((R, .cells [x0, x1, x2, x3, x4, x5, .int .i64 24, vT [105], .int .i64 0, .slice none 0 0, .slice (some ⟨2 * K + 1, 0, none⟩) 3 3, x6, y0, y1, y2, y3, y4, y5] 6 false) :: Lv 0)) (fun q => (N7, .cells (arL a b 2) (fN E 207) true) :: (R, .cells [x0, x1, x2, x3, x4, x5, .int .i64 24, vT [105], .int .i64 0, .slice none 0 0, .slice (some ⟨2 * K + 1, 0, none⟩) 3 3, x6, y0, y1, y2, y3, y4, y5] 6 false) :: Lm q.1 q.2) (fun q => q.1 ≤ n) ((0, 0)) ((Nat.zero_le _)) (by repeat (first | exact .nil | refine .cons (by first | rfl | exact congrArg (fun i => some (Value.int .i64 i)) (show a = a + ((0 : Nat) : Int) by omega)) ?_)) rfl rfl (by show List.Sublist ((N7, .cells (arL a b 2) (fN E 207) true) :: (R, .cells [x0, x1, x2, x3, x4, x5, .int .i64 24, vT [105], .int .i64 0, .slice none 0 0, .slice (some ⟨2 * K + 1, 0, none⟩) 3 3, x6, y0, y1, y2, y3, y4, y5] 6 false) :: Lm 0 0) _; rw [← hLv]; exact List.Sublist.refl _) ?_
    intro q hJ2 t2
    obtain ⟨k, X⟩ := q
    have hk0 : k ≤ n := hJ2
    dsimp only
    refine aE ?_
    refine aE ?_
    rcases Nat.lt_or_ge k n with hk | hk
    · skip
      refine aB (E := E) ?_
      refine aA rfl rfl rfl ?_
      refine kV (j := 1) (o' := 1) rfl rfl rfl rfl Tryz.underlying207 kP rfl (by decide) rfl ?_
      refine bL rfl rfl rfl (by first | exact cS Tryz.underlying3 rfl (by repeat (first | exact List.Mem.head _ | apply List.Mem.tail | apply List.mem_append_right)) (by first | exact aL rfl | rfl) | exact cG Tryz.underlying3 rfl (by first | assumption | exact InA.add (by assumption) | exact InA.add (InA.add (by assumption))) (by assumption)) ?_
      refine aG rfl rfl rfl rfl (by first | exact aW (by omega) | exact aS (by omega) | exact aW (by omega) | exact aS (by omega)) ?_
      refine aD ?_
      refine bX rfl ?_
      refine aX ?_
      refine aQ ?_
      refine aE ?_
      refine bE ?_
      refine aE ?_
      refine aB (E := E) ?_
      refine aA rfl rfl rfl ?_
      refine wE (fun u Lo => ∃ V2 C2, u = .pointer (some ⟨2 * C2 + 1, 0, none⟩) ∧ Lo = [(C2, kT V2 C), (V2, .map [] 0)]) rfl rfl (fun h => nomatch h) rfl has25 (by repeat (first | exact Opvs.nil | apply Opvs.cons rfl)) (fun H hH => aSh) ?_
      rintro _ _ ⟨V2, C2, rfl, rfl⟩
      refine aC rfl rfl rfl ?_
      refine aD ?_
      refine aE ?_
      refine zQ (E := E) mixed [9, 10] _ (List.Sublist.cons_cons _ (List.Sublist.cons _ (List.Sublist.refl _))) (by kernel_rfl) (by kernel_rfl) (by decide) ?_
      refine aA rfl rfl rfl ?_
      first | refine bV rfl rfl rfl ?_ | refine bQ rfl rfl rfl ?_
      first | refine bG rfl rfl rfl Tryz.underlying134 rfl aIq rfl rfl ?_ | refine nZ rfl rfl rfl Tryz.underlying134 rfl aIq rfl rfl ?_
      refine bL rfl rfl rfl (by first | exact cS Tryz.underlying132 rfl (by repeat (first | exact List.Mem.head _ | apply List.Mem.tail | apply List.mem_append_right)) (by first | exact aL rfl | rfl) | exact cG Tryz.underlying132 rfl (by first | assumption | exact InA.add (by assumption) | exact InA.add (InA.add (by assumption))) (by assumption)) ?_
      refine aA rfl rfl rfl ?_
      first | refine bV rfl rfl rfl ?_ | refine bQ rfl rfl rfl ?_
      refine bG (o' := 7) rfl rfl rfl Tryz.underlying94 rfl aLg rfl rfl ?_
      refine bL rfl rfl rfl (by first | exact cS Tryz.underlying9 rfl (by repeat (first | exact List.Mem.head _ | apply List.Mem.tail | apply List.mem_append_right)) (by first | exact aL rfl | rfl) | exact cG Tryz.underlying9 rfl (by first | assumption | exact InA.add (by assumption) | exact InA.add (InA.add (by assumption))) (by assumption)) ?_
      refine aA rfl rfl rfl ?_
      refine bO rfl rfl (fun _ => (by repeat (first | exact List.Mem.head _ | apply List.Mem.tail | apply List.mem_append_right))) rfl aRc (by repeat (first | exact Opvs.nil | apply Opvs.cons rfl)) (fun H hH => aPh) ?_
      refine aIe (es' := [(vT [105], .agg ⟨[.int .i64 1, .int .i64 (a + ((k : Nat) : Int)), .string ⟨#[]⟩, .slice none 0 0]⟩, 0)]) (cl' := 1) rfl (fun _ => (by repeat (first | exact List.Mem.head _ | apply List.Mem.tail | apply List.mem_append_right))) rfl rfl rfl Tryz.underlying132 Tryz.underlying9 rfl (by repeat (first | exact .zero | apply Upd.succ)) (.inr ⟨rfl, rfl, rfl⟩) (fun _ => List.Sublist.cons_cons _ (List.Sublist.cons _ (List.Sublist.refl _))) ?_
      refine aD ?_
      refine aE ?_
      refine aB (E := E) ?_
      refine aA rfl rfl rfl ?_
      refine aA rfl rfl rfl ?_
      first | refine bV rfl rfl rfl ?_ | refine bQ rfl rfl rfl ?_
      refine bG (o' := 10) rfl rfl rfl Tryz.underlying94 rfl wK rfl rfl ?_
      refine bL rfl rfl rfl (by first | exact cS Tryz.underlying88 rfl (by repeat (first | exact List.Mem.head _ | apply List.Mem.tail | apply List.mem_append_right)) (by first | exact aL rfl | rfl) | exact cG Tryz.underlying88 rfl (by first | assumption | exact InA.add (by assumption) | exact InA.add (InA.add (by assumption))) (by assumption)) ?_
      refine iB (j := 2) (o' := 12) rfl rfl rfl rfl Tryz.underlying88 qZ rfl (by decide) rfl ?_
      refine aA rfl rfl rfl ?_
      refine cK (Li := (C2, kT V2 C) :: (V2, mA (a + ((k : Nat) : Int))) :: (N7, .cells (arL a b 2) (fN E 207) true) :: (R, .cells [x0, x1, x2, x3, x4, x5, .int .i64 24, vT [105], .int .i64 0, .slice none 0 0, .slice (some ⟨2 * K + 1, 0, none⟩) 3 3, x6, y0, y1, y2, y3, y4, y5] 6 false) :: Lm k X) (fun u Lo => ∃ Lo0, (u = .int .i64 0 ∧ ∃ X', Lo0 = Lm (k + 1) X') ∧ Lo = [(N7, .cells (arL a b 2) (fN E 207) true), (R, .cells [x0, x1, x2, x3, x4, x5, .int .i64 24, vT [105], .int .i64 0, .slice none 0 0, .slice (some ⟨2 * K + 1, 0, none⟩) 3 3, x6, y0, y1, y2, y3, y4, y5] 6 false)] ++ Lo0) rfl rfl (fun h => nomatch h) rfl has97 (by repeat (first | exact Opvs.nil | apply Opvs.cons rfl)) (by repeat (first | exact Takes.nil | exact Takes.app | exact Takes.self | apply Takes.skip)) (fun h => nomatch h) (fun H hH => XCall.more (Lx := [(N7, .cells (arL a b 2) (fN E 207) true), (R, .cells [x0, x1, x2, x3, x4, x5, .int .i64 24, vT [105], .int .i64 0, .slice none 0 0, .slice (some ⟨2 * K + 1, 0, none⟩) 3 3, x6, y0, y1, y2, y3, y4, y5] 6 false)]) (List.perm_append_comm_assoc [(C2, kT V2 C), (V2, mA (a + ((k : Nat) : Int)))] [(N7, .cells (arL a b 2) (fN E 207) true), (R, .cells [x0, x1, x2, x3, x4, x5, .int .i64 24, vT [105], .int .i64 0, .slice none 0 0, .slice (some ⟨2 * K + 1, 0, none⟩) 3 3, x6, y0, y1, y2, y3, y4, y5] 6 false)] (Lm k X)) (hH.have fun p hp => hp) hH.dist (hb k X V2 C2 hk H hH.kept.w0.symm)) ?_
      rintro _ _ ⟨_, ⟨rfl, X', rfl⟩, rfl⟩
      refine aC rfl rfl rfl ?_
      refine aD ?_
      refine aE ?_
      refine aB (E := E) ?_
      refine aA rfl rfl rfl ?_
      refine aD ?_
      refine bE ?_
      refine aE ?_
      refine aB (E := E) ?_
      refine aG rfl rfl rfl rfl (by first | exact bJ (by decide) | exact bN (by first | rfl | assumption | omega) | exact bJ (by first | rfl | assumption | omega)) ?_
      refine aC rfl rfl rfl ?_
      refine aD ?_
      refine aM rfl ?_
      refine aE ?_
      refine aE ?_
      refine aB (E := E) ?_
      refine aG rfl rfl rfl rfl (by first | exact bJ (by decide) | exact bN (by first | rfl | assumption | omega) | exact bJ (by first | rfl | assumption | omega)) ?_
      refine aC rfl rfl rfl ?_
      refine aD ?_
      refine aM rfl ?_
      refine aB (E := E) ?_
      refine aG rfl rfl rfl rfl (by first | exact bJ (by decide) | exact bN (by first | rfl | assumption | omega) | exact bJ (by first | rfl | assumption | omega)) ?_
      refine aC rfl rfl rfl ?_
      refine aD ?_
      refine aM rfl ?_
      refine aX ?_
      refine cP ?_
      refine cP ?_
      refine aQ ?_
      refine aB (E := E) ?_
      refine aA rfl rfl rfl ?_
      refine aG rfl rfl rfl rfl (by first | exact aF (aK (by omega) (by omega)) | exact bC (by omega) | exact aF (aK (by omega) (by omega)) | exact aF rfl) ?_
      refine aC rfl rfl rfl ?_
      refine eY ?_
      exact dR (k + 1, X') (show n - (k + 1) < n - k by omega) (show k + 1 ≤ n by omega) (by repeat (first | exact .nil | refine .cons (by first | rfl | exact congrArg (fun i => some (Value.int .i64 i)) (show a + ((k : Nat) : Int) + 1 = a + ((k + 1 : Nat) : Int) by omega)) ?_)) rfl rfl (List.Sublist.cons_cons _ (List.Sublist.cons_cons _ (nK rfl)))
    · skip
      obtain rfl : k = n := by omega
      refine aB (E := E) ?_
      refine aA rfl rfl rfl ?_
      refine kV (j := 1) (o' := 1) rfl rfl rfl rfl Tryz.underlying207 kP rfl (by decide) rfl ?_
      refine bL rfl rfl rfl (by first | exact cS Tryz.underlying3 rfl (by repeat (first | exact List.Mem.head _ | apply List.Mem.tail | apply List.mem_append_right)) (by first | exact aL rfl | rfl) | exact cG Tryz.underlying3 rfl (by first | assumption | exact InA.add (by assumption) | exact InA.add (InA.add (by assumption))) (by assumption)) ?_
      refine aG rfl rfl rfl rfl (by first | exact aW (by omega) | exact aS (by omega) | exact aW (by omega) | exact aS (by omega)) ?_
      refine aD ?_
      refine aM rfl ?_
      refine kG ?_
      refine eG ?_
      refine eK ?_
      refine dL ?_
      refine aQ ?_
      refine aE ?_
      refine aB (E := E) ?_
      refine aC rfl rfl rfl ?_
      refine aD ?_
      refine cI ?_
      refine bH (.tmp rfl .nil) ?_
      exact fun H hH => ⟨_, (hH.subl (List.Sublist.cons _ (List.Sublist.refl _))).turned (Gr.refl _ _) ⟨_, List.Mem.head _⟩, rfl, X, rfl⟩
end Go.Proofs.YthgfcpgjabodoaaGreatDoor
namespace Go.Proofs.YthgfcpgjabodoaaGreatDoor
open Go Go.AM
/-- what the loop prints -/
def ol (a : Int) : Nat → List UInt8
  | 0 => []
  | k + 1 => ol a k ++ (Lib.itoa (a + ((k : Nat) : Int)) ++ [10])
/-- the tag of its row -/
def zl (a : Int) : Nat → Nat
  | 0 => 1
  | k + 1 => zx 1 (ol a k) (zI (a + ((k : Nat) : Int)))
theorem yA (a : Int) (k : Nat) : Bz (zl a k) := by
  cases k with
  | zero => exact .inl rfl
  | succ k => exact Bz.zx (.inl rfl) (aQw _) _
theorem yK {a : Int} {n : Nat} (h : 1 ≤ n) : ol a n ≠ [] := by
  cases n with
  | zero => omega
  | succ n => simp [ol]
theorem lG {m l : Nat} (hm : ∀ v, v < m → (Lib.decDigits v).length ≤ l) : ∀ u, u < 10 * m → (Lib.decDigits u).length ≤ l + 1 := by
  intro u hu
  rw [Lib.decDigits]
  split
  · simp
  · rw [List.length_append]
    have := hm (u / 10) (by omega)
    simp only [List.length_cons, List.length_nil]; omega
theorem aAs : ∀ u, u < 10000000 → (Lib.decDigits u).length ≤ 7 := by
  have h1 : ∀ u, u < 10 → (Lib.decDigits u).length ≤ 1 := fun u hu => by
    rw [Lib.decDigits, dif_pos hu]; simp
  have h := lG (lG (lG (lG (lG (lG h1)))))
  exact fun u hu => h u (by omega)
theorem gG {x : Int} (h0 : -10000000 < x) (h1 : x < 10000000) : (Lib.itoa x).length ≤ 8 := by
  rcases Int.lt_or_le x 0 with h | h
  · obtain ⟨u, rfl⟩ : ∃ u : Nat, x = -((u : Nat) : Int) := ⟨x.natAbs, by omega⟩
    rw [Lib.itoa_neg u (by omega), List.length_cons]
    have := aAs u (by omega)
    omega
  · obtain ⟨u, rfl⟩ : ∃ u : Nat, x = ((u : Nat) : Int) := ⟨x.toNat, by omega⟩
    rw [Lib.itoa_nonneg u]
    have := aAs u (by omega)
    omega
theorem mY {a : Int} : ∀ {k : Nat}, -1048576 ≤ a → a ≤ 1048576 → k ≤ 1000 → (ol a k).length ≤ 9 * k
  | 0, _, _, _ => by simp [ol]
  | k + 1, h0, h1, h2 => by
    have := mY (k := k) h0 h1 (by omega)
    have h8 := gG (x := a + ((k : Nat) : Int)) (by omega) (by omega)
    simp only [ol, List.length_append, List.length_cons, List.length_nil]
    omega
theorem oY {L1 L2 : OL} (h : L2.map (·.1) = L1.map (·.1)) : ∀ p ∈ L1, ∃ q ∈ L2, q.1 = p.1 := fun p hp => by
  have : p.1 ∈ L2.map (·.1) := h ▸ List.mem_map_of_mem (f := (·.1)) hp
  obtain ⟨q, hq, e⟩ := List.mem_map.1 this
  exact ⟨q, hq, e⟩
theorem aEg {L : OL} {n : Nat} (h : (L.map (·.1)).all (fun j => Nat.blt j n) = true) : ∀ p ∈ L, p.1 < n := fun p hp => Nat.le_of_ble_eq_true (List.all_eq_true.1 h _ (List.mem_map_of_mem (f := (·.1)) hp))
theorem yV {L : OL} {S K : AH} {p q x : Nat × AObj} {r : OL} (hTu : Turned L S K (p :: q :: x :: r)) (hm : L.map (·.1) = p.1 :: q.1 :: r.map (·.1)) : S.nx ≤ x.1 := by
  have hx : x ∈ p :: q :: x :: r := List.Mem.tail _ (List.Mem.tail _ (List.Mem.head _))
  rcases (hTu.out x hx).2.2 with ⟨y, hy, e⟩ | h
  · have h1 : x.1 ∈ L.map (·.1) := by rw [← e]; exact List.mem_map_of_mem (f := (·.1)) hy
    rw [hm] at h1
    have hd := hTu.dist
    obtain ⟨d1, d2⟩ := List.pairwise_cons.1 hd
    obtain ⟨d3, d4⟩ := List.pairwise_cons.1 d2
    obtain ⟨d5, _⟩ := List.pairwise_cons.1 d4
    rcases List.mem_cons.1 h1 with h1 | h1
    · exact absurd h1.symm (d1 x (List.Mem.tail _ (List.Mem.head _)))
    rcases List.mem_cons.1 h1 with h1 | h1
    · exact absurd h1.symm (d3 x (List.Mem.head _))
    obtain ⟨z, hz, e2⟩ := List.mem_map.1 h1
    exact absurd e2.symm (d5 z hz)
  · exact h
theorem It.ok_small {i : Int} (h0 : -10000000 < i) (h1 : i < 10000000) : It.ok (.num i) := ⟨by omega, by omega⟩
end Go.Proofs.YthgfcpgjabodoaaGreatDoor
