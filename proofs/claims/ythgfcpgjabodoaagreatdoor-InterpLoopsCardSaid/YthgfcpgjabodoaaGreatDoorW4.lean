/-
  The loop that never ends comes to the limit of steps.
-/
import Derived.Test.YthgfcpgjabodoaaGreatDoorW3
set_option linter.unusedVariables false
set_option linter.unusedSimpArgs false
set_option maxRecDepth 100000
namespace Go.Proofs.YthgfcpgjabodoaaGreatDoor
open Go Go.AM
abbrev liW (M F R K V C : Nat) (s a e : Int) : OL := [(M, .cells [.int .i64 4, .int .i64 3, .int .i64 0, .slice none 0 0, .int .i64 1, .int .i64 0, .int .i64 0, .slice none 0 0, .slice none 0 0, .slice none 0 0, .slice none 0 0, .slice none 0 0, (.int .i64 (s)), .int .i64 0, .map (some (2 * F + 1)), .int .i64 0, .int .i64 0, .string ⟨#[]⟩, .slice none 0 0, .int .i64 a, .int .i64 e] 1099511627854 true), (F, .map [] 0), (R, .cells [.int .i64 23, .string ⟨#[]⟩, .int .i64 0, .slice none 0 0, .slice (some ⟨(2 * K + 1), 0, none⟩) 2 2, .int .i64 0] 6 false), (K, .cells [.int .i64 9, .string ⟨#[]⟩, .int .i64 0, .slice none 0 0, .slice none 0 0, .int .i64 6, .int .i64 25, .string ⟨#[]⟩, .int .i64 0, .slice none 0 0, .slice none 0 0, .int .i64 11] 6 true), (V, .map [] 0), (C, .cells [.map (some (2 * V + 1)), .pointer none] 1099511627910 true)]
set_option maxHeartbeats 2000000 in
theorem aNn {S : AH} {M F R K V C : Nat} (hin : ∀ p ∈ liW M F R K V C 1 0 0, S.tr.get p.1 = some p.2 ∧ p.1 < S.nx) (hd : (liW M F R K V C 1 0 0).Pairwise (fun p q => p.1 ≠ q.1)) : XCall Tryz.prog 100 [.pointer (some ⟨2 * M + 1, 0, none⟩), .pointer (some ⟨2 * R + 1, 0, none⟩), .pointer (some ⟨2 * C + 1, 0, none⟩)] S fun u H' => ∃ Lo, Turned (liW M F R K V C 1 0 0) S H' Lo ∧ (u = .int .i64 3 ∧ Lo = liW M F R K V C 10001 11 20) := by
 refine eQ (E := E) (Li := liW M F R K V C 1 0 0) (n := 40) (rs := [.tmp 6]) (l := [(2, _), (1, _), (0, _)]) (aV Tryz.func100 rfl rfl rfl) hin hd rfl ?_
 refine aE ?_
 refine aB (E := E) ?_
 refine aC rfl rfl rfl ?_
 refine aD ?_
 refine bE ?_
 refine gT (τ := Nat) (fun k => 5000 - k) (fun k => [(0, .pointer (some ⟨2 * M + 1, 0, none⟩)), (1, .pointer (some ⟨2 * R + 1, 0, none⟩)), (2, .pointer (some ⟨2 * C + 1, 0, none⟩))]) (fun _ => S) (fun _ => mQ S (liW M F R K V C 1 0 0)) (fun k => liW M F R K V C (2 * (k : Int) + 1) 0 0) (fun k => k ≤ 4999) (0) (by omega) (by repeat (first | exact .nil | refine .cons rfl ?_)) rfl rfl (List.Sublist.refl _) ?_
 intro k hJ2 t1
 refine bE ?_
 refine aE ?_
 refine aB (E := E) ?_
 refine aA rfl rfl rfl ?_
 refine aA rfl rfl rfl ?_
 first | refine bV rfl rfl rfl ?_ | refine bQ rfl rfl rfl ?_
 refine bG (o' := 4) rfl rfl rfl Tryz.underlying94 rfl wK rfl rfl ?_
 refine bL rfl rfl rfl (by first | exact cS Tryz.underlying88 rfl (by repeat (first | exact List.Mem.head _ | apply List.Mem.tail | apply List.mem_append_right)) (by first | exact aL rfl | rfl) | exact cG Tryz.underlying88 rfl (by first | assumption | exact InA.add (by assumption) | exact InA.add (InA.add (by assumption))) (by assumption)) ?_
 first | refine iB rfl rfl rfl rfl Tryz.underlying88 qZ rfl (by first | omega | decide) rfl ?_ | refine nF rfl rfl rfl rfl Tryz.underlying88 qZ rfl (by first | omega | decide) ?_
 refine aA rfl rfl rfl ?_
 refine cK (Li := liW M F R K V C (2 * (k : Int) + 1) 0 0) (fun u Lo => u = .tuple ⟨[.bool true, .bool true]⟩ ∧ Lo = liW M F R K V C ((2 * (k : Int) + 1) + 1) 0 0) rfl rfl (fun h => nomatch h) rfl aSk (by repeat (first | exact Opvs.nil | apply Opvs.cons rfl)) (by repeat (first | exact Takes.nil | exact Takes.app | exact Takes.self | apply Takes.skip)) (fun h => nomatch h) (fun H hH => wcond (by omega) (by omega) (hH.have fun p hp => hp) hH.dist) ?_
 rintro _ _ ⟨rfl, rfl⟩
 refine aA rfl rfl rfl ?_
 refine bP rfl rfl rfl rfl ?_
 refine bP rfl rfl rfl rfl ?_
 refine aC rfl rfl rfl ?_
 refine aC rfl rfl rfl ?_
 refine aD ?_
 refine aE ?_
 refine aE ?_
 refine aB (E := E) ?_
 refine aA rfl rfl rfl ?_
 refine xA rfl rfl rfl rfl ?_
 refine aD ?_
 refine aM rfl ?_
 refine aX ?_
 refine aQ ?_
 refine aE ?_
 refine aE ?_
 refine aB (E := E) ?_
 refine aA rfl rfl rfl ?_
 refine xA rfl rfl rfl rfl ?_
 refine aD ?_
 refine aM rfl ?_
 refine aX ?_
 refine aQ ?_
 refine aE ?_
 rcases Nat.lt_or_ge k 4999 with hk | hk
 ·skip
  refine aB (E := E) ?_
  refine aA rfl rfl rfl ?_
  refine aA rfl rfl rfl ?_
  first | refine bV rfl rfl rfl ?_ | refine bQ rfl rfl rfl ?_
  refine bG (o' := 4) rfl rfl rfl Tryz.underlying94 rfl wK rfl rfl ?_
  refine bL rfl rfl rfl (by first | exact cS Tryz.underlying88 rfl (by repeat (first | exact List.Mem.head _ | apply List.Mem.tail | apply List.mem_append_right)) (by first | exact aL rfl | rfl) | exact cG Tryz.underlying88 rfl (by first | assumption | exact InA.add (by assumption) | exact InA.add (InA.add (by assumption))) (by assumption)) ?_
  first | refine iB rfl rfl rfl rfl Tryz.underlying88 qZ rfl (by first | omega | decide) rfl ?_ | refine nF rfl rfl rfl rfl Tryz.underlying88 qZ rfl (by first | omega | decide) ?_
  refine aA rfl rfl rfl ?_
  refine cK (Li := liW M F R K V C ((2 * (k : Int) + 1) + 1) 0 0) (fun u Lo => u = .int .i64 0 ∧ Lo = liW M F R K V C ((2 * (k : Int) + 1) + 1 + 1) 0 0) rfl rfl (fun h => nomatch h) rfl aQs (by repeat (first | exact Opvs.nil | apply Opvs.cons rfl)) (by repeat (first | exact Takes.nil | exact Takes.app | exact Takes.self | apply Takes.skip)) (fun h => nomatch h) (fun H hH => wstmt (by omega) (by omega) (hH.have fun p hp => hp) hH.dist) ?_
  rintro _ _ ⟨rfl, rfl⟩
  refine aC rfl rfl rfl ?_
  refine aD ?_
  refine aE ?_
  refine aB (E := E) ?_
  refine aA rfl rfl rfl ?_
  refine aD ?_
  refine bE ?_
  refine aE ?_
  refine aB (E := E) ?_
  refine aG rfl rfl rfl rfl (by first | exact bN (by first | rfl | assumption | omega) | exact bJ (by first | rfl | assumption | omega)) ?_
  refine aC rfl rfl rfl ?_
  refine aD ?_
  refine aM rfl ?_
  refine aE ?_
  refine aE ?_
  refine aB (E := E) ?_
  refine aG rfl rfl rfl rfl (by first | exact bN (by first | rfl | assumption | omega) | exact bJ (by first | rfl | assumption | omega)) ?_
  refine aC rfl rfl rfl ?_
  refine aD ?_
  refine aM rfl ?_
  refine aB (E := E) ?_
  refine aG rfl rfl rfl rfl (by first | exact bN (by first | rfl | assumption | omega) | exact bJ (by first | rfl | assumption | omega)) ?_
  refine aC rfl rfl rfl ?_
  refine aD ?_
  refine aM rfl ?_
  refine aX ?_
  refine cP ?_
  refine cP ?_
  refine dR (k + 1) (show 5000 - (k + 1) < 5000 - k by omega) (by omega) (by repeat (first | exact .nil | refine .cons rfl ?_)) rfl rfl ?_
  rw [show (2 * (((k + 1 : Nat)) : Int) + 1) = 2 * (k : Int) + 1 + 1 + 1 by omega]
  exact List.Sublist.refl _
 ·skip
  obtain rfl : k = 4999 := by omega
  refine aB (E := E) ?_
  refine aA rfl rfl rfl ?_
  refine aA rfl rfl rfl ?_
  first | refine bV rfl rfl rfl ?_ | refine bQ rfl rfl rfl ?_
  refine bG (o' := 4) rfl rfl rfl Tryz.underlying94 rfl wK rfl rfl ?_
  refine bL rfl rfl rfl (by first | exact cS Tryz.underlying88 rfl (by repeat (first | exact List.Mem.head _ | apply List.Mem.tail | apply List.mem_append_right)) (by first | exact aL rfl | rfl) | exact cG Tryz.underlying88 rfl (by first | assumption | exact InA.add (by assumption) | exact InA.add (InA.add (by assumption))) (by assumption)) ?_
  first | refine iB rfl rfl rfl rfl Tryz.underlying88 qZ rfl (by first | omega | decide) rfl ?_ | refine nF rfl rfl rfl rfl Tryz.underlying88 qZ rfl (by first | omega | decide) ?_
  refine aA rfl rfl rfl ?_
  refine cK (Li := liW M F R K V C (2 * ((4999 : Nat) : Int) + 1 + 1) 0 0) (fun u Lo => u = .int .i64 3 ∧ Lo = liW M F R K V C 10001 11 20) rfl rfl (fun h => nomatch h) rfl aQs (by repeat (first | exact Opvs.nil | apply Opvs.cons rfl)) (by repeat (first | exact Takes.nil | exact Takes.app | exact Takes.self | apply Takes.skip)) (fun h => nomatch h) (fun H hH => wlast (hH.have fun p hp => hp) hH.dist) ?_
  rintro _ _ ⟨rfl, rfl⟩
  refine aC rfl rfl rfl ?_
  refine aD ?_
  refine aE ?_
  refine aB (E := E) ?_
  refine aA rfl rfl rfl ?_
  refine aD ?_
  refine bE ?_
  refine aE ?_
  refine aB (E := E) ?_
  refine aG rfl rfl rfl rfl (by first | exact bN (by first | rfl | assumption | omega) | exact bJ (by first | rfl | assumption | omega)) ?_
  refine aC rfl rfl rfl ?_
  refine aD ?_
  refine aM rfl ?_
  refine aE ?_
  refine aE ?_
  refine aB (E := E) ?_
  refine aG rfl rfl rfl rfl (by first | exact bN (by first | rfl | assumption | omega) | exact bJ (by first | rfl | assumption | omega)) ?_
  refine aC rfl rfl rfl ?_
  refine aD ?_
  refine aM rfl ?_
  refine aB (E := E) ?_
  refine aG rfl rfl rfl rfl (by first | exact bN (by first | rfl | assumption | omega) | exact bJ (by first | rfl | assumption | omega)) ?_
  refine aC rfl rfl rfl ?_
  refine aD ?_
  refine bX rfl ?_
  refine aE ?_
  refine aB (E := E) ?_
  refine aA rfl rfl rfl ?_
  refine aC rfl rfl rfl ?_
  refine aD ?_
  refine cI ?_
  refine cA ?_
  refine cA ?_
  refine iZ ?_
  refine cA ?_
  refine bH (.tmp rfl .nil) ?_
  exact fun H hH => ⟨_, hH.turned (Gr.refl _ _) ⟨_, List.Mem.head _⟩, rfl, rfl⟩

end Go.Proofs.YthgfcpgjabodoaaGreatDoor
