/-
  The loop that never ends, as an outcome of a run; the run of its script.
-/
import Derived.Test.YthgfcpgjabodoaaGreatDoorW4
import Derived.Test.YthgfcpgjabodoaaGreatDoorP4
import Derived.Test.YthgfcpgjabodoaaGreatDoorAb9
set_option linter.unusedVariables false
set_option linter.unusedSimpArgs false
set_option maxRecDepth 100000
namespace Go.Proofs.YthgfcpgjabodoaaGreatDoor
open Go Go.AM

def dO (a b : cE) : cE := fun g args H => match a g args H with
 | some r => some r
 | none => b g args H
theorem jE {P : Program} {a b : cE} (ha : bY P a) (hb : bY P b) : bY P (dO a b) := by
 intro g args H v H' L h hL
 unfold dO at h
 split at h
 ·rename_i r hr; cases h; exact ha _ _ _ _ _ _ hr hL
 ·exact hb _ _ _ _ _ _ h hL
/-- the loop, as an outcome -/
noncomputable def tcW (M F R K V C : Nat) : cE := fun g args H => bif Nat.beq g 100 && (oI args [.pointer (some ⟨2 * M + 1, 0, none⟩), .pointer (some ⟨2 * R + 1, 0, none⟩), .pointer (some ⟨2 * C + 1, 0, none⟩)] && (aHb H (liW M F R K V C 1 0 0) && kB H)) then
 some (.int .i64 3, ⟨H.w0, H.nx, pV (liW M F R K V C 10001 11 20) H.tr⟩, []) else none
theorem aPb {Li Lo : OL} {S K : AH} (h : Turned Li S K Lo) (hids : Lo.map (·.1) = Li.map (·.1)) (hin : ∀ p ∈ Li, p.1 < S.nx) : S.nx ≤ K.nx := by
 rcases Nat.eq_zero_or_pos S.nx with h0 | h0
 ·omega
 ·have key : S.nx - 1 < K.nx := by
   by_cases e : ids Li (S.nx - 1)
   ·obtain ⟨p, hp, he⟩ := e
    have : p.1 ∈ Lo.map (·.1) := by rw [hids]; exact List.mem_map.2 ⟨p, hp, rfl⟩
    obtain ⟨q, hq, hqe⟩ := List.mem_map.1 this
    have := (h.out q hq).2.1
    omega
   ·exact h.lt _ (by omega) e
  omega
/-- a contract that keeps the objects' numbers, as an outcome -/
theorem aLr {g : FuncId} {args : List Value} {H : AH} {Li Lo : OL} {v : Value} (hv : rn phs id v = v ∧ ∀ ι, rn phs ι v = v) (hids : Lo.map (·.1) = Li.map (·.1)) (h3 : aHb H Li = true) (h4 : kB H = true) (hsc : (Lo.all fun p => scO H.nx p.2) = true)
 (hc : ∀ {S : AH}, (∀ p ∈ Li, S.tr.get p.1 = some p.2 ∧ p.1 < S.nx) → Li.Pairwise (fun p q => p.1 ≠ q.1) → XCall Tryz.prog g args S fun u H' => ∃ Lo', Turned Li S H' Lo' ∧ (u = v ∧ Lo' = Lo)) : ACalls Tryz.prog g args H fun u K => u = v ∧ K = ⟨H.w0, H.nx, pV Lo H.tr⟩ := by
 obtain ⟨q1, q2⟩ := aAl h3
 have hm : ∀ {p : Nat × AObj}, p ∈ Lo → ∃ q ∈ Li, q.1 = p.1 := fun {p} hp => by
  have : p.1 ∈ Li.map (·.1) := by rw [← hids]; exact List.mem_map.2 ⟨p, hp, rfl⟩
  obtain ⟨q, hq, e⟩ := List.mem_map.1 this
  exact ⟨q, hq, e⟩
 refine ACalls.turn (Li := Li) (Lo := Lo) (m := 0) phs Fits.same (fun p hp => (q1 p hp).2) (fun p hp => ?_) (fun p hp => ?_) h4 ?_
 ·obtain ⟨q, hq, e⟩ := hm hp
  have := (q1 q hq).2
  omega
 ·have : p.1 ∈ Lo.map (·.1) := by rw [hids]; exact List.mem_map.2 ⟨p, hp, rfl⟩
  obtain ⟨q, hq, e⟩ := List.mem_map.1 this
  exact ⟨q, hq, e⟩
 ·rw [pA]
  refine (hc (S := kU phs H) (fun p hp => ⟨aPx (q1 p hp).1, (q1 p hp).2⟩) q2).mono ?_
  rintro u K kw ⟨Lo', hT, rfl, rfl⟩
  have hnx := aPb hT hids fun p hp => (q1 p hp).2
  refine ⟨[], rfl, (fun i hi => by cases hi), List.nodup_nil, hnx, fun j hj hn => hT.get j hj hn, fun p hp => ?_, (hv.2 _).symm⟩
  obtain ⟨q, hq, rfl⟩ := List.mem_map.1 hp
  have hlt : q.1 < H.nx := by
   obtain ⟨r, hr, e⟩ := hm hq
   have := (q1 r hr).2
   omega
  show K.tr.get (fI H.nx [] K.nx q.1) = some (rnO phs (fI H.nx [] K.nx) q.2)
  rw [cY hlt, wG (fun i hi => cY hi) q.2 (List.all_eq_true.1 hsc q hq), aIv]
  exact (hT.out q hq).1
theorem aRm {M F R K V C : Nat} : bY Tryz.prog (tcW M F R K V C) := by
 intro g args H v H' L h hL
 unfold tcW at h
 cases hc : (Nat.beq g 100 && (oI args [.pointer (some ⟨2 * M + 1, 0, none⟩), .pointer (some ⟨2 * R + 1, 0, none⟩), .pointer (some ⟨2 * C + 1, 0, none⟩)] && (aHb H (liW M F R K V C 1 0 0) && kB H))) with
 | false => rw [hc] at h; cases h
 | true =>
  rw [hc, cond_true] at h
  cases h
  simp only [Bool.and_eq_true] at hc
  obtain ⟨h1, h2, h3, h4⟩ := hc
  obtain rfl := Nat.eq_of_beq_eq_true h1
  obtain rfl := lN h2
  obtain ⟨q1, q2⟩ := aAl h3
  have l1 : F < H.nx := (q1 _ (.tail _ (.head _))).2
  have l2 : K < H.nx := (q1 _ (.tail _ (.tail _ (.tail _ (.head _))))).2
  have l3 : V < H.nx := (q1 _ (.tail _ (.tail _ (.tail _ (.tail _ (.head _)))))).2
  have e : ∀ {a : Nat}, a < H.nx → (Nat.beq ((2 * a + 1) % 2) 0 || Nat.blt ((2 * a + 1) / 2) H.nx) = true := fun {a} ha => by
   rw [show (2 * a + 1) / 2 = a by omega, show Nat.blt a H.nx = true from Nat.ble_eq_true_of_le ha, Bool.or_true]
  refine ⟨rfl, aLr (Li := liW M F R K V C 1 0 0) (Lo := liW M F R K V C 10001 11 20) ⟨rfl, fun ι => rfl⟩ rfl h3 h4 ?_ fun h5 h6 => aNn h5 h6⟩
  simp only [List.all_cons, List.all_nil, scO, scL, scE, scV, scA, e l1, e l2, e l3, Bool.and_true]
noncomputable abbrev aQu (fuel : Nat) : cE := dB E (dO (tcW 150 149 120 118 151 152) tcA) (aGs (tbP p4) (tbA jX)) dfs fuel
theorem aKm (fuel : Nat) : bY Tryz.prog (aQu fuel) := cB E (jE aRm gA) (uK (zV p4_ok) (dV eJ)) (dS E) mixed fuel
noncomputable def v4 : Value := .tuple ⟨[gN 4 3, .string ⟨⟨[]⟩⟩, vI 11, vI 20]⟩
theorem r4 (w : World) : kR (aQu 300 6 [gN 4 3, vT [119, 104, 105, 108, 101, 32, 116, 114, 117, 101, 32, 123, 32, 125]] (AM.start w)) = some (v4, []) := by kernel_rfl
end Go.Proofs.YthgfcpgjabodoaaGreatDoor
