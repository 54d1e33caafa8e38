/-
  The examples of the chapter hold.
-/
import Derived.Test.YthgfcpgjabodoaaGreatDoorW5
import Derived.Test.YthgfcpgjabodoaaGreatDoorP2
import Derived.Test.YthgfcpgjabodoaaGreatDoorP10
import Derived.Test.YthgfcpgjabodoaaGreatDoorR1
import Derived.Test.YthgfcpgjabodoaaGreatDoorR3
import Derived.Test.YthgfcpgjabodoaaGreatDoorR5
import Derived.Test.YthgfcpgjabodoaaGreatDoorR6
import Derived.Test.YthgfcpgjabodoaaGreatDoorR9
set_option linter.unusedVariables false
set_option linter.unusedSimpArgs false
set_option maxRecDepth 100000
namespace Go.Proofs.YthgfcpgjabodoaaGreatDoor
open Go Go.AM

/-- what runs of scripts come to -/
structure Rst where
 s : List Nat
 v : Value
def qF (p : Rst) : Prop := p.s.all (fun n => Nat.blt n 256) = true ∧ pnV p.v = true ∧ ∀ w : World, Tab ⟨w, 0, .nil⟩ → Flat Tryz.prog 6 [gN 4 3, vT p.s] w p.v
noncomputable def tcR (p : Rst) : cE := fun g args H => bif Nat.beq g 6 then (match args with
 | [d, a] => bif oI [d] [gN 4 3] && isT p.s a then some (p.v, H, [Tab H]) else none
 | _ => none) else none
theorem nL {σ : Sg} {p : Rst} (hp : qF p) : bY Tryz.prog (tcR p) := by
 obtain ⟨h1, h2, h3⟩ := hp
 intro g args H v H' L h hL
 unfold tcR at h
 cases hg : Nat.beq g 6 with
 | false => rw [hg] at h; cases h
 | true =>
  rw [hg, cond_true] at h
  obtain rfl := Nat.eq_of_beq_eq_true hg
  split at h
  ·rename_i d a
   cases ha : (oI [d] [gN 4 3] && isT p.s a) with
   | false => rw [ha] at h; cases h
   | true =>
    rw [ha, cond_true] at h
    cases h
    simp only [Bool.and_eq_true] at ha
    obtain rfl := aJh ha.2 h1
    have e := lN ha.1
    cases e
    have hT : Tab H := hL _ (List.mem_cons_self ..)
    exact ⟨rfl, aAd rfl h2 (fun w hw => h3 w (hT.later hw)) rfl⟩
  ·cases h
noncomputable def q1 : Rst := ⟨[112, 114, 105, 110, 116, 40, 49, 32, 43, 32, 50, 44, 32, 34, 97, 34, 41, 59, 32, 112, 114, 105, 110, 116, 40, 45, 55, 32, 47, 32, 50, 44, 32, 45, 55, 32, 37, 32, 50, 41, 59], v1⟩
theorem q1_ok : qF q1 := ⟨by kernel_rfl, by kernel_rfl, fun w hT => uY (l := []) (fun p hp => by simp only [List.mem_cons, List.not_mem_nil, or_false] at hp) rfl r1 w (fun p hp => by simp only [List.mem_cons, List.not_mem_nil, or_false] at hp)⟩
noncomputable def q3 : Rst := ⟨[112, 114, 105, 110, 116, 40, 49, 41, 59, 32, 114, 101, 109, 111, 118, 101, 40, 57, 41, 59], v3⟩
theorem q3_ok : qF q3 := ⟨by kernel_rfl, by kernel_rfl, fun w hT => uY (l := []) (fun p hp => by simp only [List.mem_cons, List.not_mem_nil, or_false] at hp) rfl r3 w (fun p hp => by simp only [List.mem_cons, List.not_mem_nil, or_false] at hp)⟩
noncomputable def q5 : Rst := ⟨[102, 110, 32, 102, 40, 110, 41, 32, 123, 32, 105, 102, 32, 110, 32, 61, 61, 32, 48, 32, 123, 32, 114, 101, 116, 117, 114, 110, 32, 49, 59, 32, 125, 32, 114, 101, 116, 117, 114, 110, 32, 110, 32, 42, 32, 102, 40, 110, 32, 45, 32, 49, 41, 59, 32, 125, 32, 112, 114, 105, 110, 116, 40, 102, 40, 53, 41, 41, 59], v5⟩
theorem q5_ok : qF q5 := ⟨by kernel_rfl, by kernel_rfl, fun w hT => uY (l := [p5]) (fun p hp => by simp only [List.mem_cons, List.not_mem_nil, or_false] at hp; subst hp; exact p5_ok) rfl r5 w (fun p hp => by simp only [List.mem_cons, List.not_mem_nil, or_false] at hp; subst hp; exact hT)⟩
noncomputable def q6 : Rst := ⟨[102, 110, 32, 102, 40, 41, 32, 123, 32, 114, 101, 116, 117, 114, 110, 32, 102, 40, 41, 59, 32, 125, 32, 102, 40, 41, 59], v6⟩
theorem q6_ok : qF q6 := ⟨by kernel_rfl, by kernel_rfl, fun w hT => uY (l := [p6]) (fun p hp => by simp only [List.mem_cons, List.not_mem_nil, or_false] at hp; subst hp; exact p6_ok) rfl r6 w (fun p hp => by simp only [List.mem_cons, List.not_mem_nil, or_false] at hp)⟩
noncomputable def q7 : Rst := ⟨[49, 32, 43, 32, 116, 114, 117, 101, 59], v7⟩
theorem q7_ok : qF q7 := ⟨by kernel_rfl, by kernel_rfl, fun w hT => uY (l := []) (fun p hp => by simp only [List.mem_cons, List.not_mem_nil, or_false] at hp) rfl r7 w (fun p hp => by simp only [List.mem_cons, List.not_mem_nil, or_false] at hp)⟩
noncomputable def q8 : Rst := ⟨[91, 49, 93, 91, 49, 93, 59], v8⟩
theorem q8_ok : qF q8 := ⟨by kernel_rfl, by kernel_rfl, fun w hT => uY (l := []) (fun p hp => by simp only [List.mem_cons, List.not_mem_nil, or_false] at hp) rfl r8 w (fun p hp => by simp only [List.mem_cons, List.not_mem_nil, or_false] at hp)⟩
noncomputable def q9 : Rst := ⟨[103, 40, 41, 59], v9⟩
theorem q9_ok : qF q9 := ⟨by kernel_rfl, by kernel_rfl, fun w hT => uY (l := []) (fun p hp => by simp only [List.mem_cons, List.not_mem_nil, or_false] at hp) rfl r9 w (fun p hp => by simp only [List.mem_cons, List.not_mem_nil, or_false] at hp)⟩
noncomputable def q4 : Rst := ⟨[119, 104, 105, 108, 101, 32, 116, 114, 117, 101, 32, 123, 32, 125], v4⟩
theorem q4_ok : qF q4 := ⟨by kernel_rfl, by kernel_rfl, fun w hT => by
 have h1 := r4 w
 unfold kR at h1
 split at h1
 ·rename_i v K L hc
  cases h1
  exact ((aKm 300 _ _ _ _ _ _ hc (fun p hp => by cases hp)).2).mono fun v K hv => hv.1
 ·cases h1⟩
noncomputable abbrev aQx (fuel : Nat) : cE := dB E (dO (tcR q9) (dO (tcR q8) (dO (tcR q7) (dO (tcR q6) (dO (tcR q5) (dO (tcR q4) (dO (tcR q3) (dO (tcR q1) (tcA))))))))) (aGs (tbP p2) (aGs (tbP p10) (tbA jX))) dfs fuel
theorem aMx (fuel : Nat) : bY Tryz.prog (aQx fuel) := cB E (jE (nL q9_ok) (jE (nL q8_ok) (jE (nL q7_ok) (jE (nL q6_ok) (jE (nL q5_ok) (jE (nL q4_ok) (jE (nL q3_ok) (jE (nL q1_ok) (gA))))))))) (uK (zV p2_ok) (uK (zV aRw) (dV eJ))) (dS E) mixed fuel
theorem aHn (w : World) : kR (aQx 300 5 [] (AM.start w)) = some (.bool true, [Tab ⟨w, 0, .nil⟩, Tab ⟨w, 0, .nil⟩, Tab ⟨w, 0, .nil⟩, Tab ⟨w, 0, .nil⟩, Tab ⟨w, 0, .nil⟩, Tab ⟨w, 0, .nil⟩, Tab ⟨w, 0, .nil⟩, Tab ⟨w, 0, .nil⟩]) := by kernel_rfl
/-- awake() is true -/
theorem aDr (w : World) (hT : Tab ⟨w, 0, .nil⟩) : Flat Tryz.prog 5 [] w (.bool true) := by
 have h1 := aHn w
 unfold kR at h1
 split at h1
 ·rename_i v K L hc
  cases h1
  refine ((aMx 300 _ _ _ _ _ _ hc (fun p hp => ?_)).2).mono fun v K hv => hv.1
  simp only [List.mem_cons, List.not_mem_nil, or_false, or_self] at hp
  rw [hp]; exact hT
 ·cases h1
theorem mN {S : AH} (hT : Tab S) : XCall Tryz.prog 5 [] S fun v H' => v = .bool true ∧ Kept S.nx S H' :=
 ⟨_, S, ⟨rfl, Kept.refl _ _⟩, rfl, aAd rfl rfl (fun w hw => aDr w (hT.later hw)) rfl⟩
end Go.Proofs.YthgfcpgjabodoaaGreatDoor
