/-
  The abstract machine, part 27: rows that are lent and taken back.
-/
import Derived.Test.YtpfgpjopjadmiaaGreatDoorAM25
set_option linter.unusedVariables false
set_option linter.unusedSimpArgs false
noncomputable section
namespace Go.AM
open Go.RowKit

section
variable {P : Program} {E : Env P} {c : Code} {K : AQ} {f : Fr} {S H0 : AH} {A0 A : Nat → Prop} {L : OL}
/-- an own object becomes data -/
theorem sx_freezeN {N : Nat} {o : AObj} {L' : OL} (hr : Rem N o L L') (h : ∀ H1 A1, Gr A H0 A1 H1 → A1 N → H1.tr.get N = some o → ¬ A N → S.nx ≤ N → SX P c K f S A0 H1 A1 L') : SX P c K f S A0 H0 A L := fun H hH =>
  h H _ ⟨fun _ h => .inl h, hH.base, hH.w0.symm⟩ (.inr rfl) (hH.own _ hr.mem).1 (hH.own _ hr.mem).2.2.2 (hH.own _ hr.mem).2.1 H (hH.freeze hr)
/-- and an own object again, where the younger data are forgotten -/
theorem sx_thaw {M : Nat} {o : AObj} {A1 : Nat → Prop} {H1 : AH} (g : Gr A1 H1 A H0) (hM : A M) (hg : H0.tr.get M = some o) (hn : ¬ A1 M) (hS : S.nx ≤ M) (h : SX P c K f S A0 H1 A1 ((M, o) :: L)) : SX P c K f S A0 H0 A L := fun H hH =>
  h H ⟨hH.kept, fun j hj => (hH.base j (g.sub j hj)).trans (g.get j hj), g.w0.symm.trans hH.w0, fun j hj => hH.sub j (g.sub j hj), fun j hj => hH.lt j (g.sub j hj), fun p hp => by
    rcases List.mem_cons.1 hp with rfl | hp
    · exact ⟨(hH.base M hM).trans hg, hS, hH.lt M hM, hn⟩
    · obtain ⟨q1, q2, q3, q4⟩ := hH.own p hp
      exact ⟨q1, q2, q3, fun h => q4 (g.sub _ h)⟩,
    List.pairwise_cons.2 ⟨fun p hp e => (hH.own p hp).2.2.2 (e ▸ hM), hH.dist⟩⟩
end
section
variable {P : Program} {E : Env P} {G : RG} {i : Nat} {rest : List Oper} {Q : Fr → AH → Prop} {f : Fr} {H0 : AH} {A : Nat → Prop} {L L' : OL}
theorem so_freezeG {N : Nat} {o : AObj} (hr : Rem N o L L') (hD' : G.D = true → G.Lw.Sublist L') (h : ∀ H1 A1, Gr A H0 A1 H1 → A1 N → H1.tr.get N = some o → SO E G i rest Q f H1 A1 L') : SO E G i rest Q f H0 A L := fun hD H hH =>
  h H _ ⟨fun _ h => .inl h, hH.base, hH.w0.symm⟩ (.inr rfl) (hH.own _ hr.mem).1 (fun hDt => by
    obtain ⟨d1, d2, d3, d4⟩ := hD hDt
    exact ⟨fun p hp => (hD' hDt).subset hp, d2, fun j hj => ⟨.inl (d3 j hj).1, (hH.base j (d3 j hj).1).trans (d3 j hj).2⟩, d4.trans hH.w0⟩) H (hH.freeze hr)
end

/-- the number before -/
def prevI : Nat → Int
  | 0 => -1
  | n + 1 => (n : Int)
theorem prevI_eq (n : Nat) : prevI n = (n : Int) - 1 := by
  cases n with
  | zero => rfl
  | succ n => simp only [prevI]; omega

section
variable {A : Nat → Prop} {H : AH}
theorem rows_snoc {ks : List Kd} {sz : Nat} {cells xs : List Value} {r : List (List CT)} {d : List CT} (hcl : cells.length = r.length * sz) (hxs : xs.length = sz) (hg : ∀ (j : Nat) c, r[j]? = some c → CellsA A H ks ((cells.drop (j * sz)).take sz) c) (h : CellsA A H ks xs d) :
    ∀ (j : Nat) c, (r ++ [d])[j]? = some c → CellsA A H ks (((cells ++ xs).drop (j * sz)).take sz) c := by
  intro j c hc
  rcases Nat.lt_or_ge j r.length with hj | hj
  · rw [List.getElem?_append_left hj] at hc
    have hle : (j + 1) * sz ≤ r.length * sz := Nat.mul_le_mul_right _ hj
    rw [Nat.add_mul, Nat.one_mul] at hle
    rw [List.drop_append_of_le_length (by omega), List.take_append_of_le_length (by rw [List.length_drop]; omega)]
    exact hg j c hc
  · rw [List.getElem?_append_right hj] at hc
    have h0 : j - r.length = 0 := by have := lt_of_getElem? hc; simp at this; omega
    rw [h0] at hc
    simp at hc
    subst hc
    obtain rfl : j = r.length := by omega
    rw [← hcl, List.drop_append_of_le_length (Nat.le_refl _), List.drop_length, List.nil_append, List.take_of_length_le (by omega)]
    exact h
end
theorem back_step {α : Type} {l : List α} {j : Nat} {d : α} (h : l[j]? = some d) : (l.drop j).reverse = (l.drop (j + 1)).reverse ++ [d] := by
  obtain ⟨hj, rfl⟩ := List.getElem?_eq_some_iff.1 h
  rw [List.drop_eq_getElem_cons hj, List.reverse_cons]
end Go.AM
