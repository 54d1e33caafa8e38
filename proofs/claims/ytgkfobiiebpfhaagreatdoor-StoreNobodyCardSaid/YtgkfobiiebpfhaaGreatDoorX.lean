/-
  Walks, laid by program.
-/
import Derived.Test.YtgkfobiiebpfhaaGreatDoorWZ
set_option linter.unusedVariables false
set_option linter.unusedSimpArgs false
set_option maxRecDepth 100000
namespace Go.Proofs.YtgkfobiiebpfhaaGreatDoor
open Go Go.AM

/-- what a cell may hold -/
structure Pay where
  n : Int
  b : Bool
  s : ByteArray
  a : Option Addr
  l : Nat
  c : Nat
def payV : Kd → Pay → Value
  | .int k, p => .int k p.n
  | .bool, p => .bool p.b
  | .str, p => .string p.s
  | .row _ _, p => .slice p.a p.l p.c
def payL : List Kd → (Nat → Pay) → List Value
  | [], _ => []
  | k :: r, p => payV k (p 0) :: payL r fun i => p (i + 1)
theorem pay_of {A : Nat → Prop} {H : AH} {k : Kd} {x : Value} {c : CT} (h : CellA A H k x c) : ∃ p, x = payV k p := by
  cases k with
  | int k => obtain ⟨n, rfl, _⟩ := h.int; exact ⟨⟨n, false, ⟨#[]⟩, none, 0, 0⟩, rfl⟩
  | bool => obtain ⟨b, rfl, _⟩ := h.bool; exact ⟨⟨0, b, ⟨#[]⟩, none, 0, 0⟩, rfl⟩
  | str => obtain ⟨s, rfl, _⟩ := h.str; exact ⟨⟨0, false, s, none, 0, 0⟩, rfl⟩
  | row b ks =>
    obtain ⟨l, _, _, _, h⟩ := h.row
    rcases h with ⟨rfl, _⟩ | ⟨a, cap, rfl, _⟩
    · exact ⟨⟨0, false, ⟨#[]⟩, none, 0, 0⟩, rfl⟩
    · exact ⟨⟨0, false, ⟨#[]⟩, some a, l.length, cap⟩, rfl⟩
theorem pays_of {A : Nat → Prop} {H : AH} : ∀ {ks : List Kd} {xs : List Value} {cs : List CT}, CellsA A H ks xs cs → ∃ p, xs = payL ks p
  | [], [], [], _ => ⟨fun _ => ⟨0, false, ⟨#[]⟩, none, 0, 0⟩, rfl⟩
  | [], [], _ :: _, h => h.elim
  | [], _ :: _, _, h => h.elim
  | _ :: _, [], _, h => h.elim
  | _ :: _, _ :: _, [], h => h.elim
  | k :: ks, x :: xs, c :: cs, h => by
    obtain ⟨q, rfl⟩ := pay_of h.1
    obtain ⟨p, rfl⟩ := pays_of h.2
    exact ⟨fun i => match i with
      | 0 => q
      | i + 1 => p i, rfl⟩
def tb2 (g : FuncId) (args : List Value) : Option Value :=
  bif Nat.beq g 16 then (match args with
    | [] => some (.bool true)
    | _ => none)
  else none
theorem tb2_ok : TabOk Tryz.prog tb2 := by
  intro g args r h
  unfold tb2 at h
  cases h7 : Nat.beq g 16 with
  | true =>
    rw [h7, cond_true] at h
    have := Nat.eq_of_beq_eq_true h7; subst this
    split at h
    · cases h
      exact ⟨rfl, rfl, aw_flat⟩
    · cases h
  | false => rw [h7] at h; cases h
def saidTrue : Option (Value × AH) → Bool
  | some (.bool true, _) => true
  | _ => false
theorem of_saidTrue {o : Option (Value × AH)} (h : saidTrue o = true) : ∃ H', o = some (.bool true, H') := by
  unfold saidTrue at h
  split at h
  · exact ⟨_, rfl⟩
  · cases h
theorem nobody_run (p : Nat → Pay) (w : World) : saidTrue (acallT E tb2 60 3 [.agg ⟨payL k50 p⟩] (Go.AM.start w)) = true := by kernel_rfl
theorem storeNobody_ok {w : World} {xs : List Value} {c : List CT} (h : CellsA (fun _ => False) (Go.AM.start w) k50 xs c) : XCall Tryz.prog 3 [.agg ⟨xs⟩] (Go.AM.start w) fun v H' => v = .bool true ∧ Kept 0 (Go.AM.start w) H' := by
  obtain ⟨p, rfl⟩ := pays_of h
  obtain ⟨H', hr⟩ := of_saidTrue (nobody_run p w)
  obtain ⟨h1, h2⟩ := acallT_ok E tb2_ok mixed 60 _ _ _ _ _ hr
  exact ⟨_, H', ⟨rfl, h1, Nat.zero_le _, fun i hi => absurd hi (Nat.not_lt_zero _)⟩, h1, h2⟩
end Go.Proofs.YtgkfobiiebpfhaaGreatDoor
