/-
  A great program's closed facts by tables: its names, its functions without a body, what each function leads to; the closure by the table.
-/
import Derived.Test.YtpfgpjopjadmiaaGreatDoorAM1
import Derived.LaidByTextLater
import Derived.JoinedOf
set_option linter.unusedVariables false
set_option linter.unusedSimpArgs false
noncomputable section
namespace Go.AM

theorem chunk_drop {α : Type} (l : List α) (a c : Nat) : l.drop a = (l.drop a).take c ++ l.drop (a + c) := by
  rw [← List.drop_drop]; exact (List.take_append_drop c (l.drop a)).symm
/-- what can be computed piece by piece -/
theorem by_chunks {α β : Type} (f : List α → List β) (hn : f [] = []) (ha : ∀ a b, f (a ++ b) = f a ++ f b) (l : List α) (c : Nat) : ∀ (Ls : List (List β)) (a : Nat), (∀ i L, Ls[i]? = some L → f ((l.drop (a + i * c)).take c) = L) → l.length ≤ a + Ls.length * c → f (l.drop a) = Ls.flatten
  | [], a, _, hl => by
    rw [List.drop_eq_nil_of_le (by simpa using hl), hn]; rfl
  | L :: Ls, a, h, hl => by
    rw [chunk_drop l a c, ha, List.flatten_cons]
    have h0 := h 0 L rfl
    rw [Nat.zero_mul, Nat.add_zero] at h0
    rw [h0, by_chunks f hn ha l c Ls (a + c) (fun i M hi => by
      have := h (i + 1) M (by simpa using hi)
      rwa [show a + (i + 1) * c = a + c + i * c by rw [Nat.add_mul]; omega] at this) (by rw [List.length_cons, Nat.add_mul] at hl; omega)]

section
variable {P P' : Program}
/-! ### the functions without a body -/
def bare (F : Func) : Bool := F.body.isNone
theorem worded_small (h : P.funcs.toList.filter bare = P'.funcs.toList) (w : String) : P.worded w = P'.worded w := by
  unfold Program.worded
  rw [← Array.any_toList, ← Array.any_toList, ← h, List.any_filter]
  congr 1
  funext F
  unfold bare
  cases F.body.isNone <;> rfl
theorem door_small (h : P.funcs.toList.filter bare = P'.funcs.toList) : P.doorBytes = P'.doorBytes := by
  unfold Program.doorBytes
  rw [← h, List.filterMap_filter]
  congr 2
  funext F
  unfold bare
  cases F.body.isNone <;> rfl
theorem kindBase_small (h : P.doorBytes = P'.doorBytes) (v : String) : P.kindBase v = P'.kindBase v := by
  unfold Program.kindBase Program.wordedOn Program.tailsOn
  rw [h]
theorem kindOfLater_small (h : P.doorBytes = P'.doorBytes) (v : String) : P.kindOfLater v = P'.kindOfLater v := by
  unfold Program.kindOfLater Program.wordedOn Program.tailsOn
  rw [kindBase_small h, h]

/-! ### names -/
theorem filter_one {p : Nat → Bool} {i : Nat} : ∀ (m : Nat), i < m → (∀ j, j < m → p j = decide (j = i)) → (List.range m).filter p = [i]
  | 0, h, _ => by omega
  | m + 1, h, hp => by
    rw [List.range_succ, List.filter_append]
    by_cases e : i = m
    · subst e
      have h1 : (List.range i).filter p = [] := by
        rw [List.filter_eq_nil_iff]
        intro j hj
        rw [hp j (by have := List.mem_range.1 hj; omega)]
        have := List.mem_range.1 hj
        simp; omega
      rw [h1, List.nil_append, List.filter_cons, hp i (by omega)]
      simp
    · rw [filter_one m (by omega) fun j hj => hp j (by omega), List.filter_cons, hp m (by omega)]
      simp [Ne.symm e]
theorem funcNamed_names {nm : List String} (h : P.funcs.toList.map (fun F : Func => F.name) = nm) {n : String} {i : Nat} (hi : nm[i]? = some n) (h1 : (nm.take i).all (fun x => !(x == n)) = true) (h2 : (nm.drop (i + 1)).all (fun x => !(x == n)) = true) : P.funcNamed n = some i := by
  have hlen : nm.length = P.funcs.size := by rw [← h, List.length_map, Array.length_toList]
  have hlt : i < nm.length := by
    obtain ⟨q, _⟩ := List.getElem?_eq_some_iff.1 hi
    exact q
  have hat : ∀ j, (P.funcs[j]?).map (fun F : Func => F.name) = nm[j]? := fun j => by rw [← h, List.getElem?_map, Array.getElem?_toList]
  have hp : ∀ j, j < P.funcs.size → ((P.funcs[j]?).any (·.name == n)) = decide (j = i) := by
    intro j hj
    have hx : nm[j]? = some (nm[j]'(by omega)) := List.getElem?_eq_getElem (by omega)
    generalize nm[j]'(by omega) = x at hx
    have hq := hat j
    rw [hx] at hq
    cases hF : P.funcs[j]? with
    | none => rw [hF] at hq; cases hq
    | some F =>
      rw [hF] at hq
      have hq : F.name = x := Option.some.inj hq
      simp only [Option.any_some, hq]
      by_cases e : j = i
      · subst e
        rw [hi] at hx; cases hx
        simp
      · have hne : (x == n) = false := by
          rcases Nat.lt_or_ge j i with hl | hl
          · rw [List.all_eq_true] at h1
            have := h1 x (List.mem_of_getElem? (i := j) (by rw [List.getElem?_take, if_pos hl]; exact hx))
            simpa using this
          · rw [List.all_eq_true] at h2
            have := h2 x (List.mem_of_getElem? (i := j - (i + 1)) (by rw [List.getElem?_drop, show i + 1 + (j - (i + 1)) = j by omega]; exact hx))
            simpa using this
        rw [hne]; simp [e]
  unfold Program.funcNamed
  rw [filter_one P.funcs.size (by omega) hp]

/-! ### tables -/
def trOf {α : Type} : List α → Nat → Tr α → Tr α
  | [], _, t => t
  | x :: l, i, t => trOf l (i + 1) (t.set i (some x))
theorem get_trOf {α : Type} : ∀ (l : List α) (i : Nat) (t : Tr α) (j : Nat), (∀ k, i ≤ k → t.get k = none) → (trOf l i t).get j = if i ≤ j then l[j - i]? else t.get j
  | [], i, t, j, h => by
    simp only [trOf]
    split
    · rename_i hj; rw [h j hj]; simp
    · rfl
  | x :: l, i, t, j, h => by
    simp only [trOf]
    rw [get_trOf l (i + 1) _ j (fun k hk => by rw [Tr.get_set, if_neg (by omega)]; exact h k (by omega)), Tr.get_set]
    by_cases e : j = i
    · subst e; rw [if_neg (by omega), if_pos rfl, if_pos (Nat.le_refl _), Nat.sub_self]; rfl
    · rw [if_neg e]
      by_cases q : i + 1 ≤ j
      · rw [if_pos q, if_pos (by omega), show j - i = (j - (i + 1)) + 1 by omega, List.getElem?_cons_succ]
      · rw [if_neg q, if_neg (by omega)]
theorem tab_get {α : Type} (l : List α) (j : Nat) : (trOf l 0 .nil).get j = l[j]? := by
  rw [get_trOf l 0 .nil j (fun k _ => Tr.get_nil k), if_pos (Nat.zero_le _), Nat.sub_zero]

/-! ### the closure -/
/-- depth first over a table; what is seen lies in a trie -/
def clT (T : Tr (List Nat)) : Nat → List Nat → Tr Unit → List Nat → List Nat
  | 0, _, _, acc => acc.reverse
  | _ + 1, [], _, acc => acc.reverse
  | n + 1, f :: todo, s, acc => match s.get f with
    | some _ => clT T n todo s acc
    | none => clT T n ((T.get f).getD [] ++ todo) (s.set f (some ())) (f :: acc)
theorem clT_eq {T : List (List Nat)} (hT : P.funcs.toList.map P.leadsTo = T) : ∀ (n : Nat) (todo : List Nat) (s : Tr Unit) (acc : List Nat), (∀ x, acc.contains x = (s.get x).isSome) → clT (trOf T 0 .nil) n todo s acc = P.closureVia n todo acc := by
  have hat : ∀ f, (P.funcs[f]?).elim [] P.leadsTo = ((trOf T 0 .nil).get f).getD [] := fun f => by
    rw [tab_get, ← hT, List.getElem?_map, Array.getElem?_toList]
    cases P.funcs[f]? <;> rfl
  intro n
  induction n with
  | zero => intro todo s acc _; simp only [clT, Program.closureVia]
  | succ n ih =>
    intro todo s acc hs
    cases todo with
    | nil => simp only [clT, Program.closureVia]
    | cons f todo =>
      simp only [clT, Program.closureVia]
      cases hf : s.get f with
      | some u => rw [hs f, hf, Option.isSome_some, if_pos rfl]; exact ih todo s acc hs
      | none =>
        rw [hs f, hf, Option.isSome_none, if_neg (by decide), hat f]
        refine ih _ _ _ fun x => ?_
        rw [Tr.get_set, List.contains_cons, hs x]
        by_cases e : x = f
        · subst e; simp
        · rw [if_neg e]; simp [e]
theorem closure_table {T : List (List Nat)} (hT : P.funcs.toList.map P.leadsTo = T) (f : Nat) {fuel : Nat} (hf : 1 + (T.map fun l => l.length + 1).sum = fuel) {C : List Nat} (hC : clT (trOf T 0 .nil) fuel [f] .nil [] = C) : P.closure f = C := by
  have hs : ∀ x : Nat, ([] : List Nat).contains x = ((Tr.nil : Tr Unit).get x).isSome := fun x => by rw [Tr.get_nil]; rfl
  have e : (P.funcs.toList.map fun g => (P.leadsTo g).length + 1) = T.map fun l => l.length + 1 := by rw [← hT, List.map_map]; rfl
  rw [← hC, clT_eq hT fuel [f] .nil [] hs, Program.closure, e, hf]
/-- what a closure's functions give, by a table -/
theorem over_table {β : Type} {q : Func → Option β} {I : List (Option β)} (h : P.funcs.toList.map q = I) (C : List Nat) : (C.filterMap fun g => (P.funcs[g]?).bind q) = C.filterMap fun g => ((trOf I 0 .nil).get g).bind id := by
  congr 1
  funext g
  rw [tab_get, ← h, List.getElem?_map, Array.getElem?_toList]
  cases P.funcs[g]? <;> rfl
theorem flat_table {β : Type} {q : Func → List β} {I : List (List β)} (h : P.funcs.toList.map q = I) (C : List Nat) : (C.flatMap fun g => (P.funcs[g]?).elim [] q) = C.flatMap fun g => ((trOf I 0 .nil).get g).getD [] := by
  congr 1
  funext g
  rw [tab_get, ← h, List.getElem?_map, Array.getElem?_toList]
  cases P.funcs[g]? <;> rfl
theorem flat_body {I : List (List Nat)} (h : P.funcs.toList.map (fun F : Func => F.body.elim [] Code.globalsNamed) = I) (C : List Nat) : (C.flatMap fun g => ((P.funcs[g]?).bind (·.body)).elim [] Code.globalsNamed) = C.flatMap fun g => ((trOf I 0 .nil).get g).getD [] := by
  rw [← flat_table h]
  congr 1
  funext g
  cases P.funcs[g]? <;> rfl
theorem any_table {q : Func → Bool} {I : List Bool} (h : P.funcs.toList.map q = I) (C : List Nat) : (C.any fun g => (P.funcs[g]?).any q) = C.any fun g => ((trOf I 0 .nil).get g).getD false := by
  congr 1
  funext g
  rw [tab_get, ← h, List.getElem?_map, Array.getElem?_toList]
  cases P.funcs[g]? <;> rfl
end
end Go.AM
