/-
  The abstract machine, part 17: data: what slices of structs hold, wherever they lie.
-/
import Derived.Test.YtpfgpjopjadmiaaGreatDoorAM16
set_option linter.unusedVariables false
set_option linter.unusedSimpArgs false
noncomputable section
namespace Go.AM
open Go.RowKit

/-- the kind of a cell -/
inductive Kd where
  | int (k : IntKind)
  | bool
  | str
  | row (b : Nat) (ks : List Kd)
/-- what a cell holds -/
inductive CT where
  | v (u : Value)
  | row (l : List (List CT))

/-- the block holds data or lies outside -/
def InA (A : Nat → Prop) (b : Nat) : Prop := b % 2 = 0 ∨ A (b / 2)
theorem InA.even (A : Nat → Prop) {b : Nat} (h : b % 2 = 0) : InA A b := .inl h
theorem InA.own {A : Nat → Prop} {N : Nat} (h : A N) : InA A (2 * N + 1) := .inr (by rw [odd_div]; exact h)

/-- an own block holds elements of this size -/
def SzA (H : AH) (a : Addr) (n : Nat) : Prop := a.block % 2 = 1 → ∃ cs ex, H.tr.get (a.block / 2) = some (.cells cs n ex)

mutual
def CellA (A : Nat → Prop) (H : AH) : Kd → Value → CT → Prop
  | .int k, x, .v u => x = u ∧ ∃ n, u = .int k n ∧ (Lit.int k n).wf = true
  | .bool, x, .v u => x = u ∧ ∃ b, u = .bool b
  | .str, x, .v u => x = u ∧ ∃ s, u = .string s ∧ s.size ≤ maxLen
  | .row b ks, x, .row l => l.length ≤ 140737488351232 ∧ l.length * b ≤ 140737488351232 ∧ ((x = .slice none 0 0 ∧ l = []) ∨ ∃ a cap, x = .slice (some a) l.length cap ∧ l.length ≤ cap ∧ (InA A a.block ∧ SzA H a ks.length) ∧
      ∀ (i : Nat) c, l[i]? = some c → ∃ xs, aloads H (a.add (i * ks.length)) ks.length = some xs ∧ CellsA A H ks xs c)
  | _, _, _ => False
def CellsA (A : Nat → Prop) (H : AH) : List Kd → List Value → List CT → Prop
  | [], [], [] => True
  | k :: ks, x :: xs, c :: cs => CellA A H k x c ∧ CellsA A H ks xs cs
  | _, _, _ => False
end

/-! ### loads -/
theorem aloads_len {H : AH} {p : Addr} {n : Nat} {xs : List Value} (h : aloads H p n = some xs) : xs.length = n := by
  unfold aloads at h
  by_cases hn : n = 0
  · subst hn; simp at h; rw [h]; rfl
  · rw [show Nat.beq n 0 = false by (cases n with | zero => exact absurd rfl hn | succ n => rfl), cond_false] at h
    cases hb : Nat.beq (p.block % 2) 0 with
    | true =>
      rw [hb, cond_true] at h
      have key : ∀ (n i : Nat) (w : World) (a : Addr) (l : List Value), extLoads w a i n = some l → l.length = n := by
        intro n
        induction n with
        | zero => intro i w a l h; simp [extLoads] at h; subst h; rfl
        | succ n ih =>
          intro i w a l h
          simp only [extLoads] at h
          split at h
          · split at h
            · rename_i r hr; cases h; simp [ih _ _ _ _ hr]
            · cases h
          · cases h
      exact key _ _ _ _ _ h
    | false =>
      rw [hb, cond_false] at h
      split at h
      · rename_i cs _ _ _
        cases hle : Nat.ble (p.off + n) cs.length with
        | true =>
          rw [hle, cond_true] at h
          cases h
          have := Nat.le_of_ble_eq_true hle
          simp; omega
        | false => rw [hle] at h; cases h
      · cases h

theorem half_add (p : Addr) (j : Nat) : (⟨(p.add j).block / 2, (p.add j).off, (p.add j).spot⟩ : Addr) = (⟨p.block / 2, p.off, p.spot⟩ : Addr).add j := by
  unfold Addr.add
  by_cases h : j = 0
  · rw [if_pos h, if_pos h]
  · rw [if_neg h, if_neg h]

theorem extLoads_at {w : World} {a : Addr} : ∀ (n i : Nat) (l : List Value), extLoads w a i n = some l → ∀ j, j < n → ∃ v, w.cell? (a.add (i + j)) = some v ∧ l[j]? = some (ext v) := by
  intro n
  induction n with
  | zero => intro i l _ j hj; omega
  | succ n ih =>
    intro i l h j hj
    simp only [extLoads] at h
    split at h
    · rename_i v hv
      split at h
      · rename_i r hr
        cases h
        cases j with
        | zero => exact ⟨v, hv, rfl⟩
        | succ j =>
          obtain ⟨u, h1, h2⟩ := ih _ _ hr j (by omega)
          exact ⟨u, by rw [← h1]; congr 2; omega, by simpa using h2⟩
      · cases h
    · cases h

theorem extLoads_sub {w : World} {a : Addr} : ∀ (n i : Nat) (l : List Value), extLoads w a i n = some l → ∀ j m, j + m ≤ n → extLoads w a (i + j) m = some ((l.drop j).take m) := by
  intro n i l h j m
  induction m generalizing j with
  | zero => intro _; simp [extLoads]
  | succ m ih =>
    intro hj
    obtain ⟨v, h1, h2⟩ := extLoads_at n i l h j (by omega)
    have h3 := ih (j + 1) (by omega)
    simp only [extLoads, h1]
    rw [show i + j + 1 = i + (j + 1) by omega, h3]
    have hjl := lt_of_getElem? h2
    rw [List.drop_eq_getElem_cons hjl, List.take_succ_cons]
    rw [List.getElem?_eq_getElem hjl] at h2
    rw [← Option.some.inj h2]

theorem extLoads_shift {w : World} {a : Addr} (k : Nat) : ∀ (m i : Nat), extLoads w (a.add k) i m = extLoads w a (k + i) m := by
  intro m
  induction m with
  | zero => intro i; rfl
  | succ m ih =>
    intro i
    simp only [extLoads, add_add, ih]
    rfl

theorem aloads_at {H : AH} {p : Addr} {n : Nat} {xs : List Value} (h : aloads H p n = some xs) {j : Nat} (hj : j < n) : aload H (p.add j) = xs[j]? := by
  unfold aloads at h
  rw [show Nat.beq n 0 = false by (cases n with | zero => omega | succ n => rfl), cond_false] at h
  unfold aload
  rw [add_block]
  cases hb : Nat.beq (p.block % 2) 0 with
  | true =>
    rw [hb, cond_true] at h
    obtain ⟨v, h1, h2⟩ := extLoads_at _ _ _ h j hj
    rw [cond_true]
    have e := half_add p j
    rw [add_block] at e
    rw [e]
    rw [Nat.zero_add] at h1
    rw [h1, h2]
  | false =>
    rw [hb, cond_false] at h
    rw [cond_false]
    split at h
    · rename_i cs sz ex hg
      cases hle : Nat.ble (p.off + n) cs.length with
      | true =>
        rw [hle, cond_true] at h
        cases h
        rw [add_off, List.getElem?_take, if_pos hj, List.getElem?_drop]
      | false => rw [hle] at h; cases h
    · cases h

theorem aloads_sub {H : AH} {p : Addr} {n : Nat} {xs : List Value} (h : aloads H p n = some xs) {j m : Nat} (hj : j + m ≤ n) : aloads H (p.add j) m = some ((xs.drop j).take m) := by
  by_cases hm : m = 0
  · subst hm; unfold aloads; simp
  · unfold aloads at h ⊢
    rw [show Nat.beq n 0 = false by (cases n with | zero => omega | succ n => rfl), cond_false] at h
    rw [show Nat.beq m 0 = false by (cases m with | zero => exact absurd rfl hm | succ n => rfl), cond_false, add_block]
    cases hb : Nat.beq (p.block % 2) 0 with
    | true =>
      rw [hb, cond_true] at h
      rw [cond_true]
      have e := half_add p j
      rw [add_block] at e
      rw [e, extLoads_shift]
      have := extLoads_sub _ _ _ h j m hj
      rw [Nat.zero_add] at this
      rw [Nat.add_zero]; exact this
    | false =>
      rw [hb, cond_false] at h
      rw [cond_false]
      split at h
      · rename_i cs sz ex hg
        cases hle : Nat.ble (p.off + n) cs.length with
        | true =>
          rw [hle, cond_true] at h
          cases h
          have := Nat.le_of_ble_eq_true hle
          rw [add_off, Nat.ble_eq_true_of_le (by omega), cond_true, List.drop_take, List.take_take, List.drop_drop, Nat.min_eq_left (by omega)]
        | false => rw [hle] at h; cases h
      · cases h

theorem aloads_one {H : AH} {p : Addr} {xs : List Value} (h : aloads H p 1 = some xs) : ∃ x, xs = [x] ∧ aload H p = some x := by
  have hl := aloads_len h
  match xs, hl with
  | [x], _ =>
    refine ⟨x, rfl, ?_⟩
    have := aloads_at h (j := 0) (by omega)
    rw [show p.add 0 = p from by unfold Addr.add; simp] at this
    simpa using this

section
variable {A A' : Nat → Prop} {H H' : AH}
theorem Gr.aload (g : Gr A H A' H') {p : Addr} (hp : InA A p.block) : AM.aload H' p = AM.aload H p := by
  unfold AM.aload
  rw [g.w0]
  cases hb : Nat.beq (p.block % 2) 0 with
  | true => rfl
  | false =>
    simp only [cond_false]
    rw [g.get]
    rcases hp with hp | hp
    · rw [hp] at hb; cases hb
    · exact hp
theorem Gr.aloads (g : Gr A H A' H') {p : Addr} (hp : InA A p.block) (n : Nat) : AM.aloads H' p n = AM.aloads H p n := by
  unfold AM.aloads
  rw [g.w0]
  cases hb : Nat.beq (p.block % 2) 0 with
  | true => rfl
  | false =>
    simp only [cond_false]
    rw [g.get]
    rcases hp with hp | hp
    · rw [hp] at hb; cases hb
    · exact hp
theorem Gr.szA (g : Gr A H A' H') {a : Addr} {n : Nat} (hp : InA A a.block) (h : SzA H a n) : SzA H' a n := fun ho => by
  obtain ⟨cs, ex, hc⟩ := h ho
  refine ⟨cs, ex, ?_⟩
  rw [g.get]
  · exact hc
  · rcases hp with hp | hp
    · omega
    · exact hp
theorem Gr.inA (g : Gr A H A' H') {b : Nat} (h : InA A b) : InA A' b := h.imp id (g.sub _)

mutual
theorem CellA.gr (g : Gr A H A' H') : ∀ (k : Kd) (x : Value) (c : CT), CellA A H k x c → CellA A' H' k x c
  | .int k, x, .v u, h => by simp only [CellA] at h ⊢; exact h
  | .bool, x, .v u, h => by simp only [CellA] at h ⊢; exact h
  | .str, x, .v u, h => by simp only [CellA] at h ⊢; exact h
  | .row b ks, x, .row l, h => by
    simp only [CellA] at h ⊢
    obtain ⟨h1, h2, h3⟩ := h
    refine ⟨h1, h2, h3.imp id ?_⟩
    rintro ⟨a, cap, rfl, q1, q2, q3⟩
    refine ⟨a, cap, rfl, q1, ⟨g.inA q2.1, g.szA q2.1 q2.2⟩, fun i c hc => ?_⟩
    obtain ⟨xs, r1, r2⟩ := q3 i c hc
    exact ⟨xs, by rw [g.aloads (by rw [add_block]; exact q2.1)]; exact r1, CellsA.gr g ks xs c r2⟩
  | .int k, x, .row l, h => by simp only [CellA] at h
  | .bool, x, .row l, h => by simp only [CellA] at h
  | .str, x, .row l, h => by simp only [CellA] at h
  | .row b ks, x, .v u, h => by simp only [CellA] at h
theorem CellsA.gr (g : Gr A H A' H') : ∀ (ks : List Kd) (xs : List Value) (cs : List CT), CellsA A H ks xs cs → CellsA A' H' ks xs cs
  | [], [], [], _ => by simp only [CellsA]
  | k :: ks, x :: xs, c :: cs, h => by
    simp only [CellsA] at h ⊢
    exact ⟨CellA.gr g k x c h.1, CellsA.gr g ks xs cs h.2⟩
  | [], [], _ :: _, h => by simp only [CellsA] at h
  | [], _ :: _, _, h => by simp only [CellsA] at h
  | _ :: _, [], _, h => by simp only [CellsA] at h
  | _ :: _, _ :: _, [], h => by simp only [CellsA] at h
end

theorem CellsA.len : ∀ {ks : List Kd} {xs : List Value} {cs : List CT}, CellsA A H ks xs cs → xs.length = ks.length ∧ cs.length = ks.length
  | [], [], [], _ => ⟨rfl, rfl⟩
  | k :: ks, x :: xs, c :: cs, h => by
    simp only [CellsA] at h
    have := CellsA.len h.2
    simp [this.1, this.2]
  | [], [], _ :: _, h => by simp only [CellsA] at h
  | [], _ :: _, _, h => by simp only [CellsA] at h
  | _ :: _, [], _, h => by simp only [CellsA] at h
  | _ :: _, _ :: _, [], h => by simp only [CellsA] at h
theorem CellsA.at : ∀ {ks : List Kd} {xs : List Value} {cs : List CT}, CellsA A H ks xs cs → ∀ {i : Nat} {k : Kd} {x : Value} {c : CT}, ks[i]? = some k → xs[i]? = some x → cs[i]? = some c → CellA A H k x c
  | [], [], [], _, i, k, x, c, h, _, _ => by simp at h
  | k :: ks, x :: xs, c :: cs, h, i, k', x', c', h1, h2, h3 => by
    simp only [CellsA] at h
    cases i with
    | zero => simp at h1 h2 h3; subst h1; subst h2; subst h3; exact h.1
    | succ i => simp at h1 h2 h3; exact CellsA.at h.2 h1 h2 h3
  | [], [], _ :: _, h, _, _, _, _, _, _, _ => by simp only [CellsA] at h
  | [], _ :: _, _, h, _, _, _, _, _, _, _ => by simp only [CellsA] at h
  | _ :: _, [], _, h, _, _, _, _, _, _, _ => by simp only [CellsA] at h
  | _ :: _, _ :: _, [], h, _, _, _, _, _, _, _ => by simp only [CellsA] at h
theorem CellsA.mk : ∀ {ks : List Kd} {xs : List Value} {cs : List CT}, xs.length = ks.length → cs.length = ks.length → (∀ (i : Nat) k x c, ks[i]? = some k → xs[i]? = some x → cs[i]? = some c → CellA A H k x c) → CellsA A H ks xs cs
  | [], [], [], _, _, _ => by simp only [CellsA]
  | k :: ks, x :: xs, c :: cs, h1, h2, h => by
    simp only [CellsA]
    exact ⟨h 0 k x c rfl rfl rfl, CellsA.mk (by simpa using h1) (by simpa using h2) (fun i k x c a b d => h (i + 1) k x c (by simpa using a) (by simpa using b) (by simpa using d))⟩
  | [], [], _ :: _, _, h, _ => by simp at h
  | [], _ :: _, _, h, _, _ => by simp at h
  | _ :: _, [], _, h, _, _ => by simp at h
  | _ :: _, _ :: _, [], _, h, _ => by simp at h
/-- a part of a struct -/
theorem CellsA.part {ks : List Kd} {xs : List Value} {cs : List CT} (h : CellsA A H ks xs cs) (j m : Nat) : CellsA A H ((ks.drop j).take m) ((xs.drop j).take m) ((cs.drop j).take m) := by
  obtain ⟨h1, h2⟩ := h.len
  refine CellsA.mk (by simp [h1]) (by simp [h2]) fun i k x c a b d => ?_
  rw [List.getElem?_take] at a b d
  split at a
  · rename_i hi
    rw [if_pos hi, List.getElem?_drop] at b d
    rw [List.getElem?_drop] at a
    exact h.at a b d
  · cases a
theorem CellsA.append {ks ks' : List Kd} {xs xs' : List Value} {cs cs' : List CT} (h : CellsA A H ks xs cs) (h' : CellsA A H ks' xs' cs') : CellsA A H (ks ++ ks') (xs ++ xs') (cs ++ cs') := by
  obtain ⟨h1, h2⟩ := h.len
  obtain ⟨h3, h4⟩ := h'.len
  refine CellsA.mk (by simp [h1, h3]) (by simp [h2, h4]) fun i k x c a b d => ?_
  by_cases hi : i < ks.length
  · rw [List.getElem?_append_left hi] at a
    rw [List.getElem?_append_left (by omega)] at b d
    exact h.at a b d
  · rw [List.getElem?_append_right (by omega)] at a
    rw [List.getElem?_append_right (by omega), h1] at b
    rw [List.getElem?_append_right (by omega), h2] at d
    exact h'.at a b d

/-- a row, opened -/
theorem CellA.row {b : Nat} {ks : List Kd} {x : Value} {c : CT} (h : CellA A H (.row b ks) x c) : ∃ l, c = .row l ∧ l.length ≤ 140737488351232 ∧ l.length * b ≤ 140737488351232 ∧ ((x = .slice none 0 0 ∧ l = []) ∨ ∃ a cap, x = .slice (some a) l.length cap ∧ l.length ≤ cap ∧ (InA A a.block ∧ SzA H a ks.length) ∧
      ∀ (i : Nat) c, l[i]? = some c → ∃ xs, aloads H (a.add (i * ks.length)) ks.length = some xs ∧ CellsA A H ks xs c) := by
  cases c with
  | v u => simp only [CellA] at h
  | row l => simp only [CellA] at h; exact ⟨l, rfl, h⟩
theorem CellA.int {k : IntKind} {x : Value} {c : CT} (h : CellA A H (.int k) x c) : ∃ n, x = .int k n ∧ c = .v (.int k n) ∧ (Lit.int k n).wf = true := by
  cases c with
  | v u => simp only [CellA] at h; obtain ⟨rfl, n, rfl, hn⟩ := h; exact ⟨n, rfl, rfl, hn⟩
  | row l => simp only [CellA] at h
theorem CellA.bool {x : Value} {c : CT} (h : CellA A H .bool x c) : ∃ b, x = .bool b ∧ c = .v (.bool b) := by
  cases c with
  | v u => simp only [CellA] at h; obtain ⟨rfl, n, rfl⟩ := h; exact ⟨n, rfl, rfl⟩
  | row l => simp only [CellA] at h
theorem CellA.str {x : Value} {c : CT} (h : CellA A H .str x c) : ∃ s, x = .string s ∧ c = .v (.string s) ∧ s.size ≤ maxLen := by
  cases c with
  | v u => simp only [CellA] at h; obtain ⟨rfl, n, rfl, hn⟩ := h; exact ⟨n, rfl, rfl, hn⟩
  | row l => simp only [CellA] at h
end

/-! ### kinds without slices: the cells are what the content says -/
def Kd.isFlat : Kd → Bool
  | .row _ _ => false
  | _ => true
def CT.val : CT → Value
  | .v u => u
  | .row _ => undef
section
variable {A : Nat → Prop} {H : AH}
theorem CellA.flat {k : Kd} {x : Value} {c : CT} (h : CellA A H k x c) (hk : k.isFlat = true) : x = c.val ∧ c = .v x ∧ flat1 x = true := by
  cases k with
  | int k => obtain ⟨n, rfl, rfl, _⟩ := h.int; exact ⟨rfl, rfl, rfl⟩
  | bool => obtain ⟨n, rfl, rfl⟩ := h.bool; exact ⟨rfl, rfl, rfl⟩
  | str => obtain ⟨n, rfl, rfl, _⟩ := h.str; exact ⟨rfl, rfl, rfl⟩
  | row b ks => simp [Kd.isFlat] at hk
theorem CellsA.flat : ∀ {ks : List Kd} {xs : List Value} {cs : List CT}, CellsA A H ks xs cs → ks.all Kd.isFlat = true → xs = cs.map CT.val ∧ cs = xs.map CT.v ∧ flatL xs = true
  | [], [], [], _, _ => ⟨rfl, rfl, rfl⟩
  | k :: ks, x :: xs, c :: cs, h, hk => by
    simp only [CellsA] at h
    simp only [List.all_cons, Bool.and_eq_true] at hk
    obtain ⟨h1, h2, h3⟩ := h.1.flat hk.1
    obtain ⟨q1, q2, q3⟩ := CellsA.flat h.2 hk.2
    refine ⟨?_, ?_, ?_⟩
    · rw [List.map_cons, ← h1, ← q1]
    · rw [List.map_cons, ← h2, ← q2]
    · simp only [flatL, h3, q3, Bool.and_self]
  | [], [], _ :: _, h, _ => by simp only [CellsA] at h
  | [], _ :: _, _, h, _ => by simp only [CellsA] at h
  | _ :: _, [], _, h, _ => by simp only [CellsA] at h
  | _ :: _, _ :: _, [], h, _ => by simp only [CellsA] at h
/-- what holds no address is the same in every heap -/
theorem CellA.move {k : Kd} {x : Value} {c : CT} (h : CellA A H k x c) (hk : k.isFlat = true) (A' : Nat → Prop) (H' : AH) : CellA A' H' k x c := by
  cases k with
  | int k => obtain ⟨n, rfl, rfl, hn⟩ := h.int; simp only [CellA]; exact ⟨trivial, n, rfl, hn⟩
  | bool => obtain ⟨n, rfl, rfl⟩ := h.bool; simp only [CellA]; exact ⟨trivial, n, rfl⟩
  | str => obtain ⟨n, rfl, rfl, hn⟩ := h.str; simp only [CellA]; exact ⟨trivial, n, rfl, hn⟩
  | row b ks => simp [Kd.isFlat] at hk
theorem CellsA.move {ks : List Kd} {xs : List Value} {cs : List CT} (h : CellsA A H ks xs cs) (hk : ks.all Kd.isFlat = true) (A' : Nat → Prop) (H' : AH) : CellsA A' H' ks xs cs := by
  obtain ⟨h1, h2⟩ := h.len
  refine CellsA.mk h1 h2 fun i k x c a b d => (h.at a b d).move ?_ A' H'
  exact List.all_eq_true.1 hk k (List.mem_of_getElem? a)
end

/-- a list, by its places -/
def cellsOf (n : Nat) (x : Nat → Value) : List Value := (List.range n).map x
theorem cellsOf_of {xs : List Value} {n : Nat} (h : xs.length = n) : ∃ x : Nat → Value, xs = cellsOf n x := by
  refine ⟨fun i => xs.getD i undef, ?_⟩
  apply List.ext_getElem
  · simp [cellsOf, h]
  · intro i h1 h2
    simp [cellsOf, h1]
end Go.AM
