/-
  An abstract machine that runs a program of the given form, and its soundness, part 3.
-/
import Derived.Test.YteklajiaicmogaaGreatDoorA2
import GoSem.ClaimJoined
import Derived.Lib.SlicesCompact
import Derived.LaidByTextLater
import Derived.JoinedOf
import Derived.Laws.BitsLemmas
set_option linter.unusedVariables false
set_option linter.unusedSimpArgs false
noncomputable section
namespace Go.AM
open Go.RowKit
inductive Kd where
 | int (k : IntKind)
 | bool
 | str
 | row (b : Nat) (ks : List Kd)
inductive CT where
 | v (u : Value)
 | row (l : List (List CT))
def InA (A : Nat → Prop) (b : Nat) : Prop := b % 2 = 0 ∨ A (b / 2)
theorem InA.even (A : Nat → Prop) {b : Nat} (h : b % 2 = 0) : InA A b := .inl h
theorem InA.own {A : Nat → Prop} {N : Nat} (h : A N) : InA A (2 * N + 1) := .inr (by rw [lO]; exact h)
def SzA (H : AH) (a : Addr) (n : Nat) : Prop := a.block % 2 = 1 → ∃ cs ex, H.tr.get (a.block / 2) = some (.cells cs n ex)
mutual
def CellA (A : Nat → Prop) (H : AH) : Kd → Value → CT → Prop
 | .int k, x, .v u => x = u ∧ ∃ n, u = .int k n ∧ (Lit.int k n).wf = true
 | .bool, x, .v u => x = u ∧ ∃ b, u = .bool b
 | .str, x, .v u => x = u ∧ ∃ s, u = .string s ∧ s.size ≤ maxLen
 | .row b ks, x, .row l => l.length ≤ 140737488351232 ∧ l.length * b ≤ 140737488351232 ∧ ((x = .slice none 0 0 ∧ l = []) ∨ ∃ a cap, x = .slice (some a) l.length cap ∧ l.length ≤ cap ∧ (InA A a.block ∧ SzA H a ks.length) ∧
  ∀ (i : Nat) c, l[i]? = some c → ∃ xs, aloads H (a.add (i * ks.length)) ks.length = some xs ∧ CellsA A H ks xs c)
 | _, _, _ => False
def CellsA (A : Nat → Prop) (H : AH) : List Kd → List Value → List CT → Prop
 | [], [], [] => True
 | k :: ks, x :: xs, c :: cs => CellA A H k x c ∧ CellsA A H ks xs cs
 | _, _, _ => False
end
theorem aJq {H : AH} {p : Addr} {n : Nat} {xs : List Value} (h : aloads H p n = some xs) : xs.length = n := by
 unfold aloads at h
 by_cases hn : n = 0
 ·subst hn; simp at h; rw [h]; rfl
 ·rw [show Nat.beq n 0 = false by (cases n with | zero => exact absurd rfl hn | succ n => rfl), cond_false] at h
  cases hb : Nat.beq (p.block % 2) 0 with
  | true =>
   rw [hb, cond_true] at h
   have key : ∀ (n i : Nat) (w : World) (a : Addr) (l : List Value), eO w a i n = some l → l.length = n := by
    intro n
    induction n with
    | zero => intro i w a l h; simp [eO] at h; subst h; rfl
    | succ n ih =>
     intro i w a l h
     simp only [eO] at h
     split at h
     ·split at h
      ·rename_i r hr; cases h; simp [ih _ _ _ _ hr]
      ·cases h
     ·cases h
   exact key _ _ _ _ _ h
  | false =>
   rw [hb, cond_false] at h
   split at h
   ·rename_i cs _ _ _
    cases hle : Nat.ble (p.off + n) cs.length with
    | true =>
     rw [hle, cond_true] at h
     cases h
     have := Nat.le_of_ble_eq_true hle
     simp; omega
    | false => rw [hle] at h; cases h
   ·cases h
theorem aEy (p : Addr) (j : Nat) : (⟨(p.add j).block / 2, (p.add j).off, (p.add j).spot⟩ : Addr) = (⟨p.block / 2, p.off, p.spot⟩ : Addr).add j := by
 unfold Addr.add
 by_cases h : j = 0
 ·rw [if_pos h, if_pos h]
 ·rw [if_neg h, if_neg h]
theorem xL {w : World} {a : Addr} : ∀ (n i : Nat) (l : List Value), eO w a i n = some l → ∀ j, j < n → ∃ v, w.cell? (a.add (i + j)) = some v ∧ l[j]? = some (ext v) := by
 intro n
 induction n with
 | zero => intro i l _ j hj; omega
 | succ n ih =>
  intro i l h j hj
  simp only [eO] at h
  split at h
  ·rename_i v hv
   split at h
   ·rename_i r hr
    cases h
    cases j with
    | zero => exact ⟨v, hv, rfl⟩
    | succ j =>
     obtain ⟨u, h1, h2⟩ := ih _ _ hr j (by omega)
     exact ⟨u, by rw [← h1]; congr 2; omega, by simpa using h2⟩
   ·cases h
  ·cases h
theorem aEd {w : World} {a : Addr} : ∀ (n i : Nat) (l : List Value), eO w a i n = some l → ∀ j m, j + m ≤ n → eO w a (i + j) m = some ((l.drop j).take m) := by
 intro n i l h j m
 induction m generalizing j with
 | zero => intro _; simp [eO]
 | succ m ih =>
  intro hj
  obtain ⟨v, h1, h2⟩ := xL n i l h j (by omega)
  have h3 := ih (j + 1) (by omega)
  simp only [eO, h1]
  rw [show i + j + 1 = i + (j + 1) by omega, h3]
  have hjl := lt_of_getElem? h2
  rw [List.drop_eq_getElem_cons hjl, List.take_succ_cons]
  rw [List.getElem?_eq_getElem hjl] at h2
  rw [← Option.some.inj h2]
theorem aBa {w : World} {a : Addr} (k : Nat) : ∀ (m i : Nat), eO w (a.add k) i m = eO w a (k + i) m := by
 intro m
 induction m with
 | zero => intro i; rfl
 | succ m ih =>
  intro i
  simp only [eO, aKl, ih]
  rfl
theorem nD {H : AH} {p : Addr} {n : Nat} {xs : List Value} (h : aloads H p n = some xs) {j : Nat} (hj : j < n) : aload H (p.add j) = xs[j]? := by
 unfold aloads at h
 rw [show Nat.beq n 0 = false by (cases n with | zero => omega | succ n => rfl), cond_false] at h
 unfold aload
 rw [gG]
 cases hb : Nat.beq (p.block % 2) 0 with
 | true =>
  rw [hb, cond_true] at h
  obtain ⟨v, h1, h2⟩ := xL _ _ _ h j hj
  rw [cond_true]
  have e := aEy p j
  rw [gG] at e
  rw [e]
  rw [Nat.zero_add] at h1
  rw [h1, h2]
 | false =>
  rw [hb, cond_false] at h
  rw [cond_false]
  split at h
  ·rename_i cs sz ex hg
   cases hle : Nat.ble (p.off + n) cs.length with
   | true =>
    rw [hle, cond_true] at h
    cases h
    rw [wE, List.getElem?_take, if_pos hj, List.getElem?_drop]
   | false => rw [hle] at h; cases h
  ·cases h
theorem aJh {H : AH} {p : Addr} {n : Nat} {xs : List Value} (h : aloads H p n = some xs) {j m : Nat} (hj : j + m ≤ n) : aloads H (p.add j) m = some ((xs.drop j).take m) := by
 by_cases hm : m = 0
 ·subst hm; unfold aloads; simp
 ·unfold aloads at h ⊢
  rw [show Nat.beq n 0 = false by (cases n with | zero => omega | succ n => rfl), cond_false] at h
  rw [show Nat.beq m 0 = false by (cases m with | zero => exact absurd rfl hm | succ n => rfl), cond_false, gG]
  cases hb : Nat.beq (p.block % 2) 0 with
  | true =>
   rw [hb, cond_true] at h
   rw [cond_true]
   have e := aEy p j
   rw [gG] at e
   rw [e, aBa]
   have := aEd _ _ _ h j m hj
   rw [Nat.zero_add] at this
   rw [Nat.add_zero]; exact this
  | false =>
   rw [hb, cond_false] at h
   rw [cond_false]
   split at h
   ·rename_i cs sz ex hg
    cases hle : Nat.ble (p.off + n) cs.length with
    | true =>
     rw [hle, cond_true] at h
     cases h
     have := Nat.le_of_ble_eq_true hle
     rw [wE, Nat.ble_eq_true_of_le (by omega), cond_true, List.drop_take, List.take_take, List.drop_drop, Nat.min_eq_left (by omega)]
    | false => rw [hle] at h; cases h
   ·cases h
theorem dW {H : AH} {p : Addr} {xs : List Value} (h : aloads H p 1 = some xs) : ∃ x, xs = [x] ∧ aload H p = some x := by
 have hl := aJq h
 match xs, hl with
 | [x], _ =>
  refine ⟨x, rfl, ?_⟩
  have := nD h (j := 0) (by omega)
  rw [show p.add 0 = p from by unfold Addr.add; simp] at this
  simpa using this
section
variable {A A' : Nat → Prop} {H H' : AH}
theorem Gr.aload (g : Gr A H A' H') {p : Addr} (hp : InA A p.block) : AM.aload H' p = AM.aload H p := by
 unfold AM.aload
 rw [g.w0]
 cases hb : Nat.beq (p.block % 2) 0 with
 | true => rfl
 | false =>
  simp only [cond_false]
  rw [g.get]
  rcases hp with hp | hp
  ·rw [hp] at hb; cases hb
  ·exact hp
theorem Gr.aloads (g : Gr A H A' H') {p : Addr} (hp : InA A p.block) (n : Nat) : AM.aloads H' p n = AM.aloads H p n := by
 unfold AM.aloads
 rw [g.w0]
 cases hb : Nat.beq (p.block % 2) 0 with
 | true => rfl
 | false =>
  simp only [cond_false]
  rw [g.get]
  rcases hp with hp | hp
  ·rw [hp] at hb; cases hb
  ·exact hp
theorem Gr.szA (g : Gr A H A' H') {a : Addr} {n : Nat} (hp : InA A a.block) (h : SzA H a n) : SzA H' a n := fun ho => by
 obtain ⟨cs, ex, hc⟩ := h ho
 refine ⟨cs, ex, ?_⟩
 rw [g.get]
 ·exact hc
 ·rcases hp with hp | hp
  ·omega
  ·exact hp
theorem Gr.inA (g : Gr A H A' H') {b : Nat} (h : InA A b) : InA A' b := h.imp id (g.sub _)
mutual
theorem CellA.gr (g : Gr A H A' H') : ∀ (k : Kd) (x : Value) (c : CT), CellA A H k x c → CellA A' H' k x c
 | .int k, x, .v u, h => by simp only [CellA] at h ⊢; exact h
 | .bool, x, .v u, h => by simp only [CellA] at h ⊢; exact h
 | .str, x, .v u, h => by simp only [CellA] at h ⊢; exact h
 | .row b ks, x, .row l, h => by
  simp only [CellA] at h ⊢
  obtain ⟨h1, h2, h3⟩ := h
  refine ⟨h1, h2, h3.imp id ?_⟩
  rintro ⟨a, cap, rfl, q1, q2, q3⟩
  refine ⟨a, cap, rfl, q1, ⟨g.inA q2.1, g.szA q2.1 q2.2⟩, fun i c hc => ?_⟩
  obtain ⟨xs, r1, r2⟩ := q3 i c hc
  exact ⟨xs, by rw [g.aloads (by rw [gG]; exact q2.1)]; exact r1, CellsA.gr g ks xs c r2⟩
 | .int k, x, .row l, h => by simp only [CellA] at h
 | .bool, x, .row l, h => by simp only [CellA] at h
 | .str, x, .row l, h => by simp only [CellA] at h
 | .row b ks, x, .v u, h => by simp only [CellA] at h
theorem CellsA.gr (g : Gr A H A' H') : ∀ (ks : List Kd) (xs : List Value) (cs : List CT), CellsA A H ks xs cs → CellsA A' H' ks xs cs
 | [], [], [], _ => by simp only [CellsA]
 | k :: ks, x :: xs, c :: cs, h => by
  simp only [CellsA] at h ⊢
  exact ⟨CellA.gr g k x c h.1, CellsA.gr g ks xs cs h.2⟩
 | [], [], _ :: _, h => by simp only [CellsA] at h
 | [], _ :: _, _, h => by simp only [CellsA] at h
 | _ :: _, [], _, h => by simp only [CellsA] at h
 | _ :: _, _ :: _, [], h => by simp only [CellsA] at h
end
theorem CellsA.len : ∀ {ks : List Kd} {xs : List Value} {cs : List CT}, CellsA A H ks xs cs → xs.length = ks.length ∧ cs.length = ks.length
 | [], [], [], _ => ⟨rfl, rfl⟩
 | k :: ks, x :: xs, c :: cs, h => by
  simp only [CellsA] at h
  have := CellsA.len h.2
  simp [this.1, this.2]
 | [], [], _ :: _, h => by simp only [CellsA] at h
 | [], _ :: _, _, h => by simp only [CellsA] at h
 | _ :: _, [], _, h => by simp only [CellsA] at h
 | _ :: _, _ :: _, [], h => by simp only [CellsA] at h
theorem CellsA.at : ∀ {ks : List Kd} {xs : List Value} {cs : List CT}, CellsA A H ks xs cs → ∀ {i : Nat} {k : Kd} {x : Value} {c : CT}, ks[i]? = some k → xs[i]? = some x → cs[i]? = some c → CellA A H k x c
 | [], [], [], _, i, k, x, c, h, _, _ => by simp at h
 | k :: ks, x :: xs, c :: cs, h, i, k', x', c', h1, h2, h3 => by
  simp only [CellsA] at h
  cases i with
  | zero => simp at h1 h2 h3; subst h1; subst h2; subst h3; exact h.1
  | succ i => simp at h1 h2 h3; exact CellsA.at h.2 h1 h2 h3
 | [], [], _ :: _, h, _, _, _, _, _, _, _ => by simp only [CellsA] at h
 | [], _ :: _, _, h, _, _, _, _, _, _, _ => by simp only [CellsA] at h
 | _ :: _, [], _, h, _, _, _, _, _, _, _ => by simp only [CellsA] at h
 | _ :: _, _ :: _, [], h, _, _, _, _, _, _, _ => by simp only [CellsA] at h
theorem CellsA.mk : ∀ {ks : List Kd} {xs : List Value} {cs : List CT}, xs.length = ks.length → cs.length = ks.length → (∀ (i : Nat) k x c, ks[i]? = some k → xs[i]? = some x → cs[i]? = some c → CellA A H k x c) → CellsA A H ks xs cs
 | [], [], [], _, _, _ => by simp only [CellsA]
 | k :: ks, x :: xs, c :: cs, h1, h2, h => by
  simp only [CellsA]
  exact ⟨h 0 k x c rfl rfl rfl, CellsA.mk (by simpa using h1) (by simpa using h2) (fun i k x c a b d => h (i + 1) k x c (by simpa using a) (by simpa using b) (by simpa using d))⟩
 | [], [], _ :: _, _, h, _ => by simp at h
 | [], _ :: _, _, h, _, _ => by simp at h
 | _ :: _, [], _, h, _, _ => by simp at h
 | _ :: _, _ :: _, [], _, h, _ => by simp at h
theorem CellsA.part {ks : List Kd} {xs : List Value} {cs : List CT} (h : CellsA A H ks xs cs) (j m : Nat) : CellsA A H ((ks.drop j).take m) ((xs.drop j).take m) ((cs.drop j).take m) := by
 obtain ⟨h1, h2⟩ := h.len
 refine CellsA.mk (by simp [h1]) (by simp [h2]) fun i k x c a b d => ?_
 rw [List.getElem?_take] at a b d
 split at a
 ·rename_i hi
  rw [if_pos hi, List.getElem?_drop] at b d
  rw [List.getElem?_drop] at a
  exact h.at a b d
 ·cases a
theorem CellsA.append {ks ks' : List Kd} {xs xs' : List Value} {cs cs' : List CT} (h : CellsA A H ks xs cs) (h' : CellsA A H ks' xs' cs') : CellsA A H (ks ++ ks') (xs ++ xs') (cs ++ cs') := by
 obtain ⟨h1, h2⟩ := h.len
 obtain ⟨h3, h4⟩ := h'.len
 refine CellsA.mk (by simp [h1, h3]) (by simp [h2, h4]) fun i k x c a b d => ?_
 by_cases hi : i < ks.length
 ·rw [List.getElem?_append_left hi] at a
  rw [List.getElem?_append_left (by omega)] at b d
  exact h.at a b d
 ·rw [List.getElem?_append_right (by omega)] at a
  rw [List.getElem?_append_right (by omega), h1] at b
  rw [List.getElem?_append_right (by omega), h2] at d
  exact h'.at a b d
theorem CellA.row {b : Nat} {ks : List Kd} {x : Value} {c : CT} (h : CellA A H (.row b ks) x c) : ∃ l, c = .row l ∧ l.length ≤ 140737488351232 ∧ l.length * b ≤ 140737488351232 ∧ ((x = .slice none 0 0 ∧ l = []) ∨ ∃ a cap, x = .slice (some a) l.length cap ∧ l.length ≤ cap ∧ (InA A a.block ∧ SzA H a ks.length) ∧
 ∀ (i : Nat) c, l[i]? = some c → ∃ xs, aloads H (a.add (i * ks.length)) ks.length = some xs ∧ CellsA A H ks xs c) := by
 cases c with
 | v u => simp only [CellA] at h
 | row l => simp only [CellA] at h; exact ⟨l, rfl, h⟩
theorem CellA.int {k : IntKind} {x : Value} {c : CT} (h : CellA A H (.int k) x c) : ∃ n, x = .int k n ∧ c = .v (.int k n) ∧ (Lit.int k n).wf = true := by
 cases c with
 | v u => simp only [CellA] at h; obtain ⟨rfl, n, rfl, hn⟩ := h; exact ⟨n, rfl, rfl, hn⟩
 | row l => simp only [CellA] at h
theorem CellA.bool {x : Value} {c : CT} (h : CellA A H .bool x c) : ∃ b, x = .bool b ∧ c = .v (.bool b) := by
 cases c with
 | v u => simp only [CellA] at h; obtain ⟨rfl, n, rfl⟩ := h; exact ⟨n, rfl, rfl⟩
 | row l => simp only [CellA] at h
theorem CellA.str {x : Value} {c : CT} (h : CellA A H .str x c) : ∃ s, x = .string s ∧ c = .v (.string s) ∧ s.size ≤ maxLen := by
 cases c with
 | v u => simp only [CellA] at h; obtain ⟨rfl, n, rfl, hn⟩ := h; exact ⟨n, rfl, rfl, hn⟩
 | row l => simp only [CellA] at h
end
def Kd.isFlat : Kd → Bool
 | .row _ _ => false
 | _ => true
def CT.val : CT → Value
 | .v u => u
 | .row _ => undef
section
variable {A : Nat → Prop} {H : AH}
theorem CellA.flat {k : Kd} {x : Value} {c : CT} (h : CellA A H k x c) (hk : k.isFlat = true) : x = c.val ∧ c = .v x ∧ qM x = true := by
 cases k with
 | int k => obtain ⟨n, rfl, rfl, _⟩ := h.int; exact ⟨rfl, rfl, rfl⟩
 | bool => obtain ⟨n, rfl, rfl⟩ := h.bool; exact ⟨rfl, rfl, rfl⟩
 | str => obtain ⟨n, rfl, rfl, _⟩ := h.str; exact ⟨rfl, rfl, rfl⟩
 | row b ks => simp [Kd.isFlat] at hk
theorem CellsA.flat : ∀ {ks : List Kd} {xs : List Value} {cs : List CT}, CellsA A H ks xs cs → ks.all Kd.isFlat = true → xs = cs.map CT.val ∧ cs = xs.map CT.v ∧ nQ xs = true
 | [], [], [], _, _ => ⟨rfl, rfl, rfl⟩
 | k :: ks, x :: xs, c :: cs, h, hk => by
  simp only [CellsA] at h
  simp only [List.all_cons, Bool.and_eq_true] at hk
  obtain ⟨h1, h2, h3⟩ := h.1.flat hk.1
  obtain ⟨q1, q2, q3⟩ := CellsA.flat h.2 hk.2
  refine ⟨?_, ?_, ?_⟩
  ·rw [List.map_cons, ← h1, ← q1]
  ·rw [List.map_cons, ← h2, ← q2]
  ·simp only [nQ, h3, q3, Bool.and_self]
 | [], [], _ :: _, h, _ => by simp only [CellsA] at h
 | [], _ :: _, _, h, _ => by simp only [CellsA] at h
 | _ :: _, [], _, h, _ => by simp only [CellsA] at h
 | _ :: _, _ :: _, [], h, _ => by simp only [CellsA] at h
theorem CellA.move {k : Kd} {x : Value} {c : CT} (h : CellA A H k x c) (hk : k.isFlat = true) (A' : Nat → Prop) (H' : AH) : CellA A' H' k x c := by
 cases k with
 | int k => obtain ⟨n, rfl, rfl, hn⟩ := h.int; simp only [CellA]; exact ⟨trivial, n, rfl, hn⟩
 | bool => obtain ⟨n, rfl, rfl⟩ := h.bool; simp only [CellA]; exact ⟨trivial, n, rfl⟩
 | str => obtain ⟨n, rfl, rfl, hn⟩ := h.str; simp only [CellA]; exact ⟨trivial, n, rfl, hn⟩
 | row b ks => simp [Kd.isFlat] at hk
theorem CellsA.move {ks : List Kd} {xs : List Value} {cs : List CT} (h : CellsA A H ks xs cs) (hk : ks.all Kd.isFlat = true) (A' : Nat → Prop) (H' : AH) : CellsA A' H' ks xs cs := by
 obtain ⟨h1, h2⟩ := h.len
 refine CellsA.mk h1 h2 fun i k x c a b d => (h.at a b d).move ?_ A' H'
 exact List.all_eq_true.1 hk k (List.mem_of_getElem? a)
end
def cellsOf (n : Nat) (x : Nat → Value) : List Value := (List.range n).map x
theorem aJo {xs : List Value} {n : Nat} (h : xs.length = n) : ∃ x : Nat → Value, xs = cellsOf n x := by
 refine ⟨fun i => xs.getD i undef, ?_⟩
 apply List.ext_getElem
 ·simp [cellsOf, h]
 ·intro i h1 h2
  simp [cellsOf, h1]
end Go.AM
namespace Go.AM
open Go.RowKit
theorem cB {n i : Nat} {x : Nat → Value} (h : Nat.blt i n = true) : (cellsOf n x)[i]? = some (x i) := by
 have : i < n := Nat.le_of_ble_eq_true h
 simp [cellsOf, this]
theorem aU (n : Nat) (x : Nat → Value) : (cellsOf n x).length = n := by simp [cellsOf]
theorem bQ {m n : Nat} {x : Nat → Value} (h : Nat.ble m n = true) : m ≤ (cellsOf n x).length := by rw [aU]; exact Nat.le_of_ble_eq_true h
def gX (x : Nat → Value) (off : Nat) (v : Value) : Nat → Value := fun i => bif Nat.beq i off then v else x i
def aHe (x : Nat → Value) (off m : Nat) (y : Nat → Value) : Nat → Value := fun i => bif Nat.ble off i && Nat.blt i (off + m) then y (i - off) else x i
theorem jF {n off : Nat} {x : Nat → Value} {v : Value} (h : Nat.blt off n = true) : (cellsOf n x).take off ++ ([v] ++ (cellsOf n x).drop (off + 1)) = cellsOf n (gX x off v) := by
 have hlt : off < n := Nat.le_of_ble_eq_true h
 apply List.ext_getElem?
 intro i
 by_cases h1 : i < off
 ·rw [List.getElem?_append_left (by simp [cellsOf]; omega), List.getElem?_take, if_pos h1, cB (by simp [Nat.blt]; omega), cB (by simp [Nat.blt]; omega)]
  rw [gX, show Nat.beq i off = false by (cases e : Nat.beq i off with | false => rfl | true => have := Nat.eq_of_beq_eq_true e; omega)]; rfl
 ·rw [List.getElem?_append_right (by simp [cellsOf]; omega)]
  simp only [List.length_take, aU, Nat.min_eq_left (Nat.le_of_lt hlt)]
  by_cases h2 : i = off
  ·subst h2
   rw [cB (by simp [Nat.blt]; omega), gX]
   simp
  ·rw [List.getElem?_append_right (by simp; omega), List.getElem?_drop]
   simp only [List.length_singleton]
   rw [show off + 1 + (i - off - 1) = i by omega]
   by_cases h3 : i < n
   ·rw [cB (by simp [Nat.blt]; omega), cB (by simp [Nat.blt]; omega), gX, show Nat.beq i off = false by (cases e : Nat.beq i off with | false => rfl | true => exact absurd (Nat.eq_of_beq_eq_true e) h2)]; rfl
   ·rw [List.getElem?_eq_none (by simp [cellsOf]; omega), List.getElem?_eq_none (by simp [cellsOf]; omega)]
theorem aEk {n off m : Nat} {x y : Nat → Value} (h : Nat.ble (off + m) n = true) : (cellsOf n x).take off ++ (cellsOf m y ++ (cellsOf n x).drop (off + (cellsOf m y).length)) = cellsOf n (aHe x off m y) := by
 have hle : off + m ≤ n := Nat.le_of_ble_eq_true h
 rw [aU]
 apply List.ext_getElem?
 intro i
 have hu : aHe x off m y i = if off ≤ i ∧ i < off + m then y (i - off) else x i := by
  simp only [aHe, cond_eq_ite, Bool.and_eq_true, Nat.blt, Nat.ble_eq]
  by_cases hc : off ≤ i ∧ i < off + m
  ·rw [if_pos hc, if_pos ⟨hc.1, hc.2⟩]
  ·rw [if_neg hc, if_neg (fun h => hc ⟨h.1, h.2⟩)]
 by_cases h1 : i < off
 ·rw [List.getElem?_append_left (by simp [cellsOf]; omega), List.getElem?_take, if_pos h1, cB (by simp [Nat.blt]; omega), cB (by simp [Nat.blt]; omega), hu, if_neg (by omega)]
 ·rw [List.getElem?_append_right (by simp [cellsOf]; omega)]
  simp only [List.length_take, aU, Nat.min_eq_left (show off ≤ n by omega)]
  by_cases h2 : i < off + m
  ·rw [List.getElem?_append_left (by simp [cellsOf]; omega), cB (by simp [Nat.blt]; omega), cB (by simp [Nat.blt]; omega), hu, if_pos (by omega)]
  ·rw [List.getElem?_append_right (by simp [cellsOf]; omega), List.getElem?_drop, aU]
   rw [show off + m + (i - off - m) = i by omega]
   by_cases h3 : i < n
   ·rw [cB (by simp [Nat.blt]; omega), cB (by simp [Nat.blt]; omega), hu, if_neg (by omega)]
   ·rw [List.getElem?_eq_none (by simp [cellsOf]; omega), List.getElem?_eq_none (by simp [cellsOf]; omega)]
theorem uN {n off m : Nat} {x : Nat → Value} (h : Nat.ble (off + m) n = true) : ((cellsOf n x).drop off).take m = cellsOf m (fun i => x (off + i)) := by
 have hle : off + m ≤ n := Nat.le_of_ble_eq_true h
 apply List.ext_getElem?
 intro i
 rw [List.getElem?_take]
 by_cases h1 : i < m
 ·rw [if_pos h1, List.getElem?_drop, cB (by simp [Nat.blt]; omega), cB (by simp [Nat.blt]; omega)]
 ·rw [if_neg h1, List.getElem?_eq_none (by simp [cellsOf]; omega)]
section
variable {A : Nat → Prop} {H : AH}
theorem CellA.one {k : Kd} {x : Value} {c : CT} (h : CellA A H k x c) : x.oneCell' = true := by
 cases k with
 | int k => obtain ⟨n, rfl, _⟩ := h.int; rfl
 | bool => obtain ⟨n, rfl, _⟩ := h.bool; rfl
 | str => obtain ⟨n, rfl, _⟩ := h.str; rfl
 | row b ks =>
  obtain ⟨l, rfl, _, _, ⟨rfl, _⟩ | ⟨a, cap, rfl, _⟩⟩ := h.row
  ·rfl
  ·rfl
theorem CellsA.one : ∀ {ks : List Kd} {xs : List Value} {cs : List CT}, CellsA A H ks xs cs → eF xs = true
 | [], [], [], _ => rfl
 | k :: ks, x :: xs, c :: cs, h => by
  simp only [CellsA] at h
  simp only [eF, h.1.one, CellsA.one h.2, Bool.and_self]
 | [], [], _ :: _, h => by simp only [CellsA] at h
 | [], _ :: _, _, h => by simp only [CellsA] at h
 | _ :: _, [], _, h => by simp only [CellsA] at h
 | _ :: _, _ :: _, [], h => by simp only [CellsA] at h
end
section
variable {P : Program} {E : Env P} {t : TypeId} {k : IntKind} {a b : Int} {s u : ByteArray}
theorem aX (h : a < b) : dM E .lss t (.int k a) (.int k b) = some (.bool true) := by simp [dM, eQ, h]
theorem aW (h : b ≤ a) : dM E .lss t (.int k a) (.int k b) = some (.bool false) := by simp [dM, eQ]; omega
theorem dU (h : a ≤ b) : dM E .leq t (.int k a) (.int k b) = some (.bool true) := by simp [dM, eQ, h]
theorem gH (h : b < a) : dM E .leq t (.int k a) (.int k b) = some (.bool false) := by simp [dM, eQ]; omega
theorem cR (h : b < a) : dM E .gtr t (.int k a) (.int k b) = some (.bool true) := by simp [dM, eQ, h]
theorem bW (h : a ≤ b) : dM E .gtr t (.int k a) (.int k b) = some (.bool false) := by simp [dM, eQ]; omega
theorem eM (h : b ≤ a) : dM E .geq t (.int k a) (.int k b) = some (.bool true) := by simp [dM, eQ, h]
theorem kF (h : a < b) : dM E .geq t (.int k a) (.int k b) = some (.bool false) := by simp [dM, eQ]; omega
theorem cM (h : a = b) : dM E .eql t (.int k a) (.int k b) = some (.bool true) := by simp [dM, eQ, h]
theorem cL (h : a ≠ b) : dM E .eql t (.int k a) (.int k b) = some (.bool false) := by simp [dM, eQ, h]
theorem dZ (h : a ≠ b) : dM E .neq t (.int k a) (.int k b) = some (.bool true) := by simp [dM, eQ, h]
theorem bP (h : a = b) : dM E .neq t (.int k a) (.int k b) = some (.bool false) := by simp [dM, eQ, h]
theorem aIg (h : s.data.toList = u.data.toList) : dM E .eql t (.string s) (.string u) = some (.bool true) := by simp [dM, uM, h]
theorem kC (h : s.data.toList = u.data.toList) : dM E .neq t (.string s) (.string u) = some (.bool false) := by simp [dM, uM, h]
theorem jW {c : Int} (h : k.wrap (a + b) = c) : dM E .add t (.int k a) (.int k b) = some (.int k c) := by simp [dM, eQ, h]
theorem fR {c : Int} (h : k.wrap (a - b) = c) : dM E .sub t (.int k a) (.int k b) = some (.int k c) := by simp [dM, eQ, h]
theorem gE {c : Int} (h : k.wrap (a * b) = c) : dM E .mul t (.int k a) (.int k b) = some (.int k c) := by simp [dM, eQ, h]
theorem cO {c : Int} (h0 : -9223372036854775808 ≤ c) (h1 : c ≤ 9223372036854775807) : IntKind.i64.wrap c = c := by
 rw [IntKind.wrap_i64]; omega
theorem aY {m : Nat} (h : m + 1 ≤ 9223372036854775807) : dM E .add t (.int .i64 (m : Int)) (.int .i64 1) = some (.int .i64 ((m + 1 : Nat) : Int)) := jW (by rw [cO (by omega) (by omega)]; omega)
theorem aJk {e : TypeId} (hu : E.und t = some (.pointer e)) : dM E .eql t (.pointer none) (.pointer none) = some (.bool true) := by simp [dM, hu, jE]
theorem zF {e : TypeId} {p : Addr} (hu : E.und t = some (.pointer e)) : dM E .eql t (.pointer (some p)) (.pointer none) = some (.bool false) := by simp [dM, hu, jE]
theorem aBt {c : Bool} (hu : E.und t = some .bool) : dM E .eql t (.bool c) (.bool c) = some (.bool true) := by simp [dM, hu, jE]
theorem aAs {c : Bool} (hu : E.und t = some .bool) : dM E .neq t (.bool c) (.bool c) = some (.bool false) := by simp [dM, hu, jE]
def xF (k : Kd) (d : TypeDesc) : Bool :=
 match k, d with
 | .int _, .int _ => true
 | .bool, .bool => true
 | .str, .string => true
 | _, _ => false
theorem iM {A A' : Nat → Prop} {H H' : AH} {kd : Kd} {x y : Value} {c : CT} {d : TypeDesc} (hu : E.und t = some d) (hk : xF kd d = true) (hx : CellA A H kd x c) (hy : CellA A' H' kd y c) : dM E .eql t x y = some (.bool true) := by
 cases kd with
 | int k => obtain ⟨n, rfl, rfl, _⟩ := hx.int; obtain ⟨m, rfl, e, _⟩ := hy.int; cases e; exact cM rfl
 | bool =>
  obtain ⟨n, rfl, rfl⟩ := hx.bool; obtain ⟨m, rfl, e⟩ := hy.bool; cases e
  cases d <;> simp [xF] at hk
  exact aBt hu
 | str => obtain ⟨n, rfl, rfl, _⟩ := hx.str; obtain ⟨m, rfl, e, _⟩ := hy.str; cases e; exact aIg rfl
 | row b ks => simp [xF] at hk
theorem cK {A A' : Nat → Prop} {H H' : AH} {kd : Kd} {x y : Value} {c : CT} {d : TypeDesc} (hu : E.und t = some d) (hk : xF kd d = true) (hx : CellA A H kd x c) (hy : CellA A' H' kd y c) : dM E .neq t x y = some (.bool false) := by
 cases kd with
 | int k => obtain ⟨n, rfl, rfl, _⟩ := hx.int; obtain ⟨m, rfl, e, _⟩ := hy.int; cases e; exact bP rfl
 | bool =>
  obtain ⟨n, rfl, rfl⟩ := hx.bool; obtain ⟨m, rfl, e⟩ := hy.bool; cases e
  cases d <;> simp [xF] at hk
  exact aAs hu
 | str => obtain ⟨n, rfl, rfl, _⟩ := hx.str; obtain ⟨m, rfl, e, _⟩ := hy.str; cases e; exact kC rfl
 | row b ks => simp [xF] at hk
def aDw {P : Program} (E : Env P) (f : TypeId → List Kd → Bool) (t : TypeId) (ks : List Kd) (off : Nat) : Bool :=
 match E.und t with
 | some dd => (match E.inf t with
  | some i => bif iT dd then Nat.ble (off + i.size) ks.length && f t ((ks.drop off).take i.size) else Nat.ble (off + 1) ks.length && f t ((ks.drop off).take 1)
  | none => false)
 | none => false
def tW {P : Program} (E : Env P) : Nat → TypeId → List Kd → Bool
 | 0, _, _ => false
 | d + 1, t, ks =>
  match E.und t with
  | some (.struct fs) => E.eqT t && fs.toList.all fun fd => (fd.name == "_") || aDw E (tW E d) fd.type ks fd.offset
  | some (.array m e) => (match E.inf e with
   | some i => (List.range m).all fun j => aDw E (tW E d) e ks (j * i.size)
   | none => false)
  | some (.int k) => (match ks with | [.int k'] => decide (k = k') | _ => false)
  | some .bool => (match ks with | [.bool] => true | _ => false)
  | some .string => (match ks with | [.str] => true | _ => false)
  | _ => false
end
section
variable {P : Program} {E : Env P} {A : Nat → Prop} {H : AH}
def aSa (E : Env P) (A : Nat → Prop) (H : AH) (d : Nat) : Prop := ∀ (t : TypeId) (ks : List Kd) (xs : List Value) (cs : List CT), tW E d t ks = true → CellsA A H ks xs cs → ks.all Kd.isFlat = true →
    (∀ dd, E.und t = some dd → iT dd = true → aeq E d t (.agg ⟨xs⟩) (.agg ⟨xs⟩) = some true) ∧ (∀ dd x, E.und t = some dd → iT dd = false → xs = [x] → aeq E d t x x = some true)
theorem aCx {d : Nat} (ih : aSa E A H d) {t : TypeId} {ks : List Kd} {xs : List Value} {cs : List CT} {off : Nat} (hf : aDw E (tW E d) t ks off = true) (hx : CellsA A H ks xs cs) (hfl : ks.all Kd.isFlat = true) : ∃ u, apart E t xs off = some u ∧ aeq E d t u u = some true := by
 obtain ⟨hlen, _⟩ := hx.len
 have hsub : ∀ a b, ((ks.drop a).take b).all Kd.isFlat = true := by
  intro a b
  rw [List.all_eq_true] at hfl ⊢
  intro k hk
  exact hfl k (List.mem_of_mem_drop (List.mem_of_mem_take hk))
 unfold aDw at hf
 split at hf
 ·rename_i dd hdd
  split at hf
  ·rename_i i hi
   cases hag : iT dd with
   | true =>
    rw [hag, cond_true, Bool.and_eq_true] at hf
    exact ⟨_, by simp only [apart, hdd, hag, cond_true, hi, hlen, hf.1], (ih t _ _ _ hf.2 (hx.part off i.size) (hsub _ _)).1 dd hdd hag⟩
   | false =>
    rw [hag, cond_false, Bool.and_eq_true] at hf
    have hlt : off < xs.length := by have := Nat.le_of_ble_eq_true hf.1; omega
    have hpart : (xs.drop off).take 1 = [xs[off]] := by
     rw [List.drop_eq_getElem_cons hlt]; rfl
    refine ⟨xs[off], ?_, (ih t _ _ _ hf.2 (hx.part off 1) (hsub _ _)).2 dd _ hdd hag hpart⟩
    simp only [apart, hdd, hag, cond_false]
    exact List.getElem?_eq_getElem hlt
  ·cases hf
 ·cases hf
theorem aBo {f : Nat → Option Bool} : ∀ (n i : Nat), (∀ j, i ≤ j → j < i + n → f j = some true) → nS f i n = some true := by
 intro n
 induction n with
 | zero => intro i _; rfl
 | succ n ih =>
  intro i h
  simp only [nS]
  rw [h i (Nat.le_refl _) (by omega)]
  exact ih (i + 1) fun j h1 h2 => h j (by omega) (by omega)
theorem aSe : ∀ (d : Nat), aSa E A H d := by
 intro d
 induction d with
 | zero => intro t ks xs cs h; simp [tW] at h
 | succ d ih =>
  intro t ks xs cs h hx hfl
  simp only [tW] at h
  split at h
  ·rename_i fs hu
   refine ⟨fun dd hd ha => ?_, fun dd x hd ha _ => ?_⟩
   ·rw [hu] at hd; cases hd
    simp only [Bool.and_eq_true, List.all_eq_true] at h
    obtain ⟨hE, hfs⟩ := h
    simp only [aeq, hu, hE, cond_true]
    have key : ∀ l : List Field, (∀ fd ∈ l, fd ∈ fs.toList) → iQ E (aeq E d) xs xs l = some true := by
     intro l
     induction l with
     | nil => intro _; rfl
     | cons fd l ihl =>
      intro hin
      have hr := ihl fun g hg => hin g (List.mem_cons_of_mem _ hg)
      simp only [iQ]
      cases hn : fd.name == "_" with
      | true => rw [cond_true]; exact hr
      | false =>
       rw [cond_false]
       have hf := hfs fd (hin fd (List.mem_cons_self ..))
       rw [hn, Bool.false_or] at hf
       obtain ⟨u, h1, h2⟩ := aCx ih hf hx hfl
       rw [h1]
       simp only
       rw [h2]
       exact hr
    exact key _ fun _ h => h
   ·rw [hu] at hd; cases hd; cases ha
  ·rename_i m e hu
   refine ⟨fun dd hd ha => ?_, fun dd x hd ha _ => ?_⟩
   ·split at h
    ·rename_i ii hi
     simp only [aeq, hu, hi]
     refine aBo m 0 fun j _ hj => ?_
     rw [List.all_eq_true] at h
     obtain ⟨u, h1, h2⟩ := aCx ih (h j (List.mem_range.2 (by omega))) hx hfl
     rw [h1]
     simp only
     exact h2
    ·cases h
   ·rw [hu] at hd; cases hd; cases ha
  ·rename_i k hu
   refine ⟨fun dd hd ha => ?_, fun dd x hd ha hxs => ?_⟩
   ·rw [hu] at hd; cases hd; cases ha
   ·subst hxs
    split at h
    ·rename_i k' 
     match cs, hx with
     | [c], hx =>
      simp only [CellsA] at hx
      obtain ⟨n, rfl, _⟩ := hx.1.int
      simp [aeq, hu]
    ·cases h
  ·rename_i hu
   refine ⟨fun dd hd ha => ?_, fun dd x hd ha hxs => ?_⟩
   ·rw [hu] at hd; cases hd; cases ha
   ·subst hxs
    split at h
    ·match cs, hx with
     | [c], hx =>
      simp only [CellsA] at hx
      obtain ⟨n, rfl, _⟩ := hx.1.bool
      simp [aeq, hu]
    ·cases h
  ·rename_i hu
   refine ⟨fun dd hd ha => ?_, fun dd x hd ha hxs => ?_⟩
   ·rw [hu] at hd; cases hd; cases ha
   ·subst hxs
    split at h
    ·match cs, hx with
     | [c], hx =>
      simp only [CellsA] at hx
      obtain ⟨n, rfl, _⟩ := hx.1.str
      simp [aeq, hu]
    ·cases h
  ·cases h
theorem gF {A' : Nat → Prop} {H' : AH} {t : TypeId} {ks : List Kd} {xs ys : List Value} {cs : List CT} {fs : Array Field} (hu : E.und t = some (.struct fs)) (hE : E.eqT t = true) (hs : tW E 9 t ks = true) (hfl : ks.all Kd.isFlat = true) (hx : CellsA A H ks xs cs) (hy : CellsA A' H' ks ys cs) :
 dM E .eql t (.agg ⟨xs⟩) (.agg ⟨ys⟩) = some (.bool true) ∧ dM E .neq t (.agg ⟨xs⟩) (.agg ⟨ys⟩) = some (.bool false) := by
 have e : ys = xs := by rw [(hx.flat hfl).1, (hy.flat hfl).1]
 subst e
 have h1 := (aSe 9 t ks _ cs hs hx hfl).1 _ hu rfl
 have h2 := (hx.flat hfl).2.2
 simp only [dM, h2, hE, Bool.and_self, cond_true, h1, jE]
 exact ⟨trivial, rfl⟩
end
end Go.AM
namespace Go.AM
open Go.RowKit
theorem aEi (b off k : Nat) : (⟨b, off, none⟩ : Addr).add k = ⟨b, off + k, none⟩ := rG _ rfl k
theorem InA.add {A : Nat → Prop} {a : Addr} (h : InA A a.block) {k : Nat} : InA A (a.add k).block := by rw [gG]; exact h
section
variable {P : Program} {E : Env P} {G : RG} {i n d : Nat} {r : List Oper} {Q : Fr → AH → Prop} {t : Tr Value} {l : List (Nat × Value)} {S H0 : AH} {A0 A : Nat → Prop} {L L' : OL} {v u : Value}
 {ty : TypeId} {ps : String} {af : Array Edge} {gd : Option (Nat × Bool)} {x y z : Operand}
theorem aTv (hw : gok G.ops l gd = true) (hdn : Nat.ble (d + 1) n = true) (hx : opv l x = some v) (h : SO E G (i + 1) r Q (fr n t ((d, v) :: l)) H0 A L) : SO E G i (⟨some d, .move x, ty, ps, af, gd⟩ :: r) Q (fr n t l) H0 A L :=
 eT hw rfl hdn rfl (fun H => by simp only [aop, cG hx]) h
theorem aMo (hw : gok G.ops l gd = true) (hdn : Nat.ble (d + 1) n = true) (hx : opv l x = some v) (h : SO E G (i + 1) r Q (fr n t ((d, v) :: l)) H0 A L) : SO E G i (⟨some d, .assign x, ty, ps, af, gd⟩ :: r) Q (fr n t l) H0 A L :=
 eT hw rfl hdn rfl (fun H => by simp only [aop, cG hx]) h
theorem aLj (hw : gok G.ops l gd = true) (hdn : Nat.ble (d + 1) n = true) (hz : opv l z = some (.bool true)) (hx : opv l x = some v) (h : SO E G (i + 1) r Q (fr n t ((d, v) :: l)) H0 A L) : SO E G i (⟨some d, .pick z x y, ty, ps, af, gd⟩ :: r) Q (fr n t l) H0 A L :=
 eT hw rfl hdn rfl (fun H => by simp only [aop, cG hz, cG hx]) h
theorem aMv (hw : gok G.ops l gd = true) (hdn : Nat.ble (d + 1) n = true) (hz : opv l z = some (.bool false)) (hx : opv l y = some v) (h : SO E G (i + 1) r Q (fr n t ((d, v) :: l)) H0 A L) : SO E G i (⟨some d, .pick z x y, ty, ps, af, gd⟩ :: r) Q (fr n t l) H0 A L :=
 eT hw rfl hdn rfl (fun H => by simp only [aop, cG hz, cG hx]) h
theorem aWv {op : BinOp} {ta tb : TypeId} {a b : Value} (hw : gok G.ops l gd = true) (hdn : Nat.ble (d + 1) n = true) (hx : opv l x = some a) (hy : opv l y = some b) (hb : dM E op ta a b = some v) (h : SO E G (i + 1) r Q (fr n t ((d, v) :: l)) H0 A L) :
 SO E G i (⟨some d, .binOp op ta x y tb, ty, ps, af, gd⟩ :: r) Q (fr n t l) H0 A L :=
 eT hw rfl hdn rfl (fun H => by simp only [aop, cG hx, cG hy, hb, dL]) h
theorem eZ {ta : TypeId} {b b' : Bool} (hw : gok G.ops l gd = true) (hdn : Nat.ble (d + 1) n = true) (hx : opv l x = some (.bool b)) (hb : (!b) = b') (h : SO E G (i + 1) r Q (fr n t ((d, .bool b') :: l)) H0 A L) :
 SO E G i (⟨some d, .unOp .not ta x, ty, ps, af, gd⟩ :: r) Q (fr n t l) H0 A L :=
 eT hw rfl hdn rfl (fun H => by simp only [aop, cG hx, aun, hb, dL]) h
theorem bS {vs : List Value} {k : Nat} (hw : gok G.ops l gd = true) (hdn : Nat.ble (d + 1) n = true) (hx : opv l x = some (.tuple ⟨vs⟩)) (hv : vs[k]? = some v) (h : SO E G (i + 1) r Q (fr n t ((d, v) :: l)) H0 A L) : SO E G i (⟨some d, .extract x k, ty, ps, af, gd⟩ :: r) Q (fr n t l) H0 A L :=
 eT hw rfl hdn rfl (fun H => by simp only [aop, cG hx, uW, hv, dL]) h
theorem aHj {a : Addr} (hw : gok G.ops l gd = true) (hdn : Nat.ble (d + 1) n = true) (hx : opv l x = some (.pointer (some a))) (h : SO E G (i + 1) r Q (fr n t ((d, .pointer (some a)) :: l)) H0 A L) : SO E G i (⟨some d, .nilCheck x, ty, ps, af, gd⟩ :: r) Q (fr n t l) H0 A L :=
 eT hw rfl hdn rfl (fun H => by simp only [aop, cG hx]) h
theorem xK {fn : Fn} {a b : Array Operand} {va vb : List Value} (hw : gok G.ops l gd = true) (hdn : Nat.ble (d + 1) n = true) (ha : Opvs l a.toList va) (hb : Opvs l b.toList vb) (h : SO E G (i + 1) r Q (fr n t ((d, .func fn ⟨va⟩ ⟨vb⟩) :: l)) H0 A L) :
 SO E G i (⟨some d, .makeFunc fn a b, ty, ps, af, gd⟩ :: r) Q (fr n t l) H0 A L :=
 eT hw rfl hdn rfl (fun H => by simp only [aop, ha.ok, hb.ok]) h
theorem gM {s : TypeId} {f : Nat} {b off o' : Nat} {fs : Array Field} {fd : Field} {ii : TI} (hw : gok G.ops l gd = true) (hdn : Nat.ble (d + 1) n = true) (hx : opv l x = some (.pointer (some ⟨b, off, none⟩))) (hu : E.und s = some (.struct fs)) (hf : fs[f]? = some fd) (hi : E.inf fd.type = some ii)
 (hz : Nat.beq ii.size 0 = false) (ho : off + fd.offset = o') (h : SO E G (i + 1) r Q (fr n t ((d, .pointer (some ⟨b, o', none⟩)) :: l)) H0 A L) : SO E G i (⟨some d, .fieldAddr s x f, ty, ps, af, gd⟩ :: r) Q (fr n t l) H0 A L :=
 eT hw rfl hdn rfl (fun H => by simp only [aop, cG hx, nF, hu, hf, hi, hz, cond_false, dL, aEi, ho]) h
theorem eP {s : TypeId} {f : Nat} {a : Addr} {fs : Array Field} {fd : Field} {ii : TI} (hw : gok G.ops l gd = true) (hdn : Nat.ble (d + 1) n = true) (hx : opv l x = some (.pointer (some a))) (hu : E.und s = some (.struct fs)) (hf : fs[f]? = some fd) (hi : E.inf fd.type = some ii)
 (hz : Nat.beq ii.size 0 = false) {k : Nat} (ho : fd.offset = k) (h : SO E G (i + 1) r Q (fr n t ((d, .pointer (some (a.add k))) :: l)) H0 A L) : SO E G i (⟨some d, .fieldAddr s x f, ty, ps, af, gd⟩ :: r) Q (fr n t l) H0 A L :=
 eT hw rfl hdn rfl (fun H => by simp only [aop, cG hx, nF, hu, hf, hi, hz, cond_false, dL, ho]) h
theorem bH {kk : IntKind} {a : Addr} {m c j s : Nat} {e : TypeId} {ii : TI} {ta : TypeId} (hw : gok G.ops l gd = true) (hdn : Nat.ble (d + 1) n = true) (hx : opv l x = some (.slice (some a) m c)) (hy : opv l y = some (.int kk ((j : Nat) : Int))) (hu : E.und ta = some (.slice e)) (hi : E.inf e = some ii) (hs : ii.size = s)
 (hj : j < m) (h : SO E G (i + 1) r Q (fr n t ((d, .pointer (some (a.add (j * s)))) :: l)) H0 A L) : SO E G i (⟨some d, .indexAddr ta x y, ty, ps, af, gd⟩ :: r) Q (fr n t l) H0 A L :=
 eT hw rfl hdn rfl (fun H => by
  have : oQ (.int kk ((j : Nat) : Int)) m = some j := by simp only [oQ]; rw [if_pos ⟨by omega, by omega⟩]; simp
  simp only [aop, cG hx, cG hy, kE, hu, hi, this, dL, hs]) h
theorem dP {kk : IntKind} {b off m c j s o' : Nat} {e : TypeId} {ii : TI} {ta : TypeId} (hw : gok G.ops l gd = true) (hdn : Nat.ble (d + 1) n = true) (hx : opv l x = some (.slice (some ⟨b, off, none⟩) m c)) (hy : opv l y = some (.int kk ((j : Nat) : Int))) (hu : E.und ta = some (.slice e)) (hi : E.inf e = some ii) (hs : ii.size = s)
 (hj : j < m) (ho : off + j * s = o') (h : SO E G (i + 1) r Q (fr n t ((d, .pointer (some ⟨b, o', none⟩)) :: l)) H0 A L) : SO E G i (⟨some d, .indexAddr ta x y, ty, ps, af, gd⟩ :: r) Q (fr n t l) H0 A L :=
 eT hw rfl hdn rfl (fun H => by
  have : oQ (.int kk ((j : Nat) : Int)) m = some j := by simp only [oQ]; rw [if_pos ⟨by omega, by omega⟩]; simp
  simp only [aop, cG hx, cG hy, kE, hu, hi, this, dL, hs, aEi, ho]) h
theorem zH {kk : IntKind} {s : ByteArray} {j : Nat} {b : UInt8} {ta : TypeId} (hw : gok G.ops l gd = true) (hdn : Nat.ble (d + 1) n = true) (hx : opv l x = some (.string s)) (hy : opv l y = some (.int kk ((j : Nat) : Int))) (hu : E.und ta = some .string) (hb : s.data.toList[j]? = some b)
 (h : SO E G (i + 1) r Q (fr n t ((d, .int .u8 b.toNat) :: l)) H0 A L) : SO E G i (⟨some d, .index ta x y, ty, ps, af, gd⟩ :: r) Q (fr n t l) H0 A L :=
 eT hw rfl hdn rfl (fun H => by
  have hj := lt_of_getElem? hb
  have : oQ (.int kk ((j : Nat) : Int)) s.data.toList.length = some j := by simp only [oQ]; rw [if_pos ⟨by omega, by omega⟩]; simp
  simp only [aop, cG hx, cG hy, aAm, hu, this, dL, hb]) h
theorem aKc {c : Call} {ta e : TypeId} {a : Option Addr} {m k : Nat} (hw : gok G.ops l gd = true) (hdn : Nat.ble (d + 1) n = true) (hc : c.callee = .builtin .len) (ha : c.args.toList = [x]) (ht : c.argTypes.toList = [ta]) (hx : opv l x = some (.slice a m k)) (hu : E.und ta = some (.slice e))
 (h : SO E G (i + 1) r Q (fr n t ((d, .int .i64 ((m : Nat) : Int)) :: l)) H0 A L) : SO E G i (⟨some d, .call c, ty, ps, af, gd⟩ :: r) Q (fr n t l) H0 A L :=
 eT hw rfl hdn (by simp only [jO, hc, ht, hu]) (fun H => by simp only [aop, hc, ha, ht, cG hx, aFd, hu, dL]) h
theorem dB {c : Call} {ta : TypeId} {s : ByteArray} (hw : gok G.ops l gd = true) (hdn : Nat.ble (d + 1) n = true) (hc : c.callee = .builtin .len) (ha : c.args.toList = [x]) (ht : c.argTypes.toList = [ta]) (hx : opv l x = some (.string s)) (hu : E.und ta = some .string)
 (h : SO E G (i + 1) r Q (fr n t ((d, .int .i64 ((s.data.toList.length : Nat) : Int)) :: l)) H0 A L) : SO E G i (⟨some d, .call c, ty, ps, af, gd⟩ :: r) Q (fr n t l) H0 A L :=
 eT hw rfl hdn (by simp only [jO, hc, ht, hu]) (fun H => by simp only [aop, hc, ha, ht, cG hx, aFd, hu, dL]) h
theorem rK {parts : Array (Nat × Operand)} {vs : List (Nat × Value)} {ta : TypeId} (hw : gok G.ops l gd = true) (hdn : Nat.ble (d + 1) n = true) (hp : Opps l parts.toList vs) (hb : aDr E ta vs = some v) (h : SO E G (i + 1) r Q (fr n t ((d, v) :: l)) H0 A L) :
 SO E G i (⟨some d, .build ta parts, ty, ps, af, gd⟩ :: r) Q (fr n t l) H0 A L :=
 eT hw rfl hdn rfl (fun H => by simp only [aop, hp.ok, hb, dL]) h
theorem cE {sT dT : TypeId} {ds : TypeDesc} {k k' : IntKind} {a b : Int} (hw : gok G.ops l gd = true) (hdn : Nat.ble (d + 1) n = true) (hx : opv l x = some (.int k' a)) (hs : E.und sT = some ds) (hd : E.und dT = some (.int k)) (hb : k.wrap a = b) (h : SO E G (i + 1) r Q (fr n t ((d, .int k b) :: l)) H0 A L) :
 SO E G i (⟨some d, .convert sT dT x, ty, ps, af, gd⟩ :: r) Q (fr n t l) H0 A L :=
 eT hw rfl hdn (by simp only [jO, hd]) (fun H => by simp only [aop, cG hx, qO, hs, hd, hb]) h
def wY (E : Env P) (S H0 : AH) (A0 A : Nat → Prop) (L : OL) (ty : TypeId) (a : Addr) (v : Value) : Prop := ∀ H, HS S H0 A0 A L H → lS E ty a H = some v
theorem gC {N off sz : Nat} {cs : List Value} {ex : Bool} {dd : TypeDesc} (hu : E.und ty = some dd) (hd : iT dd = false) (hm : (N, AObj.cells cs sz ex) ∈ L) (hv : cs[off]? = some v) : wY E S H0 A0 A L ty ⟨2 * N + 1, off, none⟩ v := fun H hH => by
 simp only [lS, hu, hd, cond_false]
 rw [aMz (hH.own _ hm).1, hv]
theorem bV {N off sz s : Nat} {cs xs : List Value} {ex : Bool} {dd : TypeDesc} {ii : TI} (hu : E.und ty = some dd) (hd : iT dd = true) (hi : E.inf ty = some ii) (hs : ii.size = s) (hm : (N, AObj.cells cs sz ex) ∈ L) (hle : off + s ≤ cs.length) (hv : (cs.drop off).take s = xs) : wY E S H0 A0 A L ty ⟨2 * N + 1, off, none⟩ (.agg ⟨xs⟩) := fun H hH => by
 simp only [lS, hu, hd, cond_true, hi, hs]
 rw [mD (hH.own _ hm).1 off s none hle, hv]
theorem cU {a : Addr} {dd : TypeDesc} (hu : E.und ty = some dd) (hd : iT dd = false) (hA : InA A a.block) (hl : aload H0 a = some v) : wY E S H0 A0 A L ty a v := fun H hH => by
 simp only [lS, hu, hd, cond_false]
 rw [hH.gr.aload hA, hl]
theorem cS {a : Addr} {dd : TypeDesc} {ii : TI} {s : Nat} {xs : List Value} (hu : E.und ty = some dd) (hd : iT dd = true) (hi : E.inf ty = some ii) (hs : ii.size = s) (hA : InA A a.block) (hl : aloads H0 a s = some xs) : wY E S H0 A0 A L ty a (.agg ⟨xs⟩) := fun H hH => by
 simp only [lS, hu, hd, cond_true, hi, hs]
 rw [hH.gr.aloads hA, hl]
theorem aV {a : Addr} {ta : TypeId} (hw : gok G.ops l gd = true) (hdn : Nat.ble (d + 1) n = true) (hx : opv l x = some (.pointer (some a))) (hl : wY E G.S (qH G H0) G.A0 (qA G A) (qL G L) ta a v) (h : SO E G (i + 1) r Q (fr n t ((d, v) :: l)) H0 A L) :
 SO E G i (⟨some d, .load ta x, ty, ps, af, gd⟩ :: r) Q (fr n t l) H0 A L :=
 aFc rfl hw rfl hdn (fun H hH => by simp only [aop, cG hx, hl H hH, dL]) h
theorem wZ {ta : TypeId} {lo hi mx : Option Operand} {s : ByteArray} {p q m : Nat} (hw : gok G.ops l gd = true) (hdn : Nat.ble (d + 1) n = true) (hx : opv l x = some (.string s)) (hu : E.und ta = some .string) (hmx : mx = none)
 (hb : lK s.data.toList.length s.data.toList.length (lo.map (fC (fr n t l))) (hi.map (fC (fr n t l))) none = some (p, q, m))
 (h : SO E G (i + 1) r Q (fr n t ((d, .string ⟨⟨(s.data.toList.take q).drop p⟩⟩) :: l)) H0 A L) : SO E G i (⟨some d, .slice ta x lo hi mx, ty, ps, af, gd⟩ :: r) Q (fr n t l) H0 A L :=
 aFc rfl hw rfl hdn (fun H hH => by subst hmx; simp only [aop, cG hx, aDs, hu, Option.map_none, hb, dL]) h
theorem wL {o : Oper} {f : Nat → Value} {ob : AObj} (hw : gok G.ops l o.guard = true) (hd : o.dst = some d) (hdn : Nat.ble (d + 1) n = true) (hm : G.D = true → i ∈ G.ms) (hop : ∀ H, HS G.S H0 G.A0 A L H → aop E (fC (fr n t l)) o.op H = some (f H.nx, jG H ob))
 (h : ∀ N, SO E G (i + 1) r Q (fr n t ((d, f N) :: l)) H0 A ((N, ob) :: L)) : SO E G i (o :: r) Q (fr n t l) H0 A L :=
 lQ hw hd hdn hm fun hD H hH => ⟨_, _, H0, A, (H.nx, ob) :: L, .inl (hop H hH), hH.push ob, hD.push _, h H.nx⟩
theorem aRw {ta : TypeId} {cs : List Value} (hw : gok G.ops l gd = true) (hdn : Nat.ble (d + 1) n = true) (hm : G.D = true → i ∈ G.ms) (hx : opv l x = some v) (hc : v.cells.toList = cs) (h : ∀ N, SO E G (i + 1) r Q (fr n t ((d, .pointer (some ⟨2 * N + 1, 0, none⟩)) :: l)) H0 A ((N, .cells cs (cI E ta) true) :: L)) :
 SO E G i (⟨some d, .box ta x, ty, ps, af, gd⟩ :: r) Q (fr n t l) H0 A L :=
 wL (f := fun N => .pointer (some ⟨2 * N + 1, 0, none⟩)) hw rfl hdn hm (fun H hH => by simp only [aop, cG hx, aJi, aHv, hc]) h
theorem cZ {ta : TypeId} {cs : List Value} (hw : gok G.ops l gd = true) (hdn : Nat.ble (d + 1) n = true) (hm : G.D = true → i ∈ G.ms) (hx : opv l x = some (.agg ⟨cs⟩)) (h : ∀ N, SO E G (i + 1) r Q (fr n t ((d, .pointer (some ⟨2 * N + 1, 0, none⟩)) :: l)) H0 A ((N, .cells cs (cI E ta) true) :: L)) :
 SO E G i (⟨some d, .box ta x, ty, ps, af, gd⟩ :: r) Q (fr n t l) H0 A L := aRw hw hdn hm hx rfl h
theorem aKo {ta : TypeId} (hw : gok G.ops l gd = true) (hdn : Nat.ble (d + 1) n = true) (hm : G.D = true → i ∈ G.ms) (hx : opv l x = some v) (hc : v.cells.toList = [v]) (h : ∀ N, SO E G (i + 1) r Q (fr n t ((d, .pointer (some ⟨2 * N + 1, 0, none⟩)) :: l)) H0 A ((N, .cells [v] (cI E ta) true) :: L)) :
 SO E G i (⟨some d, .box ta x, ty, ps, af, gd⟩ :: r) Q (fr n t l) H0 A L := aRw hw hdn hm hx hc h
theorem bR {ta : TypeId} {ii : TI} {zv : Value} {cs : List Value} (hw : gok G.ops l gd = true) (hdn : Nat.ble (d + 1) n = true) (hm : G.D = true → i ∈ G.ms) (hi : E.inf ta = some ii) (hz : ii.zero = some zv) (hc : (ext zv).cells.toList = cs) (h : ∀ N, SO E G (i + 1) r Q (fr n t ((d, .pointer (some ⟨2 * N + 1, 0, none⟩)) :: l)) H0 A ((N, .cells cs (cI E ta) true) :: L)) :
 SO E G i (⟨some d, .alloc ta, ty, ps, af, gd⟩ :: r) Q (fr n t l) H0 A L :=
 wL (f := fun N => .pointer (some ⟨2 * N + 1, 0, none⟩)) hw rfl hdn hm (fun H hH => by simp only [aop, aAo, hi, hz, aJi, aHv, hc]) h
theorem aM {ta e : TypeId} {len : Nat} {parts : Array (Nat × Operand)} {vs : List (Nat × Value)} {ii : TI} {zv : Value} {out : List Value} (hw : gok G.ops l gd = true) (hdn : Nat.ble (d + 1) n = true) (hm : G.D = true → i ∈ G.ms) (hp : Opps l parts.toList vs) (hu : E.und ta = some (.slice e)) (hi : E.inf e = some ii)
 (hb : (Nat.ble (len * ii.size) 16777216 && !(Nat.beq ii.size 0)) = true) (hz : ii.zero = some zv) (hf : tG (fun j => some (j * ii.size, ii.size)) (iN (nK (if len * ii.size = 0 then #[] else zv.cells) (len * ii.size))) vs = some out) (hl : Nat.beq out.length (len * ii.size) = true) {s : Nat} (hs : ii.size = s)
 (h : ∀ N, SO E G (i + 1) r Q (fr n t ((d, .slice (some ⟨2 * N + 1, 0, none⟩) len len) :: l)) H0 A ((N, .cells out s true) :: L)) : SO E G i (⟨some d, .buildSlice ta len parts, ty, ps, af, gd⟩ :: r) Q (fr n t l) H0 A L :=
 wL (f := fun N => .slice (some ⟨2 * N + 1, 0, none⟩) len len) hw rfl hdn hm (fun H hH => by subst hs; simp only [aop, hp.ok, iX, hu, hi, hb, cond_true, hz, hf, hl, iA]) h
theorem aGo {ta : TypeId} {N off sz : Nat} {cs cs' vs : List Value} {ex : Bool} {ii : TI} (hw : gok G.ops l gd = true) (hm : G.D = true → i ∈ G.ms) (hx : opv l x = some (.pointer (some ⟨2 * N + 1, off, none⟩))) (hy : opv l y = some v) (hi : E.inf ta = some ii) (hc : v.cells.toList = vs) (hs : vs.length = ii.size)
 (h1 : eF vs = true) (hu : Upd N (.cells cs sz ex) (.cells cs' sz ex) L L') (hcs : cs.take off ++ (vs ++ cs.drop (off + vs.length)) = cs') (hle : off + vs.length ≤ cs.length) (hD : G.D = true → G.Lw.Sublist L')
 (h : SO E G (i + 1) r Q (fr n t l) H0 A L') : SO E G i (⟨none, .store ta x y, ty, ps, af, gd⟩ :: r) Q (fr n t l) H0 A L :=
 aUm hw rfl hm fun hDs H hH => by
  refine ⟨undef, _, H0, A, L', .inl ?_, hH.set hu, hDs.list hD, h⟩
  have hg := (hH.own _ hu.mem).1
  have hb : Nat.beq vs.length ii.size = true := by rw [hs]; simp
  simp only [aop, cG hx, cG hy, oO, hi, hc, hb, cond_true]
  rw [aFx hg off none hle h1, hcs]
theorem aMb (h : v.oneCell' = true) : v.cells.toList = [v] := by
 cases v <;> first | rfl | (simp [Value.oneCell'] at h)
theorem fS {cs vs : List Value} (h : vs.length = cs.length) : cs.take 0 ++ (vs ++ cs.drop (0 + vs.length)) = vs := by
 rw [Nat.zero_add, h]; simp
theorem bX {ta : TypeId} {N off sz : Nat} {cs cs' vs : List Value} {ex : Bool} {ii : TI} (hw : gok G.ops l gd = true) (hm : G.D = true → i ∈ G.ms) (hx : opv l x = some (.pointer (some ⟨2 * N + 1, off, none⟩))) (hy : opv l y = some (.agg ⟨vs⟩)) (hi : E.inf ta = some ii) (hs : vs.length = ii.size)
 (h1 : eF vs = true) (hu : Upd N (.cells cs sz ex) (.cells cs' sz ex) L L') (hcs : cs.take off ++ (vs ++ cs.drop (off + vs.length)) = cs') (hle : off + vs.length ≤ cs.length) (hD : G.D = true → G.Lw.Sublist L')
 (h : SO E G (i + 1) r Q (fr n t l) H0 A L') : SO E G i (⟨none, .store ta x y, ty, ps, af, gd⟩ :: r) Q (fr n t l) H0 A L :=
 aGo hw hm hx hy hi rfl hs h1 hu hcs hle hD h
theorem dC {ta : TypeId} {N off sz : Nat} {cs cs' : List Value} {ex : Bool} {ii : TI} (hw : gok G.ops l gd = true) (hm : G.D = true → i ∈ G.ms) (hx : opv l x = some (.pointer (some ⟨2 * N + 1, off, none⟩))) (hy : opv l y = some v) (hi : E.inf ta = some ii) (hs : ii.size = 1)
 (h1 : v.oneCell' = true) (hu : Upd N (.cells cs sz ex) (.cells cs' sz ex) L L') (hcs : cs.take off ++ ([v] ++ cs.drop (off + 1)) = cs') (hle : off + 1 ≤ cs.length) (hD : G.D = true → G.Lw.Sublist L')
 (h : SO E G (i + 1) r Q (fr n t l) H0 A L') : SO E G i (⟨none, .store ta x y, ty, ps, af, gd⟩ :: r) Q (fr n t l) H0 A L :=
 aGo hw hm hx hy hi (aMb h1) (by rw [hs]; rfl) (by simp [eF, h1]) hu hcs hle hD h
theorem bF {c : Call} {g : FuncId} {vs : List Value} (hw : gok G.ops l gd = true) (hdn : Nat.ble (d + 1) n = true) (hm : G.D = true → i ∈ G.ms) (hc : c.callee = .value (.func g)) (hg : ∃ fn, E.fn g = some fn) (ha : Opvs l c.args.toList vs) (hk : ∀ H, HS G.S H0 G.A0 A L H → XCall P g vs H fun u H' => u = v ∧ Kept H.nx H H')
 (h : SO E G (i + 1) r Q (fr n t ((d, v) :: l)) H0 A L) : SO E G i (⟨some d, .call c, ty, ps, af, gd⟩ :: r) Q (fr n t l) H0 A L :=
 lQ hw rfl hdn hm fun hD H hH => by
  obtain ⟨fn, hg⟩ := hg
  obtain ⟨u, H', ⟨rfl, hkept⟩, hw0, hcall⟩ := hk H hH
  refine ⟨u, H', H0, A, L, .inr ⟨hw0, g, vs, ?_, hcall⟩, hH.later hkept, hD, h⟩
  simp only [fL, hc, pF, hg, ha.ok, List.append_nil, List.nil_append]
theorem aQt {c : Call} {g : FuncId} {vs : List Value} (T : Value → AH → (Nat → Prop) → Prop) (hw : gok G.ops l gd = true) (hdn : Nat.ble (d + 1) n = true) (hm : G.D = true → i ∈ G.ms) (hc : c.callee = .value (.func g)) (hg : ∃ fn, E.fn g = some fn) (ha : Opvs l c.args.toList vs)
 (hk : ∀ H, HS G.S H0 G.A0 A L H → XCall P g vs H fun u H' => Kept H.nx H H' ∧ T u H' fun j => A j ∨ (H.nx ≤ j ∧ j < H'.nx))
 (h : ∀ u H1 A1, Gr A H0 A1 H1 → T u H1 A1 → SO E G (i + 1) r Q (fr n t ((d, u) :: l)) H1 A1 L) : SO E G i (⟨some d, .call c, ty, ps, af, gd⟩ :: r) Q (fr n t l) H0 A L :=
 lQ hw rfl hdn hm fun hD H hH => by
  obtain ⟨fn, hg⟩ := hg
  obtain ⟨u, H', ⟨hkept, hT⟩, hw0, hcall⟩ := hk H hH
  have hgr : Gr A H0 (fun j => A j ∨ (H.nx ≤ j ∧ j < H'.nx)) H' := ⟨fun j hj => .inl hj, fun j hj => (hkept.get j (hH.lt j hj)).trans (hH.base j hj), hw0.trans hH.w0.symm⟩
  refine ⟨u, H', H', _, L, .inr ⟨hw0, g, vs, ?_, hcall⟩, hH.fresh hkept (fun j hj => hj), hD.fresh (H := H) hgr, h u H' _ hgr hT⟩
  simp only [fL, hc, pF, hg, ha.ok, List.append_nil, List.nil_append]
end
section
variable {P : Program} {E : Env P} {n : Nat} {t : Tr Value} {l : List (Nat × Value)} {S H0 : AH} {A0 A : Nat → Prop} {L : OL} {R : Value → AH → Prop} {rs : List ResultVar}
theorem aQ {xJ : ∀ (f : Nat) (F : Func), P.funcs[f]? = some F → (F.name == "runtime.NumGoroutine") = false} {eqT : Nat → Bool} {h : ∀ t, eqT t = true → P.stoodInHeld t = false ∧ P.eqGuardType P.depth t = false} {g : Nat} {F : Func} {c : Code} {n : Nat} {rs : List ResultVar} (hF : P.funcs[g]? = some F) (hb : F.body = some c) (hn : F.ntmps = n) (hr : F.results.toList = rs) :
 (Env.own P xJ eqT h).fn g = some ⟨n, rs, c⟩ := by
 simp only [Env.own, hF, hb, hn, hr]
theorem bN {g : FuncId} {c : Code} {args : List Value} (hg : E.fn g = some ⟨n, rs, c⟩) (hA : ∀ j, A0 j → j < S.nx) (hf : tY args n = fr n .nil l) (h : SX P c (aJg E rs R) (fr n .nil l) S A0 S A0 []) : XCall P g args S R :=
 XCall.body E hg (by rw [hf]; exact h S (HS.start hA))
inductive ResOk (E : Env P) (S H0 : AH) (A0 A : Nat → Prop) (L : OL) (l : List (Nat × Value)) : List ResultVar → List Value → Prop
 | nil : ResOk E S H0 A0 A L l [] []
 | tmp {s : Nat} {v : Value} {rs : List ResultVar} {vs : List Value} (h : look s l = some v) (k : ResOk E S H0 A0 A L l rs vs) : ResOk E S H0 A0 A L l (.tmp s :: rs) (v :: vs)
 | cell {s : Nat} {ty : TypeId} {a : Addr} {v : Value} {rs : List ResultVar} {vs : List Value} (h : look s l = some (.pointer (some a))) (hl : wY E S H0 A0 A L ty a v) (k : ResOk E S H0 A0 A L l rs vs) : ResOk E S H0 A0 A L l (.cell s ty :: rs) (v :: vs)
theorem ResOk.ok {vs : List Value} (h : ResOk E S H0 A0 A L l rs vs) {H : AH} (hH : HS S H0 A0 A L H) : eH E (fr n t l) H rs = some vs := by
 induction h with
 | nil => rfl
 | tmp h k ih => simp only [eH, wD, zV, h, ih]
 | cell h hl k ih => simp only [eH, wD, zV, h, hl H hH, ih]
theorem oL {vs : List Value} (hr : ResOk E S H0 A0 A L l rs vs) {v : Value} (hv : fB vs = v) (h : ∀ H, HS S H0 A0 A L H → R v H) : SK (aJg E rs R) .ret (fr n t l) S A0 H0 A L := fun H hH => ⟨.inr rfl, vs, hr.ok hH, by rw [hv]; exact h H hH⟩
theorem lZ {vs : List Value} (hr : ResOk E S H0 A0 A L l rs vs) {v : Value} (hv : fB vs = v) (h : ∀ H, HS S H0 A0 A L H → R v H) : SK (aJg E rs R) .normal (fr n t l) S A0 H0 A L := fun H hH => ⟨.inl rfl, vs, hr.ok hH, by rw [hv]; exact h H hH⟩
theorem aE {r : ResultVar} {v : Value} (hr : ResOk E S H0 A0 A L l [r] [v]) (h : ∀ H, HS S H0 A0 A L H → R v H) : SK (aJg E [r] R) .ret (fr n t l) S A0 H0 A L := oL hr rfl h
theorem dX {r r' : ResultVar} {v v' : Value} (hr : ResOk E S H0 A0 A L l [r, r'] [v, v']) (h : ∀ H, HS S H0 A0 A L H → R (.tuple ⟨[v, v']⟩) H) : SK (aJg E [r, r'] R) .ret (fr n t l) S A0 H0 A L := oL hr rfl h
end
end Go.AM
namespace Go.AM
open Go.RowKit
section
variable {A : Nat → Prop} {H : AH}
structure RowD (A : Nat → Prop) (H : AH) (b : Nat) (ks : List Kd) (l : List (List CT)) (a : Option Addr) (cap : Nat) : Prop where
 len : l.length ≤ 140737488351232
 bytes : l.length * b ≤ 140737488351232
 le : l.length ≤ cap
 nil : a = none → cap = 0
 inA : ∀ p, a = some p → InA A p.block
 sz : ∀ p, a = some p → SzA H p ks.length
 at' : ∀ (i : Nat), i < l.length → ∃ p xs c, a = some p ∧ InA A p.block ∧ l[i]? = some c ∧ aloads H (p.add (i * ks.length)) ks.length = some xs ∧ CellsA A H ks xs c
theorem CellA.rowD {b : Nat} {ks : List Kd} {x : Value} {c : CT} (h : CellA A H (.row b ks) x c) : ∃ l a cap, c = .row l ∧ x = .slice a l.length cap ∧ RowD A H b ks l a cap := by
 obtain ⟨l, rfl, h1, h2, ⟨rfl, rfl⟩ | ⟨a, cap, rfl, q1, q2, q3⟩⟩ := h.row
 ·exact ⟨[], none, 0, rfl, rfl, h1, h2, Nat.le_refl _, fun _ => rfl, (fun p h => by cases h), (fun p h => by cases h), fun i hi => absurd hi (Nat.not_lt_zero _)⟩
 ·refine ⟨l, some a, cap, rfl, rfl, h1, h2, q1, (fun h => by cases h), (fun p h => by cases h; exact q2.1), (fun p h => by cases h; exact q2.2), fun i hi => ?_⟩
  obtain ⟨xs, r1, r2⟩ := q3 i l[i] (List.getElem?_eq_getElem hi)
  exact ⟨a, xs, l[i], rfl, q2.1, List.getElem?_eq_getElem hi, r1, r2⟩
theorem RowD.gr {A' : Nat → Prop} {H' : AH} {b : Nat} {ks : List Kd} {l : List (List CT)} {a : Option Addr} {cap : Nat} (h : RowD A H b ks l a cap) (g : Gr A H A' H') : RowD A' H' b ks l a cap :=
 ⟨h.len, h.bytes, h.le, h.nil, fun p hp => g.inA (h.inA p hp), fun p hp => g.szA (h.inA p hp) (h.sz p hp), fun i hi => by
  obtain ⟨p, xs, c, h1, h2, h3, h4, h5⟩ := h.at' i hi
  exact ⟨p, xs, c, h1, g.inA h2, h3, by rw [g.aloads (by rw [gG]; exact h2)]; exact h4, h5.gr g⟩⟩
theorem RowD.cell {b : Nat} {ks : List Kd} {l : List (List CT)} {a : Option Addr} {cap : Nat} (h : RowD A H b ks l a cap) : CellA A H (.row b ks) (.slice a l.length cap) (.row l) := by
 simp only [CellA]
 refine ⟨h.len, h.bytes, ?_⟩
 cases a with
 | none =>
  left
  have : l.length = 0 := by
   cases e : l.length with
   | zero => rfl
   | succ n =>
    obtain ⟨p, xs, c, h1, _⟩ := h.at' 0 (by omega)
    cases h1
  have hl : l = [] := List.eq_nil_of_length_eq_zero this
  rw [h.nil rfl, this]; exact ⟨rfl, hl⟩
 | some p =>
  right
  refine ⟨p, cap, rfl, h.le, ⟨h.inA p rfl, h.sz p rfl⟩, fun i c hc => ?_⟩
  obtain ⟨p', xs, c', h1, h2, h3, h4, h5⟩ := h.at' i (lt_of_getElem? hc)
  cases h1
  rw [h3] at hc; cases hc
  exact ⟨xs, h4, h5⟩
end
theorem cH {off n m : Nat} {x : Nat → Value} {cs : List Value} (h : Nat.ble (off + n) m = true) (hc : cs.length = m) : off + (cellsOf n x).length ≤ cs.length := by
 rw [aU, hc]; exact Nat.le_of_ble_eq_true h
def dJ (n : Nat) (c : Nat → CT) : List CT := (List.range n).map c
theorem aQa {cs : List CT} {n : Nat} (h : cs.length = n) : ∃ c : Nat → CT, cs = dJ n c := by
 refine ⟨fun i => cs.getD i (.row []), ?_⟩
 apply List.ext_getElem
 ·simp [dJ, h]
 ·intro i h1 h2
  simp [dJ, h1]
theorem jL {n i : Nat} {c : Nat → CT} (h : i < n) : (dJ n c)[i]? = some (c i) := by simp [dJ, h]
theorem pV (n : Nat) (c : Nat → CT) : (dJ n c).length = n := by simp [dJ]
section
variable {A A' : Nat → Prop} {H H' : AH}
def Pts (A : Nat → Prop) (H : AH) (ks : List Kd) (x : Nat → Value) (c : Nat → CT) : Prop := ∀ i k, ks[i]? = some k → CellA A H k (x i) (c i)
theorem Pts.gr {ks : List Kd} {x : Nat → Value} {c : Nat → CT} (h : Pts A H ks x c) (g : Gr A H A' H') : Pts A' H' ks x c := fun i k hk => CellA.gr g _ _ _ (h i k hk)
theorem CellsA.pts {ks : List Kd} {x : Nat → Value} {c : Nat → CT} {n : Nat} (h : CellsA A H ks (cellsOf n x) (dJ n c)) : Pts A H ks x c := fun i k hk => by
 have hi := lt_of_getElem? hk
 have hn := h.len.1
 rw [aU] at hn
 exact h.at hk (cB (by simp [Nat.blt]; omega)) (jL (by omega))
theorem Pts.cells {ks : List Kd} {x : Nat → Value} {c : Nat → CT} {n : Nat} (h : Pts A H ks x c) (hn : ks.length = n) : CellsA A H ks (cellsOf n x) (dJ n c) := by
 refine CellsA.mk (by rw [aU, hn]) (by rw [pV, hn]) fun i k y d h1 h2 h3 => ?_
 have hi := lt_of_getElem? h1
 rw [cB (by simp [Nat.blt]; omega)] at h2
 rw [jL (by omega)] at h3
 cases h2; cases h3
 exact h i k h1
theorem CellsA.fn {ks : List Kd} {xs : List Value} {cs : List CT} {n : Nat} (h : CellsA A H ks xs cs) (hn : ks.length = n) : ∃ x c, xs = cellsOf n x ∧ cs = dJ n c ∧ Pts A H ks x c := by
 obtain ⟨x, rfl⟩ := aJo (h.len.1.trans hn)
 obtain ⟨c, rfl⟩ := aQa (h.len.2.trans hn)
 exact ⟨x, c, rfl, rfl, h.pts⟩
theorem Pts.part {ks : List Kd} {x : Nat → Value} {c : Nat → CT} (h : Pts A H ks x c) (off m : Nat) (hm : Nat.ble (off + m) ks.length = true) : CellsA A H ((ks.drop off).take m) (cellsOf m fun i => x (off + i)) (dJ m fun i => c (off + i)) := by
 have hm' := Nat.le_of_ble_eq_true hm
 refine Pts.cells (fun i k hk => ?_) (by simp; omega)
 rw [List.getElem?_take] at hk
 split at hk
 ·rw [List.getElem?_drop] at hk
  exact h _ k hk
 ·cases hk
end
section
variable {A : Nat → Prop} {H : AH}
theorem wC {N sz : Nat} {cs : List Value} {ex : Bool} (hg : H.tr.get N = some (.cells cs sz ex)) (hA : A N) {b : Nat} {ks : List Kd} (hk : ks.length = sz) {l : List (List CT)} {m cap : Nat} (hm : m = l.length) (hlen : l.length * sz ≤ cs.length)
 (h : ∀ (i : Nat) c, l[i]? = some c → CellsA A H ks ((cs.drop (i * sz)).take sz) c) (hcap : l.length ≤ cap) (h1 : l.length ≤ 140737488351232) (h2 : l.length * b ≤ 140737488351232) : CellA A H (.row b ks) (.slice (some ⟨2 * N + 1, 0, none⟩) m cap) (.row l) := by
 subst hm
 simp only [CellA]
 refine ⟨h1, h2, .inr ⟨_, cap, rfl, hcap, ⟨InA.own hA, fun _ => ⟨cs, ex, by rw [lO, hk]; exact hg⟩⟩, fun i c hc => ?_⟩⟩
 have hi := lt_of_getElem? hc
 refine ⟨_, ?_, h i c hc⟩
 rw [rG _ rfl, hk, mD hg]
 ·simp only [Nat.zero_add]
 ·simp only [Nat.zero_add]
  have : (i + 1) * sz ≤ l.length * sz := Nat.mul_le_mul_right _ hi
  rw [Nat.add_mul, Nat.one_mul] at this
  omega
end
def CT.str : CT → List UInt8
 | .v (.string s) => s.data.toList
 | _ => []
inductive OpO (l : List (Nat × Value)) : Option Operand → Option Value → Prop
 | none : OpO l none none
 | some {x : Operand} {v : Value} (h : opv l x = some v) : OpO l (some x) (some v)
theorem aBb {len cap a b : Nat} {k k' : IntKind} (h1 : a ≤ b) (h2 : b ≤ cap) : lK len cap (some (.int k (a : Int))) (some (.int k' (b : Int))) none = some (a, b, cap) := by
 have e1 : iY none cap cap = some cap := rfl
 have e2 : iY (some (Value.int k' (b : Int))) 0 cap = some b := by simp only [iY]; rw [if_pos ⟨by omega, by omega⟩]; simp
 have e3 : iY (some (Value.int k (a : Int))) 0 b = some a := by simp only [iY]; rw [if_pos ⟨by omega, by omega⟩]; simp
 simp only [lK, e1, e2, e3]
theorem aLn {len cap b : Nat} {k' : IntKind} (h2 : b ≤ cap) : lK len cap none (some (.int k' (b : Int))) none = some (0, b, cap) := by
 have e1 : iY none cap cap = some cap := rfl
 have e2 : iY (some (Value.int k' (b : Int))) 0 cap = some b := by simp only [iY]; rw [if_pos ⟨by omega, by omega⟩]; simp
 have e3 : iY none 0 b = some 0 := rfl
 simp only [lK, e1, e2, e3]
section
variable {P : Program} {E : Env P} {G : RG} {i n d : Nat} {r : List Oper} {Q : Fr → AH → Prop} {t : Tr Value} {l : List (Nat × Value)} {S H0 : AH} {A0 A : Nat → Prop} {L L' : OL} {v u : Value}
 {ty : TypeId} {ps : String} {af : Array Edge} {gd : Option (Nat × Bool)} {x y z : Operand}
end
end Go.AM
namespace Go.AM
open Go.RowKit
theorem aLs [Pins] {P : Program} (E : Env P) {φ : List Place} {H H' : AH} {w : World} (R : Rel φ H w) {ρ ρ' : Operand → Value} (hρ : ∀ x, VR φ (ρ x) (ρ' x)) {o : Oper} {v : Value} (hq : gV E o.op = true) (h : aop E ρ o.op H = some (v, H')) :
 ∃ v', VR φ v v' ∧ (execOp ρ' o).run P w = .ok (.value v') w := by
 have here : ∀ {v v' : Value}, VR φ v v' → (execOp ρ' o).run P w = .ok (.value v') w → ∃ v', VR φ v v' ∧ (execOp ρ' o).run P w = .ok (.value v') w := fun hv hr => ⟨_, hv, hr⟩
 unfold aop at h
 split at h <;> rename_i hop <;> first | (rw [hop] at hq; simp only [gV] at hq; cases hq; done) | (cases h; done) | rw [hop] at hq
 ·cases h; exact here (hρ _) (by simp [execOp, hop])
 ·cases h; exact here (hρ _) (by simp [execOp, hop])
 ·rename_i c a b
  split at h
  ·rename_i hc
   cases h
   have := hρ c; rw [hc] at this
   generalize hcc : ρ' c = cc at this
   cases this
   exact here (hρ _) (by simp [execOp, hop, hcc, asBool])
  ·rename_i hc
   cases h
   have := hρ c; rw [hc] at this
   generalize hcc : ρ' c = cc at this
   cases this
   exact here (hρ _) (by simp [execOp, hop, hcc, asBool])
  ·cases h
 ·rename_i t ps
  obtain ⟨hh, rfl⟩ := bI h
  replace h := hh
  obtain ⟨v', h1, h2⟩ := aCw E (parts' := ps.toList.map fun x => (x.1, ρ' x.2)) (by simp) (aAg hρ ps.toList) h w
  refine here h1 ?_
  have : (ps.map fun (x : Nat × Operand) => (x.1, ρ' x.2)) = ⟨ps.toList.map fun x => (x.1, ρ' x.2)⟩ := by rw [← Array.toList_inj]; simp
  simp only [execOp, hop, Sem.run_bind, this, h2, Result.andThen_ok, Sem.run_pure]
 ·rename_i t x
  split at h
  ·rename_i a ha
   obtain ⟨hh, rfl⟩ := bI h
   replace h := hh
   have := hρ x; rw [ha] at this
   generalize hcc : ρ' x = cc at this
   cases this with
   | ptr hA =>
    obtain ⟨v', h1, h2⟩ := rI E R hA h
    exact here h2 (by simp [execOp, hop, hcc, Instr.loadAt, Instr.sureAddr, h1])
  ·cases h
 ·rename_i x
  split at h
  ·rename_i a ha
   cases h
   have := hρ x; rw [ha] at this
   generalize hcc : ρ' x = cc at this
   cases this with
   | ptr hA => exact here (.ptr hA) (by simp [execOp, hop, hcc])
  ·rename_i g a b ha
   cases h
   have := hρ x; rw [ha] at this
   generalize hcc : ρ' x = cc at this
   cases this with
   | func fn q1 q2 q3 q4 => exact here (.func _ q1 q2 q3 q4) (by simp [execOp, hop, hcc])
  ·cases h
 ·rename_i op t x y yt
  obtain ⟨hh, rfl⟩ := bI h
  replace h := hh
  obtain ⟨v', h1, h2⟩ := aLb E (hρ x) (hρ y) h x y w
  refine here h1 ?_
  simp only [execOp, hop]
  rw [Sem.run_bind, h2]; rfl
 ·rename_i op t x
  obtain ⟨hh, rfl⟩ := bI h
  replace h := hh
  obtain ⟨v', h1, h2⟩ := aOq (P := P) (hρ x) h w
  exact here h1 (by simp [execOp, hop, h2])
 ·rename_i s d x
  simp only [gV] at hq
  split at hq
  ·rename_i kk hd
   have hx := hρ x
   unfold qO at h
   split at h
   ·rename_i dd k k2 n hs hd2 hxx
    cases h
    rw [hxx] at hx
    generalize hcc : ρ' x = cc at hx
    cases hx
    refine here (.int _ _) ?_
    simp only [execOp, hop, hcc]
    cases dd <;> simp [convert, bM E hs, bM E hd2, Conv.intToInt]
   ·rename_i hd2 _ ; rw [hd] at hd2; cases hd2
   ·rename_i hd2 _ ; rw [hd] at hd2; cases hd2
   ·rename_i hd2 _ ; rw [hd] at hd2; cases hd2
   ·rename_i hd2 _; rw [hd] at hd2; cases hd2
   ·first | (rename_i hd2 _; rw [hd] at hd2; cases hd2; done) | (rename_i hd2; rw [hd] at hd2; cases hd2; done)
   ·first | (rename_i hd2 _; rw [hd] at hd2; cases hd2; done) | (rename_i hd2; rw [hd] at hd2; cases hd2; done)
   ·cases h
  ·cases hq
 ·rename_i fn a b
  cases h
  have va := lH hρ a.toList
  have vb := lH hρ b.toList
  refine here (.func fn va.1 vb.1 va.2 vb.2) ?_
  have e1 : a.map ρ' = ⟨a.toList.map ρ'⟩ := by rw [← Array.toList_inj]; simp
  have e2 : b.map ρ' = ⟨b.toList.map ρ'⟩ := by rw [← Array.toList_inj]; simp
  simp only [execOp, hop, Instr.makeFunc, e1, e2, Sem.run_bind, Sem.run_pure, Result.andThen_ok]
 ·rename_i t x lo hi mx
  obtain ⟨hh, rfl⟩ := bI h
  replace h := hh
  obtain ⟨v', h1, h2⟩ := aCj E R (hρ x) (wR hρ lo) (wR hρ hi) (wR hρ mx) h
  exact here h1 (by simp [execOp, hop, h2])
 ·rename_i s x f
  obtain ⟨hh, rfl⟩ := bI h
  replace h := hh
  obtain ⟨v', h1, h2⟩ := tO E (hρ x) h w
  exact here h1 (by simp [execOp, hop, h2])
 ·rename_i s x f
  obtain ⟨hh, rfl⟩ := bI h
  replace h := hh
  obtain ⟨v', h1, h2⟩ := aCv E (hρ x) h w
  exact here h1 (by simp [execOp, hop, h2])
 ·rename_i t x ix
  obtain ⟨hh, rfl⟩ := bI h
  replace h := hh
  obtain ⟨v', h1, h2⟩ := tN E (hρ x) (hρ ix) h w
  exact here h1 (by simp [execOp, hop, h2])
 ·rename_i t x ix
  obtain ⟨hh, rfl⟩ := bI h
  replace h := hh
  obtain ⟨v', h1, h2⟩ := aCc E (hρ x) (hρ ix) h w
  exact here h1 (by simp [execOp, hop, h2])
 ·rename_i t x ix ok
  obtain ⟨hh, rfl⟩ := bI h
  replace h := hh
  obtain ⟨v', h1, h2⟩ := xY E R (hρ x) (hρ ix) h
  exact here h1 (by simp [execOp, hop, h2])
 ·rename_i x i
  obtain ⟨hh, rfl⟩ := bI h
  replace h := hh
  obtain ⟨v', h1, h2⟩ := xS (P := P) (hρ x) h w
  exact here h1 (by simp [execOp, hop, h2])
 ·rename_i c
  simp only [gV] at hq
  split at h <;> rename_i hcal <;> first | (rw [hcal] at hq; simp only at hq; cases hq; done) | (cases h; done) | skip
  ·split at h
   ·rename_i x t hargs htys
    obtain ⟨hh, rfl⟩ := bI h
    replace h := hh
    obtain ⟨v', h1, h2⟩ := aLc E R (ty := o.type) (hρ x) h
    have e1 : c.args = #[x] := by rw [← Array.toList_inj, hargs]
    have e2 : c.argTypes = #[t] := by rw [← Array.toList_inj, htys]
    refine here h1 ?_
    simp [execOp, hop, resolve, hcal, invoke, builtin, e1, e2, h2]
   ·cases h
  ·split at h
   ·rename_i x t hargs htys
    obtain ⟨hh, rfl⟩ := bI h
    replace h := hh
    obtain ⟨v', h1, h2⟩ := aJs E R (ty := o.type) (hρ x) h
    have e1 : c.args = #[x] := by rw [← Array.toList_inj, hargs]
    have e2 : c.argTypes = #[t] := by rw [← Array.toList_inj, htys]
    refine here h1 ?_
    simp [execOp, hop, resolve, hcal, invoke, builtin, e1, e2, h2]
   ·cases h
  ·split at h
   ·rename_i x r hargs
    obtain ⟨hh, rfl⟩ := bI h
    replace h := hh
    obtain ⟨v', h1, h2⟩ := yP (P := P) false (r.map ρ) (r.map ρ') _ _ v (hρ x) (lH hρ r) h w
    refine here h1 ?_
    simp only [Bool.false_eq_true, if_false] at h2
    simp [execOp, hop, resolve, hcal, invoke, builtin, Builtin.min_, hargs, h2]
   ·cases h
  ·split at h
   ·rename_i x r hargs
    obtain ⟨hh, rfl⟩ := bI h
    replace h := hh
    obtain ⟨v', h1, h2⟩ := yP (P := P) true (r.map ρ) (r.map ρ') _ _ v (hρ x) (lH hρ r) h w
    refine here h1 ?_
    simp only [if_true] at h2
    simp [execOp, hop, resolve, hcal, invoke, builtin, Builtin.max_, hargs, h2]
   ·cases h
end Go.AM
namespace Go.AM
open Go.RowKit
def mkV : Option Nat → Nat → Value
 | none, b => .pointer (some ⟨b, 0, none⟩)
 | some n, b => .slice (some ⟨b, 0, none⟩) n n
def aOh [π : Pins] (w : World) (N0 : Nat) (φ : List Place) (H : AH) (k : Option Nat) (o : AObj) (b : Nat) : Prop :=
 N0 ≤ b ∧ (∃ x tot sz, w.heap[b]? = some x ∧ (∀ n, k = some n → n * esz sz ≤ tot) ∧ ∀ ψ, φ <+: ψ → ORel ψ ⟨b, 0, tot, sz⟩ o (some x)) ∧ (∀ (i : Nat) p, φ[i]? = some p → p.blk ≠ b) ∧ ∀ b' x, π.pin b' = some x → b' ≠ b
theorem Rel.pushOld [Pins] {φ : List Place} {H : AH} {w : World} {k : Option Nat} {o : AObj} {b : Nat} (R : Rel φ H w) (h : aOh w H.w0.heap.size φ H k o b) : ∃ p : Place, p.blk = b ∧ p.base = 0 ∧ (∀ n, k = some n → n * esz p.sz ≤ p.tot) ∧ Rel (φ ++ [p]) (jG H o) w := by
 obtain ⟨hN, ⟨x, tot, sz, hx, hk, hO⟩, hd, hpn⟩ := h
 have hpre : φ <+: φ ++ [⟨b, 0, tot, sz⟩] := ⟨_, rfl⟩
 refine ⟨⟨b, 0, tot, sz⟩, rfl, rfl, hk, R.below, by simp [jG, R.len], fun i o' hi => ?_, fun i j o1 o2 p q hi hj hp hq e => ?_, fun b' y hb' => ⟨(R.pin b' y hb').1, tU R b' y hb' (fun e => hpn b' y hb' e.symm)⟩, xI R.lt (Nat.le_refl _) (alt_of_getElem? hx)⟩
 ·by_cases hin : i = H.nx
  ·subst hin
   simp only [jG, Tr.get_set_same] at hi
   cases hi
   refine ⟨⟨b, 0, tot, sz⟩, by rw [← R.len]; simp, hN, ?_⟩
   rw [hx]; exact hO _ hpre
  ·simp only [jG, Tr.get_set_ne _ _ hin] at hi
   obtain ⟨p, hp, hN, hO⟩ := R.obj i o' hi
   exact ⟨p, getElem?_prefix hpre hp, hN, hO.mono hpre⟩
 ·have hi_lt : ∀ i o, H.tr.get i = some o → i < H.nx := by
   intro i o hi
   obtain ⟨q, hq, _⟩ := R.obj i o hi
   rw [← R.len]; exact lt_of_getElem? hq
  have back : ∀ i o', (H.tr.set H.nx (some o)).get i = some o' → i ≠ H.nx → H.tr.get i = some o' := fun i o' h hne => by rwa [Tr.get_set_ne _ _ hne] at h
  have pl : ∀ i p, i < H.nx → (φ ++ [(⟨b, 0, tot, sz⟩ : Place)])[i]? = some p → φ[i]? = some p := by
   intro i p hl hp
   rwa [List.getElem?_append_left (by rw [R.len]; exact hl)] at hp
  have pn : ∀ p, (φ ++ [(⟨b, 0, tot, sz⟩ : Place)])[H.nx]? = some p → p.blk = b := by
   intro p hp
   rw [← R.len] at hp; simp at hp; subst hp; rfl
  by_cases h1 : i = H.nx <;> by_cases h2 : j = H.nx
  ·omega
  ·have hj' := back j o2 hj h2
   subst h1
   exact absurd (e.symm.trans (pn p hp)) (hd j q (pl j q (hi_lt j o2 hj') hq))
  ·have hi' := back i o1 hi h1
   subst h2
   exact absurd (e.trans (pn q hq)) (hd i p (pl i p (hi_lt i o1 hi') hp))
  ·have hi' := back i o1 hi h1
   have hj' := back j o2 hj h2
   exact R.inj i j o1 o2 p q hi' hj' (pl i p (hi_lt i o1 hi') hp) (pl j q (hi_lt j o2 hj') hq) e
theorem aLp {P : Program} (E : Env P) {ty : TypeId} {ii : TI} {z : Value} (hi : E.inf ty = some ii) (hz : ii.zero = some z) {o : Oper} (hop : o.op = .alloc ty) (ρ : Operand → Value) (w : World) :
 ∃ x, (execOp ρ o).run P w = .ok (.value (.pointer (some ⟨w.heap.size, 0, none⟩))) (w.alloc x) ∧ ∃ tot, ∀ ψ, ORel ψ ⟨w.heap.size, 0, tot, cI E ty⟩ (.cells (ext z).cells.toList (cI E ty) true) (some x) := by
 refine ⟨.cells z.cells ty, ?_, z.cells.size, fun ψ => ?_⟩
 ·simp [execOp, hop, Instr.alloc, eC E hi hz, newVar, newRow]
 ·have hc := (VR.ext ψ z).cells
  refine ⟨z.cells, ty, 0, 0, rfl, fun k _ => by omega, rfl, ⟨rfl, aKe E ty, fun _ => rfl⟩, ?_, fun _ => ?_, ?_⟩
  ·rw [hc.1]; simp
  ·rw [hc.1]; simp
  ·have e : ((z.cells.toList.drop 0).take (ext z).cells.toList.length) = z.cells.toList := by rw [hc.1, List.drop_zero, List.take_length]
   rw [e]; exact hc
theorem aTj {φ : List Place} {n : Nat} (hn : φ.length = n) (p : Place) (hp : p.base = 0) {k : Option Nat} (hk : ∀ m, k = some m → m * esz p.sz ≤ p.tot) : VR (φ ++ [p]) (mkV k (2 * n + 1)) (mkV k p.blk) := by
 cases k with
 | none => exact .ptr (ARel.new φ n hn p hp)
 | some m => exact .slc (SRel.new hn p hp (Nat.le_refl _) (Nat.le_refl _) (hk m rfl))
def aAb (P : Program) (o : Oper) (ρ : Operand → Value) (k : Option Nat) (ob : AObj) : Prop :=
 ∀ (ρ' : Operand → Value) (w : World) (φ : List Place), (∀ x ∈ o.op.operands, VR φ (ρ x) (ρ' x)) → ∃ x tot sz, (execOp ρ' o).run P w = .ok (.value (mkV k w.heap.size)) (w.alloc x) ∧ (∀ n, k = some n → n * esz sz ≤ tot) ∧ ∀ ψ, φ <+: ψ → ORel ψ ⟨w.heap.size, 0, tot, sz⟩ ob (some x)
theorem aLl {P : Program} (E : Env P) {ty : TypeId} {ii : TI} {z : Value} (hi : E.inf ty = some ii) (hz : ii.zero = some z) {o : Oper} (hop : o.op = .alloc ty) (ρ : Operand → Value) : aAb P o ρ none (.cells (ext z).cells.toList (cI E ty) true) := fun ρ' w φ _ => by
 obtain ⟨x, h1, tot, h2⟩ := aLp E hi hz hop ρ' w
 exact ⟨x, tot, cI E ty, h1, (fun n h => by cases h), fun ψ _ => h2 ψ⟩
structure TraceF {P : Program} (E : Env P) (ops : Array Oper) (F : Nat → Fr) (HH : Nat → AH) (V : Nat → Value) (M Fl : Nat → Bool) : Prop extends Trace0 ops F V where
 step : ∀ (i : Nat) o, ops[i]? = some o → Fl i = false →
  (dI ops (fQ (F i)) o = false ∧ V i = undef ∧ M i = false) ∨
  (dI ops (fQ (F i)) o = true ∧ M i = false ∧ gV E o.op = true ∧ ∀ t, t ≤ ops.size → (∀ j, j < ops.size → M j = true → ((bef ops).getD i 0).testBit j = true → j < t) →
   (∀ j, j < ops.size → M j = true → ((bef ops).getD j 0).testBit i = true → t ≤ j) → aop E (fC (F i)) o.op (HH t) = some (V i, HH t)) ∨
  (dI ops (fQ (F i)) o = true ∧ M i = true ∧ aop E (fC (F i)) o.op (HH i) = some (V i, HH (i + 1))) ∨
  (dI ops (fQ (F i)) o = true ∧ M i = true ∧ ∃ g args, fL E (fC (F i)) o.op = some (g, args) ∧ ACalls P g args (HH i) fun v H' => v = V i ∧ H' = HH (i + 1))
 flop : ∀ (i : Nat) o, ops[i]? = some o → Fl i = true → M i = true ∧ dI ops (fQ (F i)) o = true ∧ ∃ d k ob, o.dst = some d ∧ V i = mkV k (2 * (HH i).nx + 1) ∧ HH (i + 1) = jG (HH i) ob ∧ aAb P o (fC (F i)) k ob
 still : ∀ i, i < ops.size → M i = false → HH (i + 1) = HH i
 mains : ∀ i j, i < j → j < ops.size → M i = true → M j = true → ((bef ops).getD j 0).testBit i = true ∨ Fl j = true
 all : ∀ k i j, k < ops.size → i < ops.size → j < i → Fl k = false → Fl i = true → M j = true → ((bef ops).getD k 0).testBit i = true → ((bef ops).getD k 0).testBit j = true
 nofl : ∀ i j, i < ops.size → j < ops.size → Fl i = true → Fl j = true → ((bef ops).getD i 0).testBit j = false
section
variable {P : Program} {E : Env P} {ops : Array Oper} {F : Nat → Fr} {HH : Nat → AH} {V : Nat → Value} {M Fl : Nat → Bool}
def Pd (Fl : Nat → Bool) (S : Nat → Bool) (t j : Nat) : Prop := Fl j = true ∧ S j = true ∧ t ≤ j
structure InvC [Pins] (ops : Array Oper) (F : Nat → Fr) (HH : Nat → AH) (V : Nat → Value) (M Fl S : Nat → Bool) (φ' : List Place) (t : Nat) (bl : Nat → Nat) (a : Act) (w : World) : Prop where
 le : t ≤ ops.size
 rel : Rel φ' (HH t) w
 pre : ∀ j, j < ops.size → M j = true → j < t → S j = true
 post : ∀ j, j < ops.size → M j = true → t ≤ j → S j = true → Fl j = true
 slots : ∀ d, (∀ j o, ops[j]? = some o → Pd Fl S t j → o.dst ≠ some d) → VR φ' (nO (F 0) ops V S ops.size d) (a.tmps.getD d undef)
 pend : ∀ j o, ops[j]? = some o → Pd Fl S t j → ∃ ob k, HH (j + 1) = jG (HH j) ob ∧ V j = mkV k (2 * (HH j).nx + 1) ∧ aOh w (HH 0).w0.heap.size φ' (HH t) k ob (bl j) ∧ ∃ d, o.dst = some d ∧ a.tmps.getD d undef = mkV k (bl j)
 inj : ∀ i j, i < ops.size → j < ops.size → Pd Fl S t i → Pd Fl S t j → bl i = bl j → i = j
 dep : ∀ k j, k < ops.size → j < ops.size → S k = true → Pd Fl S t j → ((bef ops).getD k 0).testBit j = false
theorem InvC.normal [Pins] (T : TraceF E ops F HH V M Fl) (hw0 : ∀ i, i < ops.size → (HH (i + 1)).w0 = (HH i).w0) {S : Nat → Bool} (hS : mJ ops S) {a : Act} {w : World} : ∀ (n t : Nat) (φ' : List Place) (bl : Nat → Nat), ops.size - t = n → InvC ops F HH V M Fl S φ' t bl a w →
 ∃ φ2 t2, φ' <+: φ2 ∧ InvC ops F HH V M Fl S φ2 t2 bl a w ∧ (t2 = ops.size ∨ (t2 < ops.size ∧ M t2 = true ∧ S t2 = false)) := by
 intro n
 induction n with
 | zero => intro t φ' bl hn hI; have := hI.le; exact ⟨φ', t, List.prefix_refl _, hI, .inl (by omega)⟩
 | succ n ih =>
  intro t φ' bl hn hI
  have hlt : t < ops.size := by omega
  have ho : ops[t]? = some ops[t] := Array.getElem?_eq_getElem hlt
  cases hM : M t with
  | false =>
   have hne : ∀ j, Fl j = true → j < ops.size → j ≠ t := by
    intro j hF hj e; subst e
    have := (T.flop j _ ho hF).1; rw [hM] at this; cases this
   have hpd : ∀ j, j < ops.size → (Pd Fl S (t + 1) j ↔ Pd Fl S t j) := by
    intro j hj
    constructor
    ·rintro ⟨h1, h2, h3⟩; exact ⟨h1, h2, by omega⟩
    ·rintro ⟨h1, h2, h3⟩; have := hne j h1 hj; exact ⟨h1, h2, by omega⟩
   have hH := T.still t hlt hM
   refine ih (t + 1) φ' bl (by omega) ⟨by omega, by rw [hH]; exact hI.rel, fun j hj hMj hjt => ?_, fun j hj hMj hjt => hI.post j hj hMj (by omega), fun d hd => hI.slots d fun j o hj hp => hd j o hj ((hpd j (alt_of_getElem? hj)).2 hp), fun j o hj hp => ?_,
    fun i j hi hj h1 h2 => hI.inj i j hi hj ((hpd i hi).1 h1) ((hpd j hj).1 h2), fun k j hk hj h1 h2 => hI.dep k j hk hj h1 ((hpd j hj).1 h2)⟩
   ·by_cases e : j = t
    ·subst e; rw [hM] at hMj; cases hMj
    ·exact hI.pre j hj hMj (by omega)
   ·rw [hH]; exact hI.pend j o hj ((hpd j (alt_of_getElem? hj)).1 hp)
  | true =>
   cases hSt : S t with
   | false => exact ⟨φ', t, List.prefix_refl _, hI, .inr ⟨hlt, hM, hSt⟩⟩
   | true =>
    have hF := hI.post t hlt hM (Nat.le_refl _) hSt
    obtain ⟨ob, kk, h1, hV, h2, d, hd, h3⟩ := hI.pend t _ ho ⟨hF, hSt, Nat.le_refl _⟩
    have hww : (HH t).w0 = (HH 0).w0 := uV hw0 t (by omega)
    obtain ⟨p, hpb, hp0, hpk, hR⟩ := hI.rel.pushOld (by rw [hww]; exact h2)
    have hpd : ∀ j, Pd Fl S (t + 1) j → Pd Fl S t j ∧ j ≠ t := fun j ⟨a1, a2, a3⟩ => ⟨⟨a1, a2, by omega⟩, by omega⟩
    have hpre : φ' <+: φ' ++ [p] := ⟨_, rfl⟩
    have hI2 : InvC ops F HH V M Fl S (φ' ++ [p]) (t + 1) bl a w := by
     refine ⟨by omega, by rw [h1]; exact hR, fun j hj hMj hjt => ?_, fun j hj hMj hjt => hI.post j hj hMj (by omega), fun d' hd' => ?_, fun j o hj hp => ?_, fun i j hi hj a1 a2 => hI.inj i j hi hj (hpd i a1).1 (hpd j a2).1, fun k j hk hj a1 a2 => hI.dep k j hk hj a1 (hpd j a2).1⟩
     ·by_cases e : j = t
      ·subst e; exact hSt
      ·exact hI.pre j hj hMj (by omega)
     ·by_cases e : d' = d
      ·subst e
       have hsv : nO (F 0) ops V S ops.size d' = V t := by
        rw [oU (i := t + 1) ops.size (by omega) ?_]
        ·simp [nO, ho, hd, hSt]
        ·intro k hk hkn hdk
         have hkk : ops[k]? = some ops[k] := Array.getElem?_eq_getElem hkn
         rw [hkk] at hdk
         simp only [Option.bind_some] at hdk
         cases hSk : S k with
         | false => rfl
         | true =>
          rcases gR T.order (show t < k by omega) ho hkk with hap | hb
          ·exact absurd hdk ((Oper.apart_spec hap).2.1 d' hd)
          ·rw [hI.dep k t hkn hlt hSk ⟨hF, hSt, Nat.le_refl _⟩] at hb; cases hb
       rw [hsv, h3, hV, ← hpb]
       exact aTj hI.rel.len p hp0 hpk
      ·refine (hI.slots d' fun j o hj hp => ?_).mono hpre
       by_cases ejt : j = t
       ·subst ejt
        rw [ho] at hj; cases hj
        rw [hd]; intro e2; exact e (Option.some.inj e2).symm
       ·exact hd' j o hj ⟨hp.1, hp.2.1, by have := hp.2.2; omega⟩
     ·obtain ⟨ob', k', q1, qV, ⟨q2, q3, q4, q4'⟩, q5⟩ := hI.pend j o hj (hpd j hp).1
      refine ⟨ob', k', q1, qV, ⟨q2, (let ⟨y, c1, c2, c3, c4, c5⟩ := q3; ⟨y, c1, c2, c3, c4, fun ψ h => c5 ψ (hpre.trans h)⟩), fun i p' hp' => ?_, q4'⟩, q5⟩
      rcases Nat.lt_or_ge i φ'.length with hil | hil
      ·rw [List.getElem?_append_left hil] at hp'
       exact q4 i p' hp'
      ·rw [List.getElem?_append_right hil] at hp'
       have h0 : i - φ'.length = 0 := by have := lt_of_getElem? hp'; simp at this; omega
       rw [h0] at hp'
       simp at hp'
       subst hp'
       rw [hpb]
       intro e
       exact (hpd j hp).2 (hI.inj t j hlt (alt_of_getElem? hj) ⟨hF, hSt, Nat.le_refl _⟩ (hpd j hp).1 e).symm
    obtain ⟨φ2, t2, r1, r2, r3⟩ := ih (t + 1) (φ' ++ [p]) bl (by omega) hI2
    exact ⟨φ2, t2, hpre.trans r1, r2, r3⟩
theorem TraceF.any [π : Pins] (T : TraceF E ops F HH V M Fl) (hw0 : ∀ i, i < ops.size → (HH (i + 1)).w0 = (HH i).w0) {Q : AQ} (hQ : Q .normal (F ops.size) (HH ops.size)) (φ : List Place) :
 ∀ (fuel : Nat) (listed : Array Bool) (a : Act) (w : World) (φ' : List Place) (t : Nat) (bl : Nat → Nat), listed.size = ops.size → mJ ops (fun i => listed.getD i false) → a.defers = [] → a.tmps.size = (F 0).n → φ <+: φ' →
  InvC ops F HH V M Fl (fun i => listed.getD i false) φ' t bl a w → (t = ops.size ∨ (t < ops.size ∧ M t = true ∧ listed.getD t false = false)) → listed.toList.countP id + fuel = ops.size → wpAny P .any ops (mM φ (HH 0).w0 Q) fuel listed a w := by
 have fin : ∀ (listed : Array Bool) (a : Act) (w : World) (φ' : List Place) (t : Nat) (bl : Nat → Nat), a.defers = [] → a.tmps.size = (F 0).n → φ <+: φ' → InvC ops F HH V M Fl (fun i => listed.getD i false) φ' t bl a w → (t = ops.size ∨ (t < ops.size ∧ M t = true ∧ listed.getD t false = false)) →
  (∀ i, i < ops.size → listed.getD i false = true) → mM φ (HH 0).w0 Q .normal a w := by
  intro listed a w φ' t bl had hat hφ hI hn hall
  obtain rfl : t = ops.size := by
   rcases hn with h | ⟨h1, _, h3⟩
   ·exact h
   ·rw [hall t h1] at h3; cases h3
  refine ⟨φ', F ops.size, HH ops.size, hφ, ⟨had, by rw [hat, T.size _ (Nat.le_refl _)], fun d => ?_⟩, hI.rel, uV hw0 _ (Nat.le_refl _), hQ⟩
  have := hI.slots d fun j o hj hp => by have := alt_of_getElem? hj; have := hp.2.2; omega
  rw [wK (S' := fun _ => true) ops.size (fun k hk _ => by simp [hall k hk]), ← T.slots d _ (Nat.le_refl _)] at this
  exact this
 intro fuel
 induction fuel with
 | zero =>
  intro listed a w φ' t bl hsz hS had hat hφ hI hn hc
  have hall : ∀ i, i < ops.size → listed.getD i false = true := by
   have : listed.toList.countP id = listed.toList.length := by rw [Array.length_toList, hsz]; omega
   rw [List.countP_eq_length] at this
   intro i hi
   have hm : listed[i]'(by omega) ∈ listed.toList := by simp
   have := this _ hm
   simp only [id] at this
   simp [Array.getD_eq_getD_getElem?, hsz, hi, this]
  refine ⟨?_, fin listed a w φ' t bl had hat hφ hI hn hall⟩
  rw [List.eq_nil_iff_forall_not_mem]
  intro i hi
  unfold Region.ready at hi
  rw [List.mem_filter] at hi
  obtain ⟨h1, h2⟩ := hi
  have hlt := List.mem_range.1 h1
  simp only [Bool.and_eq_true] at h2
  have h3 := hall i hlt
  have h4 := h2.1
  simp [Array.getD_eq_getD_getElem?, hsz, hlt] at h3 h4
  rw [h3] at h4; cases h4
 | succ fuel ih =>
  intro listed a w φ' t bl hsz hS had hat hφ hI hn hc
  refine ⟨fun hr => fin listed a w φ' t bl had hat hφ hI hn ?_, fun i hi => ?_⟩
  ·intro i
   induction i using Nat.strongRecOn with
   | _ i ihi =>
    intro hlt
    cases hl : listed.getD i false with
    | true => rfl
    | false =>
     exfalso
     have hmem : i ∈ Region.ready .any ops listed := by
      unfold Region.ready
      rw [List.mem_filter]
      refine ⟨List.mem_range.2 hlt, ?_⟩
      have ho : ops[i]? = some ops[i] := Array.getElem?_eq_getElem hlt
      simp only [Bool.and_eq_true, ho, Option.map_some, Option.getD_some]
      refine ⟨?_, ?_⟩
      ·simp [Array.getD_eq_getD_getElem?, hsz, hlt] at hl ⊢
       exact hl
      ·rw [Array.all_eq_true']
       intro e he
       cases hb : Region.binds .any e with
       | false => rfl
       | true =>
        have hlt' := pP T.order ho he hb
        simp [ihi e.on hlt' (by omega)]
     rw [hr] at hmem
     cases hmem
  ·have hi' := hi
   unfold Region.ready at hi'
   rw [List.mem_filter] at hi'
   have hlt := List.mem_range.1 hi'.1
   have hunl : listed.getD i false = false := by
    have h4 := hi'.2
    simp only [Bool.and_eq_true] at h4
    have h4 := h4.1
    simp [Array.getD_eq_getD_getElem?, hsz, hlt] at h4 ⊢
    exact h4
   have ho : ops[i]? = some ops[i] := Array.getElem?_eq_getElem hlt
   generalize ops[i] = o at ho
   have hS' := zQ hS hi
   have hcount : (listed.setIfInBounds i true).toList.countP id + fuel = ops.size := by
    rw [Array.toList_setIfInBounds, List.countP_set (by simp; omega)]
    have hget : (listed.toList[i]'(by simp; omega)) = false := by
     simp [Array.getD_eq_getD_getElem?, hsz, hlt] at hunl
     simpa using hunl
    rw [hget]
    simp only [id, Bool.false_eq_true, if_false, if_true]
    omega
   have hgd : (fun j => (listed.setIfInBounds i true).getD j false) = fun j => if j = i then true else listed.getD j false := funext fun j => xR (by omega)
   -- what lies before the operation has run
   have hbef : ∀ j, j < ops.size → ((bef ops).getD i 0).testBit j = true → j ≠ i → listed.getD j false = true := by
    intro j hj hb hne
    have := kU hS' hb (by simp)
    rwa [if_neg hne] at this
   have hpart : ∀ j, j < ops.size → Pd Fl (fun i => listed.getD i false) t j → t < ops.size ∧ M t = true ∧ listed.getD t false = false ∧ t < j := by
    intro j hj hp
    rcases hn with h | ⟨h1, h2, h3⟩
    ·have := hp.2.2; omega
    ·have hne : t ≠ j := by intro e; subst e; have h4 := hp.2.1; simp only at h4; rw [h3] at h4; cases h4
     exact ⟨h1, h2, h3, by have := hp.2.2; omega⟩
   have hback : ∀ j, ((bef ops).getD i 0).testBit j = true → j ≤ i := by
    intro j hb
    have hcl : mJ ops (fun k => decide (k ≤ i)) := fun k o' ho' hk e he hbd => by
     have := pP T.order ho' he hbd
     simp only [decide_eq_true_eq] at hk ⊢
     omega
    have := kU hcl hb (by simp)
    simpa using this
   have hdep : Fl i = false → ∀ j, j < ops.size → Pd Fl (fun i => listed.getD i false) t j → ((bef ops).getD i 0).testBit j = false := by
    intro hFi j hj hp
    cases hb : ((bef ops).getD i 0).testBit j with
    | false => rfl
    | true =>
     exfalso
     obtain ⟨q1, q2, q3, q4⟩ := hpart j hj hp
     have hbt := T.all i j t hlt hj q4 hFi hp.1 q2 hb
     have := hbef t q1 hbt (fun e => by have := hback j hb; omega)
     rw [q3] at this; cases this
   have hdep2 : ∀ j, j < ops.size → listed.getD j false = true → ((bef ops).getD j 0).testBit i = false := by
    intro j hj hl
    cases hb : ((bef ops).getD j 0).testBit i with
    | false => rfl
    | true => have := kU hS hb hl; rw [hunl] at this; cases this
   have hfree : ∀ j oj, ops[j]? = some oj → Pd Fl (fun i => listed.getD i false) t j → (∀ d, oj.dst = some d → d ∉ o.looksAt ops) ∧ (∀ d, oj.dst = some d → o.dst ≠ some d) := by
    intro j oj hoj hp
    have hj := alt_of_getElem? hoj
    have hne : j ≠ i := by intro e; subst e; have h4 := hp.2.1; simp only at h4; rw [hunl] at h4; cases h4
    have hdp : ((bef ops).getD i 0).testBit j = false := by
     cases hFi : Fl i with
     | false => exact hdep hFi j hj hp
     | true => exact T.nofl i j hlt hj hFi hp.1
    rcases Nat.lt_or_gt_of_ne hne with h | h
    ·rcases gR T.order h hoj ho with hap | hb
     ·exact ⟨(Oper.apart_spec hap).1, (Oper.apart_spec hap).2.1⟩
     ·rw [hdp] at hb; cases hb
    ·rcases gR T.order h ho hoj with hap | hb
     ·exact ⟨(Oper.apart_spec hap).2.2, fun d hd hd2 => (Oper.apart_spec hap).2.1 d hd2 hd⟩
     ·rw [hdep2 j hj hp.2.1] at hb; cases hb
   have put_get : ∀ (v' : Value) (d : Nat), (a.put o.dst v').tmps.getD d undef = if o.dst = some d then v' else a.tmps.getD d undef := by
    intro v' d
    cases hd : o.dst with
    | none => simp [Act.put]
    | some d' =>
     have hlt' := T.dst_lt ho hd
     simp only [Act.put, Option.some.injEq]
     by_cases e : d' = d
     ·subst e; simp [Array.getD_eq_getD_getElem?, hat, hlt']
     ·rw [if_neg e]; simp [Array.getD_eq_getD_getElem?, e]
   have put_size : ∀ v', (a.put o.dst v').tmps.size = (F 0).n := by
    intro v'; cases hd : o.dst <;> simp [Act.put, hat]
   have put_def : ∀ v', (a.put o.dst v').defers = [] := by
    intro v'; cases hd : o.dst <;> simp [Act.put, had]
   have hsv : ∀ d, nO (F 0) ops V (fun j => if j = i then true else listed.getD j false) ops.size d = if o.dst = some d then V i else nO (F 0) ops V (fun i => listed.getD i false) ops.size d := fun d => T.sees_dst hS ho hunl d
   -- go on
   have go : ∀ (φ2 : List Place) (t2 : Nat) (bl2 : Nat → Nat) (v' : Value) (w' : World), φ' <+: φ2 → InvC ops F HH V M Fl (fun j => if j = i then true else listed.getD j false) φ2 t2 bl2 (a.put o.dst v') w' →
    wpAny P .any ops (mM φ (HH 0).w0 Q) fuel (listed.setIfInBounds i true) (a.put o.dst v') w' := by
    intro φ2 t2 bl2 v' w' h1 h2
    obtain ⟨φ3, t3, r1, r2, r3⟩ := h2.normal T hw0 hS' _ t2 φ2 bl2 rfl
    refine ih _ _ _ φ3 t3 bl2 (by simp [hsz]) (by rw [hgd]; exact hS') (put_def v') (put_size v') (hφ.trans (h1.trans r1)) (by rw [hgd]; exact r2) ?_ hcount
    rcases r3 with r3 | ⟨q1, q2, q3⟩
    ·exact .inl r3
    ·exact .inr ⟨q1, q2, by rw [show (listed.setIfInBounds i true).getD t3 false = if t3 = i then true else listed.getD t3 false from congrFun hgd t3]; exact q3⟩
   unfold wpOp
   rw [ho]
   simp only
   cases hFi : Fl i with
   | true =>
    obtain ⟨hMi, haw, d, kk, ob, hdst, hV, hHH, hmk⟩ := T.flop i o ho hFi
    have hsee : ∀ d ∈ o.looksAt ops, VR φ' (fQ (F i) d) (a.tmps.getD d undef) := by
     intro d hd
     rw [← T.sees hS hS' ho hunl hd]
     exact hI.slots d fun j oj hj hp e => (hfree j oj hj hp).1 d e hd
    have hwant := lY (φ := φ') (sv := fQ (F i)) ops o hsee
    rw [hwant, haw, if_pos rfl]
    left
    obtain ⟨x, tot, sz0, hrun, hkn, hO⟩ := hmk a.eval w φ' (fun x hx => by
     cases x with
     | tmp d => exact hsee d (by simp only [Oper.looksAt, List.mem_append, List.mem_filterMap]; exact .inl ⟨.tmp d, by simpa using hx, rfl⟩)
     | const v => exact VR.ext φ' v
     | global g => exact .ptr (.inl ⟨by simp, by simp, rfl, rfl⟩)
     | func g => exact .func _ rfl rfl (fun i v v' h => by simp at h) (fun i v v' h => by simp at h))
    unfold Oper.wp
    rw [hrun]
    have hti : t ≤ i := by
     rcases Nat.lt_or_ge i t with h | h
     ·have h5 : listed.getD i false = true := hI.pre i hlt hMi h
      rw [hunl] at h5; cases h5
     ·exact h
    have hww : (HH t).w0 = (HH 0).w0 := uV hw0 t hI.le
    have hbel : Below w.heap.size w (w.alloc x) := (Below.refl _ _).alloc (Nat.le_refl _) x
    refine go φ' t (fun j => if j = i then w.heap.size else bl j) _ _ (List.prefix_refl _) ⟨hI.le, hI.rel.later hbel, fun j hj hM hjt => ?_, fun j hj hM hjt hs => ?_, fun d' hd' => ?_, fun j oj hj hp => ?_, fun j k hj hk hpj hpk e => ?_, fun k j hk hj hs hp => ?_⟩
    ·by_cases e : j = i
     ·simp [e]
     ·simp only [e, if_false]; exact hI.pre j hj hM hjt
    ·by_cases e : j = i
     ·rw [e]; exact hFi
     ·simp only [e, if_false] at hs; exact hI.post j hj hM hjt hs
    ·have hne : o.dst ≠ some d' := hd' i o ho ⟨hFi, by simp, hti⟩
     rw [hsv d', if_neg hne, put_get, if_neg hne]
     refine hI.slots d' fun j oj hj hp => hd' j oj hj ⟨hp.1, ?_, hp.2.2⟩
     by_cases e : j = i
     ·simp [e]
     ·simp only [e, if_false]; exact hp.2.1
    ·by_cases e : j = i
     ·subst e
      rw [ho] at hj; cases hj
      refine ⟨_, kk, hHH, hV, ⟨by rw [← hww]; simp only [if_true]; exact hI.rel.below.size, ⟨x, tot, sz0, ?_, hkn, by simp only [if_true]; exact hO⟩, fun k p hp' => ?_, fun b' y hb' => ?_⟩, d, hdst, ?_⟩
      ·simp only [if_true]; exact heap_alloc_new w x
      ·simp only [if_true]
       have := hI.rel.lt k p hp'
       omega
      ·simp only [if_true]
       have := alt_of_getElem? (hI.rel.pin b' y hb').1
       omega
      ·rw [put_get, if_pos hdst]; simp
     ·have hpj : Pd Fl (fun i => listed.getD i false) t j := ⟨hp.1, by have := hp.2.1; simpa [e] using this, hp.2.2⟩
      obtain ⟨ob', k', q1, qV, ⟨q2, ⟨y, tot', sz', q3, qk, q4⟩, q5, q5'⟩, d2, q6, q7⟩ := hI.pend j oj hj hpj
      refine ⟨ob', k', q1, qV, ⟨?_, ⟨y, tot', sz', ?_, qk, ?_⟩, ?_, ?_⟩, d2, q6, ?_⟩
      ·simp only [e, if_false]; exact q2
      ·simp only [e, if_false]
       rw [show (w.alloc x).heap[bl j]? = w.heap[bl j]? from Below.heap_alloc w x _ (alt_of_getElem? q3)]
       exact q3
      ·simp only [e, if_false]; exact q4
      ·simp only [e, if_false]; exact q5
      ·simp only [e, if_false]; exact q5'
      ·have hne : o.dst ≠ some d2 := by
        rcases Nat.lt_or_gt_of_ne e with h | h
        ·rcases gR T.order h hj ho with hap | hb
         ·exact (Oper.apart_spec hap).2.1 d2 q6
         ·rw [T.nofl i j hlt (alt_of_getElem? hj) hFi hp.1] at hb; cases hb
        ·rcases gR T.order h ho hj with hap | hb
         ·intro h2; exact (Oper.apart_spec hap).2.1 d2 h2 q6
         ·rw [T.nofl j i (alt_of_getElem? hj) hlt hp.1 hFi] at hb; cases hb
       rw [put_get, if_neg hne, q7]
       simp only [e, if_false]
    ·have blt : ∀ j, j < ops.size → j ≠ i → Pd Fl (fun j => if j = i then true else listed.getD j false) t j → bl j < w.heap.size := by
      intro j hj e hp
      have hpj : Pd Fl (fun i => listed.getD i false) t j := ⟨hp.1, by have := hp.2.1; simpa [e] using this, hp.2.2⟩
      obtain ⟨ob', k', q1, qV, ⟨q2, ⟨y, tot', sz', q3, qk, q4⟩, q5⟩, _⟩ := hI.pend j _ (Array.getElem?_eq_getElem hj) hpj
      exact alt_of_getElem? q3
     by_cases e1 : j = i <;> by_cases e2 : k = i
     ·rw [e1, e2]
     ·have := blt k hk e2 hpk
      simp only [e1, e2, if_true, if_false] at e; omega
     ·have := blt j hj e1 hpj
      simp only [e1, e2, if_true, if_false] at e; omega
     ·simp only [e1, e2, if_false] at e
      exact hI.inj j k hj hk ⟨hpj.1, by have := hpj.2.1; simpa [e1] using this, hpj.2.2⟩ ⟨hpk.1, by have := hpk.2.1; simpa [e2] using this, hpk.2.2⟩ e
    ·by_cases e1 : k = i
     ·subst e1; exact T.nofl k j hk hj hFi hp.1
     ·have hs' : listed.getD k false = true := by simpa [e1] using hs
      by_cases e2 : j = i
      ·subst e2; exact hdep2 k hk hs'
      ·exact hI.dep k j hk hj hs' ⟨hp.1, by have := hp.2.1; simpa [e2] using this, hp.2.2⟩
   | false =>
    have hsee : ∀ d ∈ o.looksAt ops, VR φ' (fQ (F i) d) (a.tmps.getD d undef) := by
     intro d hd
     rw [← T.sees hS hS' ho hunl hd]
     exact hI.slots d fun j oj hj hp e => (hfree j oj hj hp).1 d e hd
    have hwant := lY (φ := φ') (sv := fQ (F i)) ops o hsee
    rw [hwant]
    have hpd : ∀ j, Pd Fl (fun j => if j = i then true else listed.getD j false) t j → Pd Fl (fun i => listed.getD i false) t j := by
     rintro j ⟨h1, h2, h3⟩
     have hne : j ≠ i := by intro e; subst e; rw [hFi] at h1; cases h1
     exact ⟨h1, by simpa [hne] using h2, h3⟩
    have hpd' : ∀ j, Pd Fl (fun i => listed.getD i false) t j → Pd Fl (fun j => if j = i then true else listed.getD j false) t j := by
     rintro j ⟨h1, h2, h3⟩
     have hne : j ≠ i := by intro e; subst e; rw [hFi] at h1; cases h1
     exact ⟨h1, by simpa [hne] using h2, h3⟩
    -- an operation that turns nothing
    have still : M i = false → ∀ v', VR φ' (V i) v' → wpAny P .any ops (mM φ (HH 0).w0 Q) fuel (listed.setIfInBounds i true) (a.put o.dst v') w := by
     intro hMi v' hv
     refine go φ' t bl v' w (List.prefix_refl _) ⟨hI.le, hI.rel, fun j hj hM hjt => ?_, fun j hj hM hjt hs => ?_, fun d hd => ?_, fun j oj hj hp => ?_, fun j k hj hk h1 h2 => hI.inj j k hj hk (hpd j h1) (hpd k h2), fun k j hk hj hs hp => ?_⟩
     ·by_cases e : j = i
      ·simp [e]
      ·simp only [e, if_false]; exact hI.pre j hj hM hjt
     ·by_cases e : j = i
      ·subst e; rw [hMi] at hM; cases hM
      ·simp only [e, if_false] at hs; exact hI.post j hj hM hjt hs
     ·rw [hsv d, put_get]
      by_cases e : o.dst = some d
      ·rw [if_pos e, if_pos e]; exact hv
      ·rw [if_neg e, if_neg e]
       exact hI.slots d fun j oj hj hp => hd j oj hj (hpd' j hp)
     ·obtain ⟨ob, k', q1, qV, q2, d2, q6, q7⟩ := hI.pend j oj hj (hpd j hp)
      refine ⟨ob, k', q1, qV, q2, d2, q6, ?_⟩
      rw [put_get, if_neg ((hfree j oj hj (hpd j hp)).2 d2 q6)]
      exact q7
     ·by_cases e : k = i
      ·subst e; exact hdep hFi j hj (hpd j hp)
      ·simp only [e, if_false] at hs
       exact hI.dep k j hk hj hs (hpd j hp)
    have hρ : ∃ ρ2 : Operand → Value, (∀ x, VR φ' (ρ2 x) (a.eval x)) ∧ ∀ x ∈ o.op.operands, ρ2 x = fC (F i) x := by
     open Classical in
     refine ⟨fun x => if x ∈ o.op.operands then fC (F i) x else ext (a.eval x), fun x => ?_, fun x hx => by simp [hx]⟩
     by_cases hx : x ∈ o.op.operands
     ·simp only [hx, if_true]
      cases x with
      | tmp d => exact hsee d (by simp only [Oper.looksAt, List.mem_append, List.mem_filterMap]; exact .inl ⟨.tmp d, by simpa using hx, rfl⟩)
      | const v => exact VR.ext φ' v
      | global g => exact .ptr (.inl ⟨by simp, by simp, rfl, rfl⟩)
      | func g => exact .func _ rfl rfl (fun i v v' h => by simp at h) (fun i v v' h => by simp at h)
     ·simp only [hx, if_false]
      exact VR.ext φ' _
    obtain ⟨ρ2, hρ2, hρe⟩ := hρ
    -- a main operation
    have hmain : M i = true → t = i ∧ (∀ j, j < ops.size → M j = true → j < i → listed.getD j false = true) ∧ (∀ j, j < ops.size → M j = true → i < j → listed.getD j false = true → Fl j = true) := by
     intro hMi
     have hlow : ∀ j, j < ops.size → M j = true → j < i → listed.getD j false = true := by
      intro j hj hM hji
      rcases T.mains j i hji hlt hM hMi with hb | hb
      ·exact hbef j hj hb (by omega)
      ·rw [hFi] at hb; cases hb
     have hti : t ≤ i := by
      rcases Nat.lt_or_ge i t with h | h
      ·have h5 : listed.getD i false = true := hI.pre i hlt hMi h
       rw [hunl] at h5; cases h5
      ·exact h
     have hit : t = i := by
      rcases hn with h | ⟨h1, h2, h3⟩
      ·omega
      ·rcases Nat.lt_or_ge t i with h | h
       ·rw [hlow t h1 h2 h] at h3; cases h3
       ·omega
     refine ⟨hit, hlow, fun j hj hM hij hl => ?_⟩
     rcases T.mains i j hij hj hMi hM with hb | hb
     ·rw [hdep2 j hj hl] at hb; cases hb
     ·exact hb
    -- what waits is pinned
    open Classical in
    let p2 : Nat → Option Obj := fun b => if ∃ j, j < ops.size ∧ Pd Fl (fun i => listed.getD i false) t j ∧ bl j = b then w.heap[b]? else π.pin b
    have hrel2 : @Rel ⟨⟨p2⟩⟩ φ' (HH t) w := by
     refine @Rel.mk ⟨⟨p2⟩⟩ _ _ _ hI.rel.below hI.rel.len hI.rel.obj hI.rel.inj (fun b x hb => ?_) hI.rel.lt
     simp only [Pins.pin, p2] at hb
     split at hb
     ·rename_i hx
      obtain ⟨j, hj, hp, rfl⟩ := hx
      obtain ⟨ob, k', q1, qV, ⟨q2, q3, q4, q5⟩, _⟩ := hI.pend j _ (Array.getElem?_eq_getElem hj) hp
      exact ⟨hb, q4⟩
     ·exact hI.rel.pin b x hb
    have back2 : ∀ {φ2 : List Place} {H2 : AH} {w' : World}, @Rel ⟨⟨p2⟩⟩ φ2 H2 w' → Rel φ2 H2 w' ∧ ∀ j, j < ops.size → Pd Fl (fun i => listed.getD i false) t j → w'.heap[bl j]? = w.heap[bl j]? ∧ ∀ (k : Nat) p, φ2[k]? = some p → p.blk ≠ bl j := by
     intro φ2 H2 w' hR2
     refine ⟨⟨@Rel.below ⟨⟨p2⟩⟩ _ _ _ hR2, @Rel.len ⟨⟨p2⟩⟩ _ _ _ hR2, @Rel.obj ⟨⟨p2⟩⟩ _ _ _ hR2, @Rel.inj ⟨⟨p2⟩⟩ _ _ _ hR2, fun b x hb => @Rel.pin ⟨⟨p2⟩⟩ _ _ _ hR2 b x ?_, @Rel.lt ⟨⟨p2⟩⟩ _ _ _ hR2⟩, fun j hj hp => ?_⟩
     ·simp only [Pins.pin, p2]
      rw [if_neg]
      ·exact hb
      ·rintro ⟨j, hj, hp, rfl⟩
       obtain ⟨ob, k', q1, qV, ⟨q2, q3, q4, q5⟩, _⟩ := hI.pend j _ (Array.getElem?_eq_getElem hj) hp
       exact q5 _ x hb rfl
     ·obtain ⟨ob, k', q1, qV, ⟨q2, ⟨x, tot, sz, q3, _⟩, q4, q5⟩, _⟩ := hI.pend j _ (Array.getElem?_eq_getElem hj) hp
      have := @Rel.pin ⟨⟨p2⟩⟩ _ _ _ hR2 (bl j) x (by simp only [Pins.pin, p2]; rw [if_pos ⟨j, hj, hp, rfl⟩]; exact q3)
      exact ⟨this.1.trans q3.symm, this.2⟩
    have mnext : M i = true → ∀ (φ2 : List Place) (v' : Value) (w' : World), φ' <+: φ2 → VR φ2 (V i) v' → @Rel ⟨⟨p2⟩⟩ φ2 (HH (i + 1)) w' → wpAny P .any ops (mM φ (HH 0).w0 Q) fuel (listed.setIfInBounds i true) (a.put o.dst v') w' := by
     intro hMi φ2 v' w' h1 h2 h3
     obtain ⟨hit, hlow, hup⟩ := hmain hMi
     obtain ⟨hR, hpp⟩ := back2 h3
     have hpd1 : ∀ j, j < ops.size → Pd Fl (fun j => if j = i then true else listed.getD j false) (i + 1) j → Pd Fl (fun i => listed.getD i false) t j := by
      rintro j hj ⟨p1, p2, p3⟩
      have hne : j ≠ i := by omega
      exact ⟨p1, by simpa [hne] using p2, by omega⟩
     have hpd2 : ∀ j, j < ops.size → Pd Fl (fun i => listed.getD i false) t j → Pd Fl (fun j => if j = i then true else listed.getD j false) (i + 1) j := by
      rintro j hj hp
      have hne : j ≠ i := by intro e; subst e; have h4 := hp.1; rw [hFi] at h4; cases h4
      exact ⟨hp.1, by simpa [hne] using hp.2.1, by have := hp.2.2; omega⟩
     refine go φ2 (i + 1) bl v' w' h1 ⟨by omega, hR, fun j hj hM hjt => ?_, fun j hj hM hjt hs => ?_, fun d hd => ?_, fun j oj hj hp => ?_, fun j k hj hk p1 p2 => hI.inj j k hj hk (hpd1 j hj p1) (hpd1 k hk p2), fun k j hk hj hs hp => ?_⟩
     ·by_cases e : j = i
      ·simp [e]
      ·simp only [e, if_false]; exact hlow j hj hM (by omega)
     ·have e : j ≠ i := by omega
      simp only [e, if_false] at hs
      exact hup j hj hM (by omega) hs
     ·rw [hsv d, put_get]
      by_cases e : o.dst = some d
      ·rw [if_pos e, if_pos e]; exact h2
      ·rw [if_neg e, if_neg e]
       exact (hI.slots d fun j oj hj hp => hd j oj hj (hpd2 j (alt_of_getElem? hj) hp)).mono h1
     ·have hjl := alt_of_getElem? hj
      have hp0 := hpd1 j hjl hp
      obtain ⟨ob, k', q1, qV, ⟨q2, ⟨y, tot', sz', q3, qk, q4⟩, q5, q5'⟩, d2, q6, q7⟩ := hI.pend j oj hj hp0
      obtain ⟨r1, r2⟩ := hpp j hjl hp0
      refine ⟨ob, k', q1, qV, ⟨q2, ⟨y, tot', sz', r1.trans q3, qk, fun ψ h => q4 ψ (h1.trans h)⟩, r2, q5'⟩, d2, q6, ?_⟩
      rw [put_get, if_neg ((hfree j oj hj hp0).2 d2 q6)]
      exact q7
     ·by_cases e : k = i
      ·subst e; exact hdep hFi j hj (hpd1 j hj hp)
      ·simp only [e, if_false] at hs
       exact hI.dep k j hk hj hs (hpd1 j hj hp)
    rcases T.step i o ho hFi with ⟨h1, h2, h3⟩ | ⟨h1, h2, hqt, h3⟩ | ⟨h1, h2, h3⟩ | ⟨h1, h2, g, args, h3, h4⟩
    ·rw [h1]
     simp only [Bool.false_eq_true, if_false]
     exact still h3 undef (by rw [h2]; exact VR.undef φ')
    ·rw [h1, if_pos rfl]
     left
     have hop := h3 t hI.le (fun j hj hM hb => ?_) (fun j hj hM hb => ?_)
     ·rw [← xC E o.op _ hρe] at hop
      obtain ⟨v', q1, q2⟩ := aLs E hI.rel hρ2 hqt hop
      unfold Oper.wp
      rw [q2]
      exact still h2 v' q1
     ·have hne : j ≠ i := by intro e; subst e; rw [h2] at hM; cases hM
      have hl := hbef j hj hb hne
      rcases Nat.lt_or_ge j t with h | h
      ·exact h
      ·exfalso
       have := hdep hFi j hj ⟨hI.post j hj hM h hl, hl, h⟩
       rw [this] at hb; cases hb
     ·rcases Nat.lt_or_ge j t with h | h
      ·have hl := hI.pre j hj hM h
       rw [hdep2 j hj hl] at hb; cases hb
      ·exact h
    ·rw [h1, if_pos rfl]
     left
     obtain ⟨m1, _⟩ := hmain h2
     rw [← xC E o.op _ hρe] at h3
     obtain ⟨φ2, v', w', q1, q2, q3, q4⟩ := @aIm ⟨⟨p2⟩⟩ _ E _ _ _ _ (m1 ▸ hrel2) _ _ hρ2 _ _ h3
     unfold Oper.wp
     rcases q4 with q4 | ⟨q4, rfl⟩
     ·rw [q4]; exact mnext h2 φ2 v' w' q1 q3 q2
     ·rw [q4]; exact mnext h2 φ2 undef w' q1 q3 q2
    ·rw [h1, if_pos rfl]
     left
     obtain ⟨m1, _⟩ := hmain h2
     rw [← tI E o.op hρe] at h3
     obtain ⟨args', q1, q2⟩ := uK E hρ2 h3 w
     unfold Oper.wp
     rw [q2]
     refine (h4 ⟨⟨p2⟩⟩ φ' args' w q1 (m1 ▸ hrel2)).mono ?_
     rintro e w' ⟨φ2, v, v', H', r1, rfl, r2, r3, r4, rfl, rfl⟩
     exact mnext h2 φ2 v' w' r1 r2 r3
theorem TraceF.region (T : TraceF E ops F HH V M Fl) (hm : P.follows .mixedOrders = true) (hw0 : ∀ i, i < ops.size → (HH (i + 1)).w0 = (HH i).w0) {Q : AQ} (hQ : Q .normal (F ops.size) (HH ops.size)) (id : Nat) :
 ACode P (.region id ops true) Q (F 0) (HH 0) := by
 intro π φ a w hf hR
 refine wp_region_any hm ?_
 have hno : ∀ j, (Array.replicate ops.size false).getD j false = false := by
  intro j
  simp only [Array.getD_eq_getD_getElem?, Array.getElem?_replicate]
  split <;> rfl
 have hcl : mJ ops (fun i => (Array.replicate ops.size false).getD i false) := by
  intro i o ho hi
  simp only [hno] at hi; cases hi
 have hI0 : InvC ops F HH V M Fl (fun i => (Array.replicate ops.size false).getD i false) φ 0 (fun _ => 0) a w.drew := by
  refine ⟨Nat.zero_le _, hR.drew, (fun j _ _ h => by omega), (fun j _ _ _ h => by cases (hno j).symm.trans h), fun d _ => ?_, (fun j o hj hp => by cases (hno j).symm.trans hp.2.1), (fun i j _ _ hp => by cases (hno i).symm.trans hp.2.1), (fun k j _ _ h => by cases (hno k).symm.trans h)⟩
  have hS : nO (F 0) ops V (fun i => (Array.replicate ops.size false).getD i false) ops.size d = fQ (F 0) d := by
   rw [oU (i := 0) ops.size (Nat.zero_le _)]
   ·rfl
   ·intro k _ hk _
    exact hno k
  rw [hS]
  exact hf.2.2 d
 obtain ⟨φ2, t2, r1, r2, r3⟩ := hI0.normal T hw0 hcl _ 0 φ _ rfl
 refine T.any hw0 hQ φ ops.size (Array.replicate ops.size false) a _ φ2 t2 _ (by simp) hcl hf.1 hf.2.1 r1 r2 r3 ?_
 simp [Array.toList_replicate]
def sC (bs fl : List Nat) : List Nat → Bool
 | [] => true
 | i :: r => (r.all fun j => (bs.getD j 0).testBit i || fl.contains j) && sC bs fl r
theorem aIu {bs fl : List Nat} : ∀ {ms : List Nat}, sC bs fl ms = true → ms.Pairwise (· < ·) → ∀ i j, i ∈ ms → j ∈ ms → i < j → (bs.getD j 0).testBit i = true ∨ fl.contains j = true := by
 intro ms
 induction ms with
 | nil => intro _ _ i j h; cases h
 | cons m r ih =>
  intro h hs i j hi hj hij
  simp only [sC, Bool.and_eq_true, List.all_eq_true] at h
  rw [List.pairwise_cons] at hs
  rcases List.mem_cons.1 hi with rfl | hi2
  ·rcases List.mem_cons.1 hj with rfl | hj2
   ·omega
   ·have := h.1 j hj2
    simp only [Bool.or_eq_true] at this
    exact this
  ·rcases List.mem_cons.1 hj with rfl | hj2
   ·have := hs.1 i hi2; omega
   ·exact ih h.2 hs.2 i j hi2 hj2 hij
end
section
variable {P : Program} {E : Env P} {S H0 : AH} {A0 A : Nat → Prop} {L : OL} {K : AQ}
end
theorem XCall.b {P : Program} {g : FuncId} {args : List Value} {H : AH} {b b' : Bool} {K : AH → Prop} (h : XCall P g args H fun v H' => v = .bool b ∧ K H') (hb : b = b') : XCall P g args H fun v H' => v = .bool b' ∧ K H' := by rw [← hb]; exact h
theorem XCall.i {P : Program} {g : FuncId} {args : List Value} {H : AH} {k : IntKind} {b b' : Int} {K : AH → Prop} (h : XCall P g args H fun v H' => v = .int k b ∧ K H') (hb : b = b') : XCall P g args H fun v H' => v = .int k b' ∧ K H' := by rw [← hb]; exact h
end Go.AM
namespace Go.AM
open Go.RowKit
section
variable {A : Nat → Prop} {H : AH}
end
section
variable {P : Program} {E : Env P} {G : RG} {i n d : Nat} {r : List Oper} {Q : Fr → AH → Prop} {t : Tr Value} {l : List (Nat × Value)} {S H0 : AH} {A0 A : Nat → Prop} {L L' : OL} {v u : Value}
 {ty : TypeId} {ps : String} {af : Array Edge} {gd : Option (Nat × Bool)} {x y z : Operand}
def vE (S H0 : AH) (A0 A : Nat → Prop) (L : OL) (sz m : Nat) (x : Value) (new : List Value) : Prop := mK x = some m ∧ new.length = m * sz ∧ (∀ H, HS S H0 A0 A L H → iH sz m x H = some new) ∧ aSf x = false
theorem eL {K sz sz' m cap : Nat} {cs : List Value} {ex : Bool} (hm : (K, AObj.cells cs sz' ex) ∈ L) (hl : cs.length = m * sz) : vE S H0 A0 A L sz m (.slice (some ⟨2 * K + 1, 0, none⟩) m cap) cs :=
 ⟨rfl, hl, fun H hH => by
  simp only [iH]
  rw [mD (hH.own _ hm).1 0 (m * sz) none (by omega)]
  simp [← hl], rfl⟩
theorem aCe {m : Nat} {s : ByteArray} {cs : List Value} (hm : s.data.toList.length = m) (hc : (s.data.toList.map fun b => Value.int .u8 b.toNat) = cs) (H : AH) : mK (.string s) = some m ∧ cs.length = m * 1 ∧ iH 1 m (.string s) H = some cs :=
 ⟨by simp only [mK, hm], by rw [← hc, List.length_map, hm, Nat.mul_one], by simp only [iH]; rw [← hc, ← hm, List.take_length]⟩
theorem wV {c : Call} {e sT xT : TypeId} {dx : TypeDesc} {ii : TI} {zv : Value} {base : Option Addr} {sl m sz bt : Nat} {w : Value} {old new cs' : List Value} (hw : gok G.ops l gd = true) (hdn : Nat.ble (d + 1) n = true) (hm : G.D = true → i ∈ G.ms) (hc : c.callee = .builtin .append) (ha : c.args.toList = [x, y]) (ht : c.argTypes.toList = [sT, xT])
 (hx : opv l x = some (.slice base sl sl)) (hy : opv l y = some w) (hu : E.und sT = some (.slice e)) (hux : E.und xT = some dx) (hdx : lL dx = false) (hi : E.inf e = some ii) (hz : ii.zero = some zv) (hs : ii.size = sz) (hs0 : sz ≠ 0) (hbt : ii.bytes = bt) (hm0 : m ≠ 0) (hf : vE G.S H0 G.A0 A L sz m w new)
 (ho : (base = none ∧ sl = 0 ∧ old = []) ∨ ∃ N, base = some ⟨2 * N + 1, 0, none⟩ ∧ (N, AObj.cells old sz true) ∈ L ∧ old.length = sl * sz) (hbig : nG (sl + m) bt = true) (hbig2 : sl + m ≤ 140737488355328) (hcs : old ++ new = cs') {k : Nat} (hk : sl + m = k)
 (h : ∀ M, SO E G (i + 1) r Q (fr n t ((d, .slice (some ⟨2 * M + 1, 0, none⟩) k k) :: l)) H0 A ((M, .cells cs' sz false) :: L)) : SO E G i (⟨some d, .call c, ty, ps, af, gd⟩ :: r) Q (fr n t l) H0 A L := by
 subst hs; subst hbt; subst hcs; subst hk
 refine wL (f := fun N => .slice (some ⟨2 * N + 1, 0, none⟩) (sl + m) (sl + m)) hw rfl hdn hm (fun H hH => ?_) h
 have e1 : (Nat.beq ii.size 0 || ii.zero.isNone) = false := by
  rw [hz]; cases hq : ii.size with
  | zero => exact absurd hq hs0
  | succ k => rfl
 have e2 : Nat.beq m 0 = false := by cases m with | zero => exact absurd rfl hm0 | succ k => rfl
 have e3 : Nat.ble (sl + m) sl = false := by
  cases hq : Nat.ble (sl + m) sl with
  | false => rfl
  | true => have := Nat.le_of_ble_eq_true hq; omega
 have hlen := hf.2.1
 rcases ho with ⟨rfl, rfl, rfl⟩ | ⟨N, rfl, hmem, hol⟩
 ·simp only [aop, hc, ha, ht, mE, cG hx, cG hy, hu, hux, hdx, cond_false, hi, hf.1, e1, hf.2.2.1 H hH, e2]
  have e4 : (nG (0 + m) ii.bytes && (Nat.ble (0 + m) 140737488355328 && (Nat.beq ([] : List Value).length (0 * ii.size) && Nat.beq new.length (m * ii.size)))) = true := by
   simp only [Bool.and_eq_true]
   exact ⟨hbig, Nat.ble_eq_true_of_le hbig2, by simp, by rw [hlen]; simp⟩
  simp only [show (Nat.beq 0 0 && Nat.beq 0 0) = true from rfl, cond_true, iO, iH, show Nat.beq 0 0 = true from rfl, e4, iA, show tT e w ii.size = ii.size by (unfold tT; rw [hf.2.2.2]; rfl)]
  rfl
 ·have hg : H.tr.get N = some (.cells old ii.size true) := (hH.own _ hmem).1
  have e5 : Nat.ble (old.length + 1) (0 + (sl + m) * ii.size) = true := by
   refine Nat.ble_eq_true_of_le ?_
   have : (sl + m) * ii.size = sl * ii.size + m * ii.size := Nat.add_mul ..
   have h1 : 1 ≤ m * ii.size := Nat.mul_pos (Nat.pos_of_ne_zero hm0) (Nat.pos_of_ne_zero hs0)
   omega
  have e6 : aloads H ⟨2 * N + 1, 0, none⟩ (sl * ii.size) = some old := by
   rw [mD hg 0 _ none (by omega)]; simp [← hol]
  have e7 : iH ii.size sl (.slice (some ⟨2 * N + 1, 0, none⟩) sl sl) H = some old := by simp only [iH]; exact e6
  have e4 : (nG (sl + m) ii.bytes && (Nat.ble (sl + m) 140737488355328 && (Nat.beq old.length (sl * ii.size) && Nat.beq new.length (m * ii.size)))) = true := by
   simp only [Bool.and_eq_true]
   exact ⟨hbig, Nat.ble_eq_true_of_le hbig2, by rw [hol]; simp, by rw [hlen]; simp⟩
  simp only [aop, hc, ha, ht, mE, cG hx, cG hy, hu, hux, hdx, cond_false, hi, hf.1, e1, hf.2.2.1 H hH, e2, mW, lO, hg, show pW ii.size ii.size e = true by simp [pW], cond_true, e3, e5, iO, e7, e4, iA]
theorem wT {c : Call} {e sT xT : TypeId} {dx : TypeDesc} {ii : TI} {zv : Value} {N sl m sz bt : Nat} {w : Value} {old new cs' : List Value} (hw : gok G.ops l gd = true) (hdn : Nat.ble (d + 1) n = true) (hm : G.D = true → i ∈ G.ms) (hc : c.callee = .builtin .append) (ha : c.args.toList = [x, y]) (ht : c.argTypes.toList = [sT, xT])
 (hx : opv l x = some (.slice (some ⟨2 * N + 1, 0, none⟩) sl sl)) (hy : opv l y = some w) (hu : E.und sT = some (.slice e)) (hux : E.und xT = some dx) (hdx : lL dx = false) (hi : E.inf e = some ii) (hz : ii.zero = some zv) (hs : ii.size = sz) (hs0 : sz ≠ 0) (hbt : ii.bytes = bt) (hm0 : m ≠ 0) (hf : vE G.S H0 G.A0 A L sz m w new)
 (hr : Rem N (.cells old sz false) L L') (hol : old.length = sl * sz) (h1 : eF new = true) (hbig : nG (sl + m) bt = true) (hbig2 : sl + m ≤ 140737488355328) (hcs : old ++ new = cs') (hD' : G.D = true → G.Lw.Sublist L') {k : Nat} (hk : sl + m = k)
 (h : ∀ M, SO E G (i + 1) r Q (fr n t ((d, .slice (some ⟨2 * M + 1, 0, none⟩) k k) :: l)) H0 A ((M, .cells cs' sz false) :: L')) : SO E G i (⟨some d, .call c, ty, ps, af, gd⟩ :: r) Q (fr n t l) H0 A L := by
 subst hs; subst hbt; subst hcs; subst hk
 refine lQ hw rfl hdn hm fun hD H hH => ?_
 have e1 : (Nat.beq ii.size 0 || ii.zero.isNone) = false := by
  rw [hz]; cases hq : ii.size with
  | zero => exact absurd hq hs0
  | succ k => rfl
 have e2 : Nat.beq m 0 = false := by cases m with | zero => exact absurd rfl hm0 | succ k => rfl
 have e3 : Nat.ble (sl + m) sl = false := by
  cases hq : Nat.ble (sl + m) sl with
  | false => rfl
  | true => have := Nat.le_of_ble_eq_true hq; omega
 have hg : H.tr.get N = some (.cells old ii.size false) := (hH.own _ hr.mem).1
 have hk := (hH.kill hr).push (.cells (old ++ new) ii.size false)
 refine ⟨_, _, H0, A, (H.nx, .cells (old ++ new) ii.size false) :: L', .inl ?_, hk, (hD.list hD').push _, h H.nx⟩
 have e4 : (Nat.beq (0 + sl * ii.size) old.length && (nG (sl + m) ii.bytes && (Nat.ble (sl + m) 140737488355328 && (Nat.beq new.length (m * ii.size) && eF new)))) = true := by
  simp only [Bool.and_eq_true]
  exact ⟨by rw [hol]; simp, hbig, Nat.ble_eq_true_of_le hbig2, by rw [hf.2.1]; simp, h1⟩
 simp only [aop, hc, ha, ht, mE, cG hx, cG hy, hu, hux, hdx, cond_false, hi, hf.1, e1, hf.2.2.1 H hH, e2, mW, lO, hg, show pW ii.size ii.size e = true by simp [pW], cond_true, e3, e4, iA, List.drop_zero]
end
def Cloned (A : Nat → Prop) (S : AH) (ks : List Kd) (l : List (List CT)) (u : Value) (H' : AH) (N0 : Nat) : Prop :=
 (u = .slice none 0 0 ∧ l = []) ∨ ∃ M cells ex, u = .slice (some ⟨2 * M + 1, 0, none⟩) l.length l.length ∧ H'.tr.get M = some (.cells cells ks.length ex) ∧ N0 ≤ M ∧ M < H'.nx ∧ cells.length = l.length * ks.length ∧ eF cells = true ∧ ∀ (i : Nat) c, l[i]? = some c → CellsA A S ks ((cells.drop (i * ks.length)).take ks.length) c
theorem Cloned.cell {A : Nat → Prop} {S H' : AH} {b : Nat} {ks : List Kd} {l : List (List CT)} {u : Value} (h : Cloned A S ks l u H' S.nx) (hk : Kept S.nx S H') (hA : ∀ j, A j → j < S.nx) (h1 : l.length ≤ 140737488351232) (h2 : l.length * b ≤ 140737488351232) : CellA (fun j => A j ∨ (S.nx ≤ j ∧ j < H'.nx)) H' (.row b ks) u (.row l) := by
 rcases h with ⟨rfl, rfl⟩ | ⟨M, cells, ex, rfl, hg, hM, hM2, hl, _, hc⟩
 ·simp only [CellA]
  exact ⟨by simp, by simp, .inl ⟨trivial, trivial⟩⟩
 ·have g : Gr A S (fun j => A j ∨ (S.nx ≤ j ∧ j < H'.nx)) H' := ⟨fun j hj => .inl hj, fun j hj => hk.get j (hA j hj), hk.w0⟩
  exact wC hg (.inr ⟨hM, hM2⟩) rfl rfl (by rw [hl]; exact Nat.le_refl _) (fun i c hi => CellsA.gr g _ _ _ (hc i c hi)) (Nat.le_refl _) h1 h2
theorem aHx {a b : List Value} (ha : eF a = true) (hb : eF b = true) : eF (a ++ b) = true := by
 induction a with
 | nil => exact hb
 | cons v r ih => simp only [eF, Bool.and_eq_true] at ha; simp only [List.cons_append, eF, Bool.and_eq_true]; exact ⟨ha.1, ih ha.2⟩
def PtsX (A : Nat → Prop) (H : AH) (ks : List Kd) (ex : Nat → Bool) (x : Nat → Value) (c : Nat → CT) : Prop := ∀ i k, ks[i]? = some k → ex i = false → CellA A H k (x i) (c i)
section
variable {A A' : Nat → Prop} {H H' : AH} {ks : List Kd} {ex : Nat → Bool} {x y : Nat → Value} {c : Nat → CT}
theorem iR (x : Nat → Value) (o : Nat) (v : Value) : gX x o v o = v := by simp [gX]
theorem mV (x : Nat → Value) {o i : Nat} (v : Value) (h : i ≠ o) : gX x o v i = x i := by
 rw [gX, show Nat.beq i o = false by (cases e : Nat.beq i o with | false => rfl | true => exact absurd (Nat.eq_of_beq_eq_true e) h)]; rfl
theorem bZ {n : Nat} {x : Nat → Value} : ((cellsOf n x).drop 0).take n = cellsOf n x := by
 rw [List.drop_zero, List.take_of_length_le (by rw [aU]; exact Nat.le_refl _)]
theorem cF {n : Nat} {x : Nat → Value} {cs : List Value} (h : cs.length = n) : cs.take 0 ++ (cellsOf n x ++ cs.drop (0 + (cellsOf n x).length)) = cellsOf n x := fS (by rw [aU, h])
theorem aUr (x : Nat → Value) {o m i : Nat} (y : Nat → Value) (h : o ≤ i ∧ i < o + m) : aHe x o m y i = y (i - o) := by
 simp only [aHe]
 rw [Nat.ble_eq_true_of_le h.1, show Nat.blt i (o + m) = true from Nat.ble_eq_true_of_le h.2]; rfl
theorem aFg (x : Nat → Value) {o m i : Nat} (y : Nat → Value) (h : ¬ (o ≤ i ∧ i < o + m)) : aHe x o m y i = x i := by
 simp only [aHe]
 cases h1 : Nat.ble o i with
 | false => rfl
 | true =>
  cases h2 : Nat.blt i (o + m) with
  | false => rfl
  | true => exact absurd ⟨Nat.le_of_ble_eq_true h1, Nat.le_of_ble_eq_true h2⟩ h
theorem Pts.shift (h : Pts A H ks x c) (o m : Nat) : Pts A H ((ks.drop o).take m) (fun i => x (o + i)) (fun i => c (o + i)) := fun i k hk => by
 rw [List.getElem?_take] at hk
 split at hk
 ·rw [List.getElem?_drop] at hk; exact h _ k hk
 ·cases hk
theorem PtsX.back {e : Nat} {ex2 : Nat → Bool} (h : PtsX A H ks ex x c) {k : Kd} (hk : ks[e]? = some k) (hv : CellA A H k (x e) (c e)) (he : ∀ i, ex2 i = false → i ≠ e → ex i = false) : PtsX A H ks ex2 x c := fun i k' hk' h2 => by
 by_cases hi : i = e
 ·subst hi; rw [hk] at hk'; cases hk'; exact hv
 ·exact h i k' hk' (he i h2 hi)
end
end Go.AM
namespace Go.AM
open Go.RowKit
def aEu (P : Program) (f : TypeId → Option (List Kd)) : List Field → Nat → Option (List Kd)
 | [], _ => some []
 | fd :: fs, off =>
  match f fd.type, aEu P f fs (off + P.cellsOf fd.type) with
  | some ks, some r => bif Nat.beq fd.offset off && Nat.beq ks.length (P.cellsOf fd.type) then some (ks ++ r) else none
  | _, _ => none
def aDm (P : Program) : Nat → TypeId → Option (List Kd)
 | 0, _ => none
 | n + 1, t =>
  match P.underlying t with
  | some (.int k) => some [.int k]
  | some .bool => some [.bool]
  | some .string => some [.str]
  | some (.slice e) => (match aDm P n e with
   | some ks => bif Nat.beq ks.length (P.cellsOf e) && Nat.ble 1 (P.bytesOf e) then some [.row (P.bytesOf e) ks] else none
   | none => none)
  | some (.struct fs) => (match aEu P (aDm P n) fs.toList 0 with
   | some ks => bif Nat.beq ks.length (P.cellsOf t) then some ks else none
   | none => none)
  | some (.array m e) => (match aDm P n e with
   | some ks => bif Nat.beq ks.length (P.cellsOf e) && Nat.beq (m * ks.length) (P.cellsOf t) then some (List.replicate m ks).flatten else none
   | none => none)
  | _ => none
theorem aHd {α : Type} {Q : Nat → α → Prop} : ∀ n, (∀ i, i < n → ∃ c, Q i c) → ∃ l : List α, l.length = n ∧ ∀ (i : Nat) c, l[i]? = some c → Q i c := by
 intro n
 induction n with
 | zero => intro _; exact ⟨[], rfl, fun i c h => by simp at h⟩
 | succ n ih =>
  intro h
  obtain ⟨l, h1, h2⟩ := ih fun i hi => h i (by omega)
  obtain ⟨c, hc⟩ := h n (by omega)
  refine ⟨l ++ [c], by simp [h1], fun i d hd => ?_⟩
  by_cases hi : i < n
  ·rw [List.getElem?_append_left (by omega)] at hd; exact h2 i d hd
  ·rw [List.getElem?_append_right (by omega)] at hd
   have h0 : i - l.length = 0 := by have := lt_of_getElem? hd; simp at this; omega
   rw [h0] at hd; simp at hd; subst hd
   rw [show i = n by omega]; exact hc
theorem aJy {α β : Type} {f : α → Option β} : ∀ {l : List α} {r : List β}, l.mapM f = some r → r.length = l.length ∧ ∀ (i : Nat) x, l[i]? = some x → ∃ y, r[i]? = some y ∧ f x = some y := by
 intro l
 induction l with
 | nil => intro r h; simp at h; subst h; exact ⟨rfl, fun i x h => by simp at h⟩
 | cons a l ih =>
  intro r h
  simp only [List.mapM_cons, Option.bind_eq_bind, Option.pure_def] at h
  cases ha : f a with
  | none => rw [ha] at h; simp at h
  | some y =>
   cases hl : l.mapM f with
   | none => rw [ha, hl] at h; simp at h
   | some r' =>
    rw [ha, hl] at h; simp at h; subst h
    obtain ⟨h1, h2⟩ := ih hl
    refine ⟨by simp [h1], fun i x hx => ?_⟩
    cases i with
    | zero => simp at hx; subst hx; exact ⟨y, rfl, ha⟩
    | succ i => exact h2 i x (by simpa using hx)
theorem aGw (a b : List Value) : iN (a ++ b) = iN a ++ iN b := by
 induction a with
 | nil => simp [iN]
 | cons x a ih => simp [iN, ih]
section
variable {T : Type} {enc : TypeId × Value → T} {P : Program} {W : World}
theorem rP {e : TypeId} : ∀ {l : List (DataW T)} {d : DataW T}, d ∈ l → ∀ w ∈ d.weights P e, w ∈ DataW.weightsAll P e l := by
 intro l
 induction l with
 | nil => intro d h; cases h
 | cons a l ih =>
  intro d h w hw
  simp only [DataW.weightsAll, List.mem_append]
  rcases List.mem_cons.1 h with rfl | h
  ·exact .inl hw
  ·exact .inr (ih h w hw)
def aRm (enc : TypeId × Value → T) (P : Program) (W : World) (f : TypeId → Option (List Kd)) : Prop := ∀ (t : TypeId) (ks : List Kd) (fuel : Nat) (cs : List Value) (x : DataW T × List MemPlace), f t = some ks → DataW.trod enc P W 0 (fun _ => true) true fuel t cs = some x → (∀ w ∈ x.1.weights P t, w ≤ reachBytes) → ∃ c, CellsA (fun _ => False) (start W) ks (iN cs) c
theorem aEa {f : TypeId → Option (List Kd)} (IH : aRm enc P W f) {fuel : Nat} {cs : List Value} : ∀ (fs : List Field) (off : Nat) (ks : List Kd) (r : List (DataW T × List MemPlace)), aEu P f fs off = some ks →
 (fs.mapM fun f => DataW.trod enc P W 0 (fun _ => true) true fuel f.type ((cs.drop f.offset).take (P.cellsOf f.type))) = some r → (∀ w ∈ DataW.weightsEach P (fs.map (·.type)) (r.map (·.1)), w ≤ reachBytes) →
 ∃ c, CellsA (fun _ => False) (start W) ks (iN ((cs.drop off).take ks.length)) c := by
 intro fs
 induction fs with
 | nil => intro off ks r hk _ _; simp only [aEu] at hk; cases hk; exact ⟨[], by simp [iN, CellsA]⟩
 | cons fd fs ih =>
  intro off ks r hk hm hw
  simp only [aEu] at hk
  split at hk
  ·rename_i k1 k2 e1 e2
   cases hb : (Nat.beq fd.offset off && Nat.beq k1.length (P.cellsOf fd.type)) with
   | false => rw [hb] at hk; cases hk
   | true =>
    rw [hb, cond_true] at hk
    cases hk
    obtain ⟨b1, b2⟩ := Bool.and_eq_true_iff.1 hb
    have b1 := Nat.eq_of_beq_eq_true b1
    have b2 := Nat.eq_of_beq_eq_true b2
    simp only [List.mapM_cons, Option.bind_eq_bind, Option.pure_def] at hm
    cases h1 : DataW.trod enc P W 0 (fun _ => true) true fuel fd.type ((cs.drop fd.offset).take (P.cellsOf fd.type)) with
    | none => rw [h1] at hm; simp at hm
    | some y =>
     cases h2 : (fs.mapM fun f => DataW.trod enc P W 0 (fun _ => true) true fuel f.type ((cs.drop f.offset).take (P.cellsOf f.type))) with
     | none => rw [h1, h2] at hm; simp at hm
     | some r' =>
      rw [h1, h2] at hm
      simp at hm
      subst hm
      simp only [List.map_cons, DataW.weightsEach, List.mem_append] at hw
      obtain ⟨c1, hc1⟩ := IH _ _ _ _ _ e1 h1 fun w h => hw w (.inl h)
      obtain ⟨c2, hc2⟩ := ih _ _ _ e2 h2 fun w h => hw w (.inr h)
      refine ⟨c1 ++ c2, ?_⟩
      rw [b1, ← b2] at hc1
      rw [← b2, ← List.drop_drop] at hc2
      rw [List.length_append, List.take_add, aGw]
      exact hc1.append hc2
  ·cases hk
theorem aHo {f : TypeId → Option (List Kd)} (IH : aRm enc P W f) {fuel e : Nat} {cs : List Value} {ks : List Kd} (he : f e = some ks) (hl : ks.length = P.cellsOf e) {m : Nat} {r : List (DataW T × List MemPlace)}
 (hm : ((List.range m).mapM fun i => DataW.trod enc P W 0 (fun _ => true) true fuel e ((cs.drop (i * P.cellsOf e)).take (P.cellsOf e))) = some r) (hw : ∀ w ∈ DataW.weightsAll P e (r.map (·.1)), w ≤ reachBytes) :
 ∀ j, j ≤ m → ∃ c, CellsA (fun _ => False) (start W) (List.replicate j ks).flatten (iN (cs.take (j * ks.length))) c := by
 obtain ⟨q1, q2⟩ := aJy hm
 intro j
 induction j with
 | zero => intro _; exact ⟨[], by simp [iN, CellsA]⟩
 | succ j ih =>
  intro hj
  obtain ⟨c1, h1⟩ := ih (by omega)
  obtain ⟨y, y1, y2⟩ := q2 j j (List.getElem?_range (by omega))
  obtain ⟨c2, h2⟩ := IH _ _ _ _ _ he y2 fun w hw' => hw w (rP (List.mem_map.2 ⟨y, List.mem_of_getElem? y1, rfl⟩) w hw')
  refine ⟨c1 ++ c2, ?_⟩
  rw [← hl] at h2
  rw [List.replicate_succ', List.flatten_append, List.flatten_singleton, Nat.add_mul, Nat.one_mul, List.take_add, aGw]
  exact h1.append h2
theorem zC : ∀ (n : Nat), aRm enc P W (aDm P n) := by
 intro n
 induction n with
 | zero => intro t ks fuel cs x hk; simp [aDm] at hk
 | succ n ih =>
  intro t ks fuel cs x hk h hw
  cases fuel with
  | zero => simp [DataW.trod] at h
  | succ fuel =>
   simp only [aDm] at hk
   split at hk
   ·rename_i k hu
    cases hk
    obtain ⟨m, rfl, hm⟩ := Reads.int hu ⟨_, _, h⟩
    exact ⟨[.v (.int k m)], by simp only [iN, ext, CellsA, CellA]; exact ⟨⟨trivial, m, rfl, hm⟩, trivial⟩⟩
   ·rename_i hu
    cases hk
    obtain ⟨m, rfl⟩ := Reads.bool hu ⟨_, _, h⟩
    exact ⟨[.v (.bool m)], by simp only [iN, ext, CellsA, CellA]; exact ⟨⟨trivial, m, rfl⟩, trivial⟩⟩
   ·rename_i hu
    cases hk
    obtain ⟨m, rfl, hm⟩ := Reads.string hu ⟨_, _, h⟩
    exact ⟨[.v (.string m)], by simp only [iN, ext, CellsA, CellA]; exact ⟨⟨trivial, m, rfl, hm⟩, trivial⟩⟩
   ·rename_i e hu
    split at hk
    ·rename_i k1 e1
     cases hb : (Nat.beq k1.length (P.cellsOf e) && Nat.ble 1 (P.bytesOf e)) with
     | false => rw [hb] at hk; cases hk
     | true =>
      rw [hb, cond_true] at hk
      cases hk
      obtain ⟨b1, b2⟩ := Bool.and_eq_true_iff.1 hb
      have b1 := Nat.eq_of_beq_eq_true b1
      have b2 := Nat.le_of_ble_eq_true b2
      unfold DataW.trod at h
      rw [hu] at h
      split at h <;> (try (rename_i h1 _; cases h1; done)) <;> (try (rename_i h1; cases h1; done))
      ·exact ⟨[.row []], by simp only [iN, ext, CellsA, CellA]; exact ⟨⟨Nat.zero_le _, by simp, .inl ⟨trivial, trivial⟩⟩, trivial⟩⟩
      ·rename_i e' a len cap h1
       cases h1
       split at h
       ·rename_i hc
        simp only at h
        cases hm : (List.range len).mapM (fun i => (W.cells? 0 (a.add (i * P.cellsOf e)) (P.cellsOf e)).bind (DataW.trod enc P W 0 (fun _ => true) true fuel e)) with
        | none => rw [hm] at h; cases h
        | some r =>
         rw [hm, Option.bind_some] at h
         simp only [if_true] at h
         cases hr : (List.range (cap - len)).mapM (fun j => (W.cells? 0 (a.add ((len + j) * P.cellsOf e)) (P.cellsOf e)).bind (DataW.trod enc P W 0 (fun _ => true) true fuel e)) with
         | none => rw [hr] at h; cases h
         | some r' =>
          rw [hr, Option.map_some] at h
          cases h
          simp only [DataW.weights, hu, List.mem_cons, List.mem_append] at hw
          obtain ⟨q1, q2⟩ := aJy hm
          rw [List.length_range] at q1
          have hlen : (r.length + r'.length) * P.bytesOf e ≤ 140737488351232 := by have := hw _ (.inl rfl); simpa [reachBytes] using this
          have hl1 : len * P.bytesOf e ≤ 140737488351232 := Nat.le_trans (Nat.mul_le_mul_right _ (by omega)) hlen
          have hl0 : len ≤ 140737488351232 := Nat.le_trans (Nat.le_mul_of_pos_right _ b2) hl1
          obtain ⟨l, l1, l2⟩ : ∃ l : List (List CT), l.length = len ∧ ∀ (i : Nat) c, l[i]? = some c → ∃ xs, aloads (start W) ((fN a).add (i * k1.length)) k1.length = some xs ∧ CellsA (fun _ => False) (start W) k1 xs c := by
           refine aHd len fun i hi => ?_
           obtain ⟨y, y1, y2⟩ := q2 i i (List.getElem?_range hi)
           cases hcl : W.cells? 0 (a.add (i * P.cellsOf e)) (P.cellsOf e) with
           | none => rw [hcl] at y2; cases y2
           | some lc =>
            rw [hcl, Option.bind_some] at y2
            obtain ⟨p1, p2⟩ := cells?_read hcl
            obtain ⟨c, hcc⟩ := ih _ _ _ _ _ e1 y2 fun w hw' => hw w (.inr (.inl (rP (List.mem_map.2 ⟨y, List.mem_of_getElem? y1, rfl⟩) w hw')))
            refine ⟨c, iN lc, ?_, hcc⟩
            have h9 := aId (H := start W) p2
            rw [p1] at h9
            rw [b1, aFm]
            exact h9
          refine ⟨[.row l], ?_⟩
          simp only [iN, ext, CellsA, CellA]
          refine ⟨⟨by omega, by rw [l1]; exact hl1, .inr ⟨fN a, cap, by rw [l1], by omega, ⟨.inl (by simp [fN]), fun h9 => by simp [fN] at h9⟩, l2⟩⟩, trivial⟩
       ·cases h
      ·cases h
    ·cases hk
   ·rename_i fs hu
    split at hk
    ·rename_i k1 e1
     cases hb : Nat.beq k1.length (P.cellsOf t) with
     | false => rw [hb] at hk; cases hk
     | true =>
      rw [hb, cond_true] at hk
      cases hk
      have b1 := Nat.eq_of_beq_eq_true hb
      simp only [DataW.trod, hu] at h
      split at h
      ·rename_i hc
       cases hm : fs.toList.mapM (fun f => DataW.trod enc P W 0 (fun _ => true) true fuel f.type ((cs.drop f.offset).take (P.cellsOf f.type))) with
       | none => rw [hm] at h; cases h
       | some r =>
        rw [hm, Option.map_some] at h
        cases h
        simp only [DataW.weights, hu] at hw
        obtain ⟨c, hcc⟩ := aEa ih _ _ _ _ e1 hm hw
        rw [List.drop_zero, b1, ← hc, List.take_length] at hcc
        exact ⟨c, hcc⟩
      ·cases h
    ·cases hk
   ·rename_i m e hu
    split at hk
    ·rename_i k1 e1
     cases hb : (Nat.beq k1.length (P.cellsOf e) && Nat.beq (m * k1.length) (P.cellsOf t)) with
     | false => rw [hb] at hk; cases hk
     | true =>
      rw [hb, cond_true] at hk
      cases hk
      obtain ⟨b1, b2⟩ := Bool.and_eq_true_iff.1 hb
      have b1 := Nat.eq_of_beq_eq_true b1
      have b2 := Nat.eq_of_beq_eq_true b2
      simp only [DataW.trod, hu] at h
      split at h
      ·rename_i hc
       cases hm : (List.range m).mapM (fun i => DataW.trod enc P W 0 (fun _ => true) true fuel e ((cs.drop (i * P.cellsOf e)).take (P.cellsOf e))) with
       | none => rw [hm] at h; cases h
       | some r =>
        rw [hm, Option.map_some] at h
        cases h
        simp only [DataW.weights, hu] at hw
        obtain ⟨c, hcc⟩ := aHo ih e1 b1 hm hw m (Nat.le_refl _)
        rw [b2, ← hc, List.take_length] at hcc
        exact ⟨c, hcc⟩
      ·cases h
    ·cases hk
   ·cases hk
end
end Go.AM
namespace Go.AM
open Go.RowKit
section
variable {P : Program} {E : Env P} {G : RG} {i n d : Nat} {r : List Oper} {Q : Fr → AH → Prop} {t : Tr Value} {l : List (Nat × Value)} {H0 : AH} {A : Nat → Prop} {L L' : OL} {v : Value}
 {ty : TypeId} {ps : String} {af : Array Edge} {gd : Option (Nat × Bool)}
theorem HS.less {S H0 H : AH} {A0 A : Nat → Prop} {L L1 : OL} (h : HS S H0 A0 A L H) (hs : L1.Sublist L) : HS S H0 A0 A L1 H := ⟨h.kept, h.base, h.w0, h.sub, h.lt, fun p hp => h.own p (hs.subset hp), h.dist.sublist hs⟩
theorem eU {f : Fr} {ops : List Oper} {L1 : OL} (hs : L1.Sublist L) (hD : G.D = true → G.Lw.Sublist L1) (h : SO E G i ops Q f H0 A L1) : SO E G i ops Q f H0 A L := fun hDs H hH => h (hDs.list hD) H (hH.less hs)
end
end Go.AM
namespace Go.AM
open Go.RowKit
section
variable {P : Program} {E : Env P} {c : Code} {K : AQ} {f : Fr} {S H0 : AH} {A0 A : Nat → Prop} {L : OL}
end
section
variable {P : Program} {E : Env P} {G : RG} {i : Nat} {rest : List Oper} {Q : Fr → AH → Prop} {f : Fr} {H0 : AH} {A : Nat → Prop} {L L' : OL}
end
section
variable {A : Nat → Prop} {H : AH}
theorem aMn {ks : List Kd} {sz : Nat} {cells xs : List Value} {r : List (List CT)} {d : List CT} (hcl : cells.length = r.length * sz) (hxs : xs.length = sz) (hg : ∀ (j : Nat) c, r[j]? = some c → CellsA A H ks ((cells.drop (j * sz)).take sz) c) (h : CellsA A H ks xs d) :
 ∀ (j : Nat) c, (r ++ [d])[j]? = some c → CellsA A H ks (((cells ++ xs).drop (j * sz)).take sz) c := by
 intro j c hc
 rcases Nat.lt_or_ge j r.length with hj | hj
 ·rw [List.getElem?_append_left hj] at hc
  have hle : (j + 1) * sz ≤ r.length * sz := Nat.mul_le_mul_right _ hj
  rw [Nat.add_mul, Nat.one_mul] at hle
  rw [List.drop_append_of_le_length (by omega), List.take_append_of_le_length (by rw [List.length_drop]; omega)]
  exact hg j c hc
 ·rw [List.getElem?_append_right hj] at hc
  have h0 : j - r.length = 0 := by have := lt_of_getElem? hc; simp at this; omega
  rw [h0] at hc
  simp at hc
  subst hc
  obtain rfl : j = r.length := by omega
  rw [← hcl, List.drop_append_of_le_length (Nat.le_refl _), List.drop_length, List.nil_append, List.take_of_length_le (by omega)]
  exact h
end
end Go.AM
namespace Go.AM
open Go.RowKit
section
variable {P : Program} {E : Env P} {G : RG} {i n d : Nat} {r : List Oper} {Q : Fr → AH → Prop} {t : Tr Value} {l : List (Nat × Value)} {H0 : AH} {A : Nat → Prop} {L L' : OL} {v : Value} {x y : Operand} {gd : Option (Nat × Bool)} {af : Array Edge} {ps : String} {ty : TypeId}
end
section
variable {A : Nat → Prop} {H : AH}
end
theorem XCall.e {P : Program} {g : FuncId} {args : List Value} {H : AH} {a b : Value} {K : AH → Prop} (h : XCall P g args H fun v H' => v = a ∧ K H') (e : a = b) : XCall P g args H fun v H' => v = b ∧ K H' := e ▸ h
end Go.AM
namespace Go.AM
open Go.RowKit
section
variable {P : Program} (E : Env P)
theorem aMu {t : TypeId} {len : Nat} {ps : Array (Nat × Operand)} {o : Oper} (hop : o.op = .buildSlice t len ps) {ρ : Operand → Value} {H H' : AH} {v : Value} (h : iX E t len (ps.toList.map fun x => (x.1, ρ x.2)) H = some (v, H')) :
 ∃ ob, v = mkV (some len) (2 * H.nx + 1) ∧ H' = jG H ob ∧ aAb P o ρ (some len) ob := by
 unfold iX at h
 split at h
 ·rename_i e hu
  split at h
  ·rename_i i hi
   cases hb : (Nat.ble (len * i.size) 16777216 && !(Nat.beq i.size 0)) with
   | false => rw [hb] at h; cases h
   | true =>
    rw [hb, cond_true] at h
    simp only [Bool.and_eq_true] at hb
    have hle := Nat.le_of_ble_eq_true hb.1
    split at h
    ·rename_i z hz
     split at h
     ·rename_i out hf
      cases hlen : Nat.beq out.length (len * i.size) with
      | false => rw [hlen] at h; cases h
      | true =>
       rw [hlen, cond_true] at h
       cases h
       have hlen' := Nat.eq_of_beq_eq_true hlen
       refine ⟨_, rfl, rfl, fun ρ' w φ hρ => ?_⟩
       have hv : ∀ x ∈ ps.toList, ∀ ψ, φ <+: ψ → VR ψ (ρ x.2) (ρ' x.2) := fun x hx ψ hψ =>
        (hρ x.2 (by rw [hop]; show x.2 ∈ (ps.toList.map (·.2)).toArray; exact List.mem_toArray.2 (List.mem_map.2 ⟨x, hx, rfl⟩))).mono hψ
       have hpp : ∀ (ψ : List Place), φ <+: ψ → ∀ (i n : Nat) (v : Value) (n' : Nat) (v' : Value), (ps.toList.map fun x => (x.1, ρ x.2))[i]? = some (n, v) → (ps.toList.map fun x => (x.1, ρ' x.2))[i]? = some (n', v') → n = n' ∧ VR ψ v v' := by
        intro ψ hψ i n v n' v' h1 h2
        rw [List.getElem?_map] at h1 h2
        cases hl : ps.toList[i]? with
        | none => rw [hl] at h1; simp at h1
        | some x =>
         rw [hl] at h1 h2
         simp at h1 h2
         obtain ⟨rfl, rfl⟩ := h1
         obtain ⟨rfl, rfl⟩ := h2
         exact ⟨rfl, hv x (List.mem_of_getElem? hl) ψ hψ⟩
       obtain ⟨out', h1, h2⟩ := rM _ _ _ _ _ out (VRs.ext φ (nK (if len * i.size = 0 then #[] else z.cells) (len * i.size))) (by simp) (hpp φ (List.prefix_refl _)) hf
       have hall : ∀ ψ, φ <+: ψ → VRs ψ out out' := fun ψ hψ => by
        obtain ⟨out2, q1, q2⟩ := rM _ _ _ _ _ out (VRs.ext ψ (nK (if len * i.size = 0 then #[] else z.cells) (len * i.size))) (by simp) (hpp ψ hψ) hf
        rw [h1] at q1
        cases q1
        exact q2
       refine ⟨.cells out'.toArray e, out'.length, i.size, ?_, fun n hn => ?_, fun ψ hψ => ?_⟩
       ·have hps : (ps.map fun (x : Nat × Operand) => (x.1, ρ' x.2)) = ⟨ps.toList.map fun x => (x.1, ρ' x.2)⟩ := by rw [← Array.toList_inj]; simp
        have hne : ¬ (16777216 < len * i.size) := by omega
        simp only [nK, Array.toArray_toList] at h1
        have run : (Instr.buildSlice t len ⟨ps.toList.map fun x => (x.1, ρ' x.2)⟩).run P w = .ok (.slice (some ⟨w.heap.size, 0, none⟩) len len) (w.alloc (.cells out'.toArray e)) := by
         by_cases hz0 : len * i.size = 0
         ·rw [if_pos hz0] at h1
          simp [Instr.buildSlice, bM E hu, cD E hi, hz0, newRow] at h1 ⊢
          simp [h1]
         ·rw [if_neg hz0] at h1
          simp [Instr.buildSlice, bM E hu, cD E hi, hne, hz0, eC E hi hz, h1, newRow]
        simp only [execOp, hop, hps, Sem.run_bind, run, Result.andThen_ok, Sem.run_pure, mkV]
       ·cases hn; rw [← (h2.1), hlen', gL (E.sz_lt _ _ hi)]; exact Nat.le_refl _
       ·have hc := hall ψ hψ
        refine ⟨out'.toArray, e, 0, 0, rfl, fun k _ => by omega, by simp, ⟨rfl, SzE.small (E.sz_lt _ _ hi), fun _ => rfl⟩, by simp [hc.1], fun _ => by simp [hc.1], ?_⟩
        rw [hc.1]
        simpa using hc
     ·cases h
    ·cases h
  ·cases h
 ·cases h
def vU (bs ms : List Nat) : List Nat := ms.filter fun j => ms.any fun i => Nat.blt i j && !((bs.getD j 0).testBit i)
def yL (f : Fr) (o : Oper) : Bool :=
 match o.op with
 | .alloc _ => o.dst.isSome
 | .buildSlice _ _ _ => o.dst.isSome
 | _ => false
def aIh (ops : Array Oper) (L : List lJ) (fl : List Nat) : Bool := fl.all fun i => match ops[i]?, L[i]? with
 | some o, some s => yL s.1 o
 | _, _ => false
def zR (n : Nat) (bs ms fl : List Nat) : Bool :=
 ((List.range n).all fun k => fl.contains k || fl.all fun i => !((bs.getD k 0).testBit i) || ms.all fun j => Nat.ble i j || (bs.getD k 0).testBit j) &&
 (fl.all fun i => fl.all fun j => !((bs.getD i 0).testBit j))
def aAw (ops : Array Oper) (L : List lJ) (bs ms fl : List Nat) : Bool := sC bs fl ms && (aIh ops L fl && zR ops.size bs ms fl)
def pE (call : gK) (ops : Array Oper) (f : Fr) (H : AH) : Option (Fr × AH) :=
 bif jI ops (bef ops) then
  (match kB E call ops ops.toList f H with
  | some (l, g, H') =>
   (match iV 0 l with
   | [] => some (g, H')
   | m :: r => bif (gW (bef ops) (m :: r) || aAw ops l (bef ops) (m :: r) (vU (bef ops) (m :: r))) && mQ E ops (bef ops) (m :: r) ((0, H) :: lT l H' (m :: r)) 0 l then some (g, H') else none)
  | none => none)
 else none
theorem zA (bs : List Nat) : ∀ ms : List Nat, sC bs [] ms = gW bs ms
 | [] => rfl
 | i :: r => by simp [sC, gW, zA bs r]
theorem aGt {ops : Array Oper} {L : List lJ} {ms : List Nat} (h : (gW (bef ops) ms || aAw ops L (bef ops) ms (vU (bef ops) ms)) = true) : ∃ fl, (∀ i ∈ fl, i ∈ ms) ∧ sC (bef ops) fl ms = true ∧ aIh ops L fl = true ∧ zR ops.size (bef ops) ms fl = true := by
 rcases Bool.or_eq_true_iff.1 h with h | h
 ·exact ⟨[], (fun i hi => by cases hi), by rw [zA]; exact h, rfl, by simp [zR]⟩
 ·simp only [aAw, Bool.and_eq_true] at h
  exact ⟨_, fun i hi => (List.mem_filter.1 hi).1, h.1, h.2.1, h.2.2⟩
theorem aHw {n : Nat} {bs ms fl : List Nat} (h : zR n bs ms fl = true) :
 (∀ k i j, k < n → k ∉ fl → i ∈ fl → j ∈ ms → j < i → (bs.getD k 0).testBit i = true → (bs.getD k 0).testBit j = true) ∧ (∀ i j, i ∈ fl → j ∈ fl → (bs.getD i 0).testBit j = false) := by
 simp only [zR, Bool.and_eq_true, List.all_eq_true] at h
 obtain ⟨h2, h3⟩ := h
 refine ⟨fun k i j hk hnk hi hj hji hb => ?_, fun i j hi hj => ?_⟩
 ·have := h2 k (List.mem_range.2 hk)
  simp only [Bool.or_eq_true, List.all_eq_true] at this
  rcases this with q | q
  ·exact absurd (by simpa using q) hnk
  ·rcases q i hi with q | q
   ·rw [hb] at q; cases q
   ·rcases q j hj with q | q
    ·have := Nat.le_of_ble_eq_true q; omega
    ·exact q
 ·have := h3 i hi j hj
  simpa using this
theorem aDh {call : gK} (hcall : jA P call) (hm : P.follows .mixedOrders = true) {ops : Array Oper} {Q : AQ} {f g : Fr} {H K : AH} (hQ : Q .normal g K) (h : pE E call ops f H = some (g, K)) (id : Nat) : ACode P (.region id ops true) Q f H := by
 unfold pE at h
 cases hord : jI ops (bef ops) with
 | false => rw [hord] at h; cases h
 | true =>
  rw [hord, cond_true] at h
  split at h
  ·rename_i L g' K' hrun
   obtain ⟨hlen, hst⟩ := aCk E _ _ _ _ _ _ hrun
   have hgK : g' = g ∧ K' = K := by
    split at h
    ·cases h; exact ⟨rfl, rfl⟩
    ·rcases bY h with h | h
     ·cases h; exact ⟨rfl, rfl⟩
     ·cases h
   obtain ⟨rfl, rfl⟩ := hgK
   have hlen' : L.length = ops.size := by rw [hlen, Array.length_toList]
   let A := L ++ [(g', K', undef, false)]
   let d : lJ := (g', K', undef, false)
   let F := fun i => (A.getD i d).1
   let HH := fun i => (A.getD i d).2.1
   let V := fun i => (A.getD i d).2.2.1
   let M := fun i => (A.getD i d).2.2.2
   have hA : ∀ i, i < ops.size → ∃ s, L[i]? = some s ∧ A.getD i d = s := by
    intro i hi
    refine ⟨L[i]'(by omega), by simp [hlen', hi], ?_⟩
    simp only [A, List.getD_eq_getElem?_getD]
    rw [List.getElem?_append_left (by omega)]
    simp [hlen', hi]
   have hAn : A.getD ops.size d = d := by
    simp only [A, List.getD_eq_getElem?_getD]
    rw [List.getElem?_append_right (by omega)]
    simp [hlen', d]
   have hstep : ∀ i o, ops[i]? = some o → uG E call ops o (F i) (HH i) = some (V i, HH (i + 1), M i) ∧ (F i).put o.dst (V i) = some (F (i + 1)) := by
    intro i o ho
    obtain ⟨s, h1, h2⟩ := hA i (alt_of_getElem? ho)
    obtain ⟨s', q1, q2, q3⟩ := hst i o s (by simpa using ho) h1
    have e : A.getD (i + 1) d = s' := by simp only [A, List.getD_eq_getElem?_getD, q1, Option.getD_some]
    simp only [F, HH, V, M, h2, e]
    exact ⟨q2, q3⟩
   have hmm : ∀ i, i < ops.size → (M i = true ↔ i ∈ iV 0 L) := by
    intro i hi
    obtain ⟨s, h1, h2⟩ := hA i hi
    rw [jB]
    simp only [M, h2]
    constructor
    ·intro hM; exact ⟨i, s, h1, hM, by omega⟩
    ·rintro ⟨j, s', h3, h4, h5⟩
     obtain rfl : j = i := by omega
     rw [h1] at h3; cases h3; exact h4
   have hF0 : F 0 = f ∧ HH 0 = H := by
    by_cases hz : ops.size = 0
    ·have hnil : ops.toList = [] := List.eq_nil_of_length_eq_zero (by rw [Array.length_toList]; exact hz)
     rw [hnil] at hrun
     simp [kB] at hrun
     obtain ⟨rfl, rfl, rfl⟩ := hrun
     exact ⟨rfl, rfl⟩
    ·cases hops : ops.toList with
     | nil => have : ops.toList.length = 0 := by rw [hops]; rfl
              rw [Array.length_toList] at this; omega
     | cons o r =>
      rw [hops] at hrun
      simp only [kB] at hrun
      split at hrun
      ·split at hrun
       ·split at hrun
        ·cases hrun; exact ⟨rfl, rfl⟩
        ·cases hrun
       ·cases hrun
      ·cases hrun
   have still : ∀ i, i < ops.size → M i = false → HH (i + 1) = HH i := by
    intro i hi hM
    have ho : ops[i]? = some ops[i] := Array.getElem?_eq_getElem hi
    rcases fM E (hstep i _ ho).1 with ⟨_, _, _, h4⟩ | ⟨_, _, h4, _⟩ | ⟨_, h4, _⟩ | ⟨_, h4, _⟩
    ·exact h4
    ·exact h4
    ·rw [hM] at h4; cases h4
    ·rw [hM] at h4; cases h4
   have w0s : ∀ i, i < ops.size → (HH (i + 1)).w0 = (HH i).w0 := by
    intro i hi
    have ho : ops[i]? = some ops[i] := Array.getElem?_eq_getElem hi
    rcases fM E (hstep i _ ho).1 with ⟨_, _, _, h4⟩ | ⟨_, _, h4, _⟩ | ⟨_, _, h4⟩ | ⟨_, _, c, args, _, h4⟩
    ·rw [h4]
    ·rw [h4]
    ·exact qC E h4
    ·exact (hcall _ _ _ _ _ h4).1
   have hfl : ∃ fl, (∀ i ∈ fl, i ∈ iV 0 L) ∧ sC (bef ops) fl (iV 0 L) = true ∧ aIh ops L fl = true ∧ zR ops.size (bef ops) (iV 0 L) fl = true := by
    split at h
    ·rename_i hnil
     rw [hnil]
     exact ⟨[], (fun i hi => by cases hi), rfl, rfl, by simp [zR]⟩
    ·rename_i m r hms
     cases hck : ((gW (bef ops) (m :: r) || aAw ops L (bef ops) (m :: r) (vU (bef ops) (m :: r))) && mQ E ops (bef ops) (m :: r) ((0, H) :: lT L K' (m :: r)) 0 L) with
     | false => rw [hck] at h; cases h
     | true =>
      simp only [Bool.and_eq_true] at hck
      rw [hms]
      exact aGt hck.1
   obtain ⟨fl, hsub, hpairs, hfine, hford⟩ := hfl
   have hford' := aHw hford
   have T : TraceF E ops F HH V M (fun i => fl.contains i) := by
    refine ⟨⟨hord, fun i o ho => (hstep i o ho).2⟩, fun i o ho hFi => ?_, fun i o ho hFi => ?_, still, fun i j hij hj hMi hMj => ?_, fun k i j hk hi hj hFk hFi hMj hb => ?_, fun i j hi hj hFi hFj => ?_⟩
    ·have hi := alt_of_getElem? ho
     rcases fM E (hstep i o ho).1 with ⟨h1, h2, h3, h4⟩ | ⟨h1, h2, h3, h4, h5⟩ | ⟨h1, h2, h3⟩ | ⟨h1, h2, c, args, h3, h4⟩
     ·exact .inl ⟨h1, h2, h3⟩
     ·refine .inr (.inl ⟨h1, h2, h4, fun t ht hb ha => ?_⟩)
      cases hp : jO E o.op with
      | true => exact vY E hp h5 (HH t)
      | false =>
       split at h
       ·-- no mains at all
        rename_i hnil
        have hno : ∀ j, j < ops.size → M j = false := by
         intro j hj
         cases hMj : M j with
         | false => rfl
         | true => have := (hmm j hj).1 hMj; rw [hnil] at this; cases this
        have hconst : ∀ k, k ≤ ops.size → HH k = HH 0 := by
         intro k
         induction k with
         | zero => intro _; rfl
         | succ k ihk => intro hk; rw [still k (by omega) (hno k (by omega))]; exact ihk (by omega)
        rw [hconst t ht, ← hconst i (by omega)]; exact h5
       ·rename_i m r hms
        cases hck : ((gW (bef ops) (m :: r) || aAw ops L (bef ops) (m :: r) (vU (bef ops) (m :: r))) && mQ E ops (bef ops) (m :: r) ((0, H) :: lT L K' (m :: r)) 0 L) with
        | false => rw [hck] at h; cases h
        | true =>
         simp only [Bool.and_eq_true] at hck
         obtain ⟨s, hs1, hs2⟩ := hA i hi
         have hF : F i = s.1 := by simp only [F, hs2]
         have hV : V i = s.2.2.1 := by simp only [V, hs2]
         have hM : M i = s.2.2.2 := by simp only [M, hs2]
         have hq := aAa E L 0 hck.2 i s o hs1 (by rw [Nat.zero_add]; exact ho) (by rw [← hM]; exact h2) hp (by rw [← hF]; exact h1)
         rw [Nat.zero_add] at hq
         -- the heap at t is one of those that were tried
         have hrep : ∃ t', t' ≤ t ∧ HH t' = HH t ∧ (t', HH t') ∈ ((0, H) :: lT L K' (m :: r)) ∧ (∀ j, j < ops.size → M j = true → j < t → j < t') := by
          clear hb ha
          induction t with
          | zero => exact ⟨0, Nat.le_refl _, rfl, by rw [hF0.2]; exact List.mem_cons_self .., fun j _ _ h => h⟩
          | succ t iht =>
           cases hMt : M t with
           | true =>
            refine ⟨t + 1, Nat.le_refl _, rfl, List.mem_cons_of_mem _ ?_, fun j _ _ h => h⟩
            have hin := (hmm t (by omega)).1 hMt
            rw [hms] at hin
            have := xV (L := L) (last := K') hin
            have e : HH (t + 1) = (match L[t + 1]? with | some s => s.2.1 | none => K') := by
             by_cases hlt : t + 1 < ops.size
             ·obtain ⟨s2, q1, q2⟩ := hA (t + 1) hlt
              simp only [HH, q2, q1]
             ·have he : t + 1 = ops.size := by omega
              have : L[t + 1]? = none := List.getElem?_eq_none (by omega)
              simp only [HH, he, hAn, d]
              rw [← he, this]
            rw [e]; exact this
           | false =>
            obtain ⟨t', r1, r2, r3, r4⟩ := iht (by omega)
            refine ⟨t', by omega, by rw [r2, still t (by omega) hMt], r3, fun j hj hMj hjt => ?_⟩
            by_cases e : j = t
            ·subst e; rw [hMt] at hMj; cases hMj
            ·exact r4 j hj hMj (by omega)
         obtain ⟨t', r1, r2, r3, r4⟩ := hrep
         have hqa := hq _ r3
         simp only [yN, Bool.or_eq_true, List.any_eq_true, Bool.and_eq_true, Bool.not_eq_true'] at hqa
         rcases hqa with ⟨j, hj, hbit, hge⟩ | ⟨j, hj, hbit, hlt⟩ | hval
         ·exfalso
          rw [← hms] at hj
          obtain ⟨ii, ss, q1, q2, rfl⟩ := (jB L 0 j).1 hj
          have hjlt : 0 + ii < ops.size := by have := lt_of_getElem? q1; omega
          have hMj := (hmm _ hjlt).2 hj
          have := r4 _ hjlt hMj (hb _ hjlt hMj hbit)
          have hlt' : Nat.blt (0 + ii) t' = true := by simp only [Nat.blt, Nat.ble_eq]; omega
          rw [hlt'] at hge; cases hge
         ·exfalso
          rw [← hms] at hj
          obtain ⟨ii, ss, q1, q2, rfl⟩ := (jB L 0 j).1 hj
          have hjlt : 0 + ii < ops.size := by have := lt_of_getElem? q1; omega
          have hMj := (hmm _ hjlt).2 hj
          have := ha _ hjlt hMj hbit
          simp only [Nat.blt, Nat.ble_eq] at hlt
          omega
         ·rw [← r2]
          split at hval
          ·rename_i u K2 hu
           have e1 := aRa hval
           have e2 := uF E h4 hu
           rw [hF, hV, hu, e1, e2]
          ·cases hval
     ·exact .inr (.inr (.inl ⟨h1, h2, h3⟩))
     ·exact .inr (.inr (.inr ⟨h1, h2, c, args, h3, (hcall _ _ _ _ _ h4).2⟩))
    ·-- makers
     have hin : i ∈ fl := by simpa using hFi
     have hi := alt_of_getElem? ho
     have hMi : M i = true := (hmm i hi).2 (hsub i hin)
     obtain ⟨s, hs1, hs2⟩ := hA i hi
     have hF : F i = s.1 := by simp only [F, hs2]
     have hmk : yL (F i) o = true := by
      have := List.all_eq_true.1 hfine i hin
      simp only [ho, hs1] at this
      rw [hF]; exact this
     rcases fM E (hstep i o ho).1 with ⟨_, _, h3, _⟩ | ⟨_, h3, _⟩ | ⟨h1, h2, h3⟩ | ⟨h1, h2, c, args, h3, _⟩
     ·rw [hMi] at h3; cases h3
     ·rw [hMi] at h3; cases h3
     ·unfold yL at hmk
      split at hmk
      ·rename_i ty hop
       obtain ⟨d2, hd2⟩ := Option.isSome_iff_exists.1 hmk
       rw [hop] at h3
       simp only [aop, aAo] at h3
       split at h3
       ·rename_i ii hii
        split at h3
        ·rename_i z hz
         simp only [aJi, Option.some.injEq, Prod.mk.injEq] at h3
         exact ⟨hMi, h1, d2, none, _, hd2, h3.1.symm, h3.2.symm, aLl E hii hz hop _⟩
        ·cases h3
       ·cases h3
      ·rename_i t n ps hop
       obtain ⟨d2, hd2⟩ := Option.isSome_iff_exists.1 hmk
       rw [hop] at h3
       simp only [aop] at h3
       obtain ⟨ob, q1, q2, q3⟩ := aMu E hop h3
       exact ⟨hMi, h1, d2, some n, ob, hd2, q1, q2, q3⟩
      ·cases hmk
     ·unfold yL at hmk
      split at hmk
      ·rename_i ty hop; rw [hop] at h3; simp only [fL] at h3; cases h3
      ·rename_i t n ps hop; rw [hop] at h3; simp only [fL] at h3; cases h3
      ·cases hmk
    ·exact aIu hpairs (rH L 0) i j ((hmm i (by omega)).1 hMi) ((hmm j hj).1 hMj) hij
    ·exact hford'.1 k i j hk (by simpa using hFk) (by simpa using hFi) ((hmm j (by omega)).1 hMj) hj hb
    ·exact hford'.2 i j (by simpa using hFi) (by simpa using hFj)
   have := T.region hm w0s (Q := Q) (by simp only [F, HH, hAn]; exact hQ) id
   rw [hF0.1, hF0.2] at this
   exact this
  ·cases h
def iL (call : gK) (fuel : Nat) : Code → Fr → AH → Option (Exit × Fr × AH)
 | .skip, f, H => some (.normal, f, H)
 | .label _, f, H => some (.normal, f, H)
 | .exit i, f, H => some (.exit i, f, H)
 | .ret, f, H => some (.ret, f, H)
 | .seq a b, f, H => (match iL call fuel a f H with
  | some (.normal, f', H') => iL call fuel b f' H'
  | r => r)
 | .cond c x y, f, H => (match fC f c with
  | .bool true => iL call fuel x f H
  | .bool false => iL call fuel y f H
  | _ => none)
 | .block i c, f, H => (match iL call fuel c f H with
  | some (.exit j, f', H') => bif Nat.beq j i then some (.normal, f', H') else some (.exit j, f', H')
  | r => r)
 | .loop c, f, H => uZ (iL call fuel c) fuel f H
 | .region _ ops draw, f, H =>
  bif draw then (match pE E call ops f H with
   | some (g, K) => some (.normal, g, K)
   | none => none)
  else (match mR E call ops ops.toList f H with
   | some (g, K) => some (.normal, g, K)
   | none => none)
 | _, _, _ => none
def qZ : Nat → gK
 | 0, _, _, _ => none
 | n + 1, g, args, H => (match E.fn g with
  | some x => (match iL E (qZ n) n x.body (tY args x.ntmps) H with
   | some (.normal, f, H') => (match eH E f H' x.results with
    | some vs => some (fB vs, H')
    | none => none)
   | some (.ret, f, H') => (match eH E f H' x.results with
    | some vs => some (fB vs, H')
    | none => none)
   | _ => none)
  | none => none)
theorem aDg {call : gK} (hcall : jA P call) {ops : Array Oper} {f g : Fr} {H K : AH} (h : pE E call ops f H = some (g, K)) : K.w0 = H.w0 := by
 unfold pE at h
 rcases bY h with h | h
 ·split at h
  ·rename_i L g' K' hr
   split at h
   ·cases h; exact sO E hcall _ _ _ _ _ _ hr
   ·rcases bY h with h | h
    ·cases h; exact sO E hcall _ _ _ _ _ _ hr
    ·cases h
  ·cases h
 ·cases h
theorem zL {call : gK} (hcall : jA P call) (hm : P.follows .mixedOrders = true) (fuel : Nat) : ∀ (c : Code) (f : Fr) (H : AH) (e : Exit) (g : Fr) (K : AH), iL E call fuel c f H = some (e, g, K) → xD P c e g K f H := by
 intro c
 induction c with
 | skip => intro f H e g K h; simp only [iL] at h; cases h; exact ⟨rfl, ACode.skip ⟨rfl, rfl, rfl⟩⟩
 | label l => intro f H e g K h; simp only [iL] at h; cases h; exact ⟨rfl, ACode.label ⟨rfl, rfl, rfl⟩⟩
 | exit i => intro f H e g K h; simp only [iL] at h; cases h; exact ⟨rfl, ACode.exit ⟨rfl, rfl, rfl⟩⟩
 | ret => intro f H e g K h; simp only [iL] at h; cases h; exact ⟨rfl, ACode.ret ⟨rfl, rfl, rfl⟩⟩
 | seq x y ihx ihy =>
  intro f H e g K h
  simp only [iL] at h
  cases hx : iL E call fuel x f H with
  | none => rw [hx] at h; cases h
  | some r =>
   obtain ⟨e1, f1, H1⟩ := r
   rw [hx] at h
   obtain ⟨w1, c1⟩ := ihx _ _ _ _ _ hx
   by_cases he : e1 = .normal
   ·subst he
    simp only at h
    obtain ⟨w2, c2⟩ := ihy _ _ _ _ _ h
    refine ⟨w2.trans w1, ACode.seq c1 ?_ ?_⟩
    ·rintro f' H' ⟨_, rfl, rfl⟩; exact c2
    ·rintro e' f' H' hne ⟨rfl, _⟩; exact absurd rfl hne
   ·have hh : e1 = e ∧ f1 = g ∧ H1 = K := by
     cases e1 with
     | normal => exact absurd rfl he
     | _ => simp only [Option.some.injEq, Prod.mk.injEq] at h; exact h
    obtain ⟨rfl, rfl, rfl⟩ := hh
    refine ⟨w1, ACode.seq c1 ?_ ?_⟩
    ·rintro f' H' ⟨e0, _⟩; exact absurd e0.symm he
    ·rintro e' f' H' _ k; exact k
 | cond c x y ihx ihy =>
  intro f H e g K h
  simp only [iL] at h
  split at h
  ·rename_i hc
   obtain ⟨w1, c1⟩ := ihx _ _ _ _ _ h
   exact ⟨w1, ACode.cond hc c1⟩
  ·rename_i hc
   obtain ⟨w1, c1⟩ := ihy _ _ _ _ _ h
   exact ⟨w1, ACode.cond hc c1⟩
  ·cases h
 | block i c ih =>
  intro f H e g K h
  simp only [iL] at h
  cases hx : iL E call fuel c f H with
  | none => rw [hx] at h; cases h
  | some r =>
   obtain ⟨e1, f1, H1⟩ := r
   rw [hx] at h
   obtain ⟨w1, c1⟩ := ih _ _ _ _ _ hx
   have fin : H1 = K → f1 = g → (∀ f' H', f' = g → H' = K → (match e1 with | .exit j => if j = i then (Exit.normal = e ∧ f' = g ∧ H' = K) else (Exit.exit j = e ∧ f' = g ∧ H' = K) | e' => (e' = e ∧ f' = g ∧ H' = K))) → xD P (.block i c) e g K f H := by
    rintro rfl rfl k
    refine ⟨w1, ACode.block (c1.mono ?_)⟩
    rintro e' f' H' ⟨rfl, rfl, rfl⟩
    have := k f' H' rfl rfl
    cases e' <;> exact this
   cases e1 with
   | exit j =>
    simp only at h
    cases hj : Nat.beq j i with
    | true =>
     rw [hj, cond_true] at h
     cases h
     have := Nat.eq_of_beq_eq_true hj
     exact fin rfl rfl fun f' H' h1 h2 => by simp only [this, if_true]; exact ⟨trivial, h1, h2⟩
    | false =>
     rw [hj, cond_false] at h
     cases h
     have : ¬ j = i := fun e => by rw [e] at hj; simp at hj
     exact fin rfl rfl fun f' H' h1 h2 => by simp only [this, if_false]; exact ⟨trivial, h1, h2⟩
   | _ =>
    simp only [Option.some.injEq, Prod.mk.injEq] at h
    obtain ⟨rfl, rfl, rfl⟩ := h
    exact fin rfl rfl fun f' H' h1 h2 => ⟨rfl, h1, h2⟩
 | loop c ih =>
  intro f H e g K h
  simp only [iL] at h
  exact aGk ih fuel f H e g K h
 | region i ops draw =>
  intro f H e g K h
  simp only [iL] at h
  cases draw with
  | true =>
   rw [cond_true] at h
   split at h
   ·rename_i g' K' hd
    cases h
    exact ⟨aDg E hcall hd, aDh E hcall hm ⟨rfl, rfl, rfl⟩ hd i⟩
   ·cases h
  | false =>
   rw [cond_false] at h
   split at h
   ·rename_i g' K' hd
    cases h
    refine ⟨aAh E hcall _ _ _ hd, ACode.region ?_⟩
    have := zU E hcall (Q := fun e' g'' K'' => e' = Exit.normal ∧ g'' = g ∧ K'' = K) ⟨rfl, rfl, rfl⟩ ops.toList 0 f H (fun j => by simp) hd
    rw [Array.length_toList, ← List.range_eq_range'] at this
    exact this
   ·cases h
 | _ => intro f H e g K h; simp only [iL] at h; cases h
theorem aLm (hm : P.follows .mixedOrders = true) : ∀ n, jA P (qZ E n) := by
 intro n
 induction n with
 | zero => intro g args H v H' h; cases h
 | succ n ih =>
  intro g args H v H' h
  simp only [qZ] at h
  split at h
  ·rename_i x hg
   have fin : ∀ {e f K}, iL E (qZ E n) n x.body (tY args x.ntmps) H = some (e, f, K) → (e = .normal ∨ e = .ret) → (match eH E f K x.results with | some vs => some (fB vs, K) | none => none) = some (v, H') →
    H'.w0 = H.w0 ∧ ACalls P g args H fun u K => u = v ∧ K = H' := by
    intro e f K hr he hv
    split at hv
    ·rename_i vs hvs
     cases hv
     obtain ⟨w1, c1⟩ := zL E ih hm n _ _ _ _ _ _ hr
     refine ⟨w1, ACalls.body E hg (c1.mono ?_)⟩
     rintro e' f' K' ⟨rfl, rfl, rfl⟩
     exact ⟨he, vs, hvs, rfl, rfl⟩
    ·cases hv
   split at h
   ·rename_i f K hr; exact fin hr (.inl rfl) h
   ·rename_i f K hr; exact fin hr (.inr rfl) h
   ·cases h
  ·cases h
end
end Go.AM
namespace Go.AM
open Go.RowKit
theorem aNn {φ : List Place} {v v' : Value} (h : VR φ v v') (hf : flat v = true) : v' = v := by
 cases v with
 | agg cs =>
  cases cs with
  | mk l =>
   cases h with
   | agg ha hv => rw [oY ⟨ha, hv⟩ hf]
 | _ => exact aGf h hf
theorem aGu {φ : List Place} : ∀ {l l' : List Value}, VRs φ l l' → l.all flat = true → l' = l
 | [], l', h, _ => List.eq_nil_of_length_eq_zero h.1.symm
 | v :: l, [], h, _ => by have := h.1; simp at this
 | v :: l, v' :: l', h, hf => by
  simp only [List.all_cons, Bool.and_eq_true] at hf
  rw [aNn h.head hf.1, aGu h.tail hf.2]
section
variable {P : Program} (E : Env P)
abbrev aWf := FuncId → List Value → Option Value
def TabOk (P : Program) (tb : aWf) : Prop := ∀ g args r, tb g args = some r → args.all flat = true ∧ aBc r = true ∧ ∀ w, Flat P g args w r
def aEh (tb : aWf) : Nat → gK
 | 0, _, _, _ => none
 | n + 1, g, args, H => (match tb g args with
  | some r => some (r, H)
  | none => (match E.fn g with
   | some x => (match iL E (aEh tb n) n x.body (tY args x.ntmps) H with
    | some (.normal, f, H') => (match eH E f H' x.results with
     | some vs => some (fB vs, H')
     | none => none)
    | some (.ret, f, H') => (match eH E f H' x.results with
     | some vs => some (fB vs, H')
     | none => none)
    | _ => none)
   | none => none))
theorem aMr {tb : aWf} (htb : TabOk P tb) (hm : P.follows .mixedOrders = true) : ∀ n, jA P (aEh E tb n) := by
 intro n
 induction n with
 | zero => intro g args H v H' h; cases h
 | succ n ih =>
  intro g args H v H' h
  simp only [aEh] at h
  split at h
  ·rename_i r hr
   cases h
   obtain ⟨h1, h2, h3⟩ := htb _ _ _ hr
   refine ⟨rfl, ACalls.flat h2 fun π φ args' w hv hR => ?_⟩
   rw [aGu hv h1]
   exact h3 w
  ·split at h
   ·rename_i x hg
    have fin : ∀ {e f K}, iL E (aEh E tb n) n x.body (tY args x.ntmps) H = some (e, f, K) → (e = .normal ∨ e = .ret) → (match eH E f K x.results with | some vs => some (fB vs, K) | none => none) = some (v, H') →
     H'.w0 = H.w0 ∧ ACalls P g args H fun u K => u = v ∧ K = H' := by
     intro e f K hr he hv
     split at hv
     ·rename_i vs hvs
      cases hv
      obtain ⟨w1, c1⟩ := zL E ih hm n _ _ _ _ _ _ hr
      refine ⟨w1, ACalls.body E hg (c1.mono ?_)⟩
      rintro e' f' K' ⟨rfl, rfl, rfl⟩
      exact ⟨he, vs, hvs, rfl, rfl⟩
     ·cases hv
    split at h
    ·rename_i f K hr; exact fin hr (.inl rfl) h
    ·rename_i f K hr; exact fin hr (.inr rfl) h
    ·cases h
   ·cases h
end
end Go.AM
namespace Go.AM
open Go.RowKit
section
variable {P : Program} {E : Env P} {G : RG} {i n d : Nat} {r : List Oper} {Q : Fr → AH → Prop} {t : Tr Value} {l : List (Nat × Value)} {S H0 : AH} {A0 A : Nat → Prop} {L L' : OL} {v u : Value} {x y : Operand} {gd : Option (Nat × Bool)} {af : Array Edge} {ps : String} {ty : TypeId}
theorem amax2 {k : IntKind} {a b : Int} : yB true (.int k a) [.int k b] = some (.int k (max a b)) := by
 simp only [yB, decide_true, cond_true, if_true]
 congr 2
 by_cases h : b > a
 ·rw [if_pos h]; omega
 ·rw [if_neg h]; omega
theorem amin2 {k : IntKind} {a b : Int} : yB false (.int k a) [.int k b] = some (.int k (min a b)) := by
 simp only [yB, decide_true, cond_true, Bool.false_eq_true, if_false]
 congr 2
 by_cases h : b < a
 ·rw [if_pos h]; omega
 ·rw [if_neg h]; omega
theorem aDq {c : Call} {k : IntKind} {a b m : Int} (hw : gok G.ops l gd = true) (hdn : Nat.ble (d + 1) n = true) (hc : c.callee = .builtin .max) (ha : c.args.toList = [x, y]) (hx : opv l x = some (.int k a)) (hy : opv l y = some (.int k b)) (hm : max a b = m)
 (h : SO E G (i + 1) r Q (fr n t ((d, .int k m) :: l)) H0 A L) : SO E G i (⟨some d, .call c, ty, ps, af, gd⟩ :: r) Q (fr n t l) H0 A L :=
 eT hw rfl hdn (by simp only [jO, hc]) (fun H => by subst hm; simp only [aop, hc, ha, List.map_cons, List.map_nil, cG hx, cG hy, amax2, dL]) h
theorem aKb {c : Call} {k : IntKind} {a b m : Int} (hw : gok G.ops l gd = true) (hdn : Nat.ble (d + 1) n = true) (hc : c.callee = .builtin .min) (ha : c.args.toList = [x, y]) (hx : opv l x = some (.int k a)) (hy : opv l y = some (.int k b)) (hm : min a b = m)
 (h : SO E G (i + 1) r Q (fr n t ((d, .int k m) :: l)) H0 A L) : SO E G i (⟨some d, .call c, ty, ps, af, gd⟩ :: r) Q (fr n t l) H0 A L :=
 eT hw rfl hdn (by simp only [jO, hc]) (fun H => by subst hm; simp only [aop, hc, ha, List.map_cons, List.map_nil, cG hx, cG hy, amin2, dL]) h
end
section
variable {P : Program} {E : Env P} {t : TypeId} {k : IntKind} {a b c : Int}
theorem aKk (hb : b ≠ 0) (h : k.wrap (a.tdiv b) = c) : dM E .quo t (.int k a) (.int k b) = some (.int k c) := by simp only [dM, eQ]; rw [if_neg hb, h, if_pos trivial]
theorem yT (hb : b ≠ 0) (h : a.tmod b = c) : dM E .rem t (.int k a) (.int k b) = some (.int k c) := by simp only [dM, eQ]; rw [if_neg hb, h, if_pos trivial]
theorem gT {x y : Bool} (hu : E.und t = some .bool) : dM E .neq t (.bool x) (.bool y) = some (.bool (x != y)) := by cases x <;> cases y <;> simp [dM, hu, aeq, jE]
theorem wI {x y : Bool} (hu : E.und t = some .bool) : dM E .eql t (.bool x) (.bool y) = some (.bool (x == y)) := by cases x <;> cases y <;> simp [dM, hu, aeq, jE]
end
end Go.AM
namespace Go.AM
open Go.RowKit
section
variable {P : Program} {E : Env P} {ops : Array Oper} {ms : List Nat} {W W' : AH → Prop}
theorem RunD.drawZ {m : Nat} {o : Oper} {f g1 g : Fr} {H K1 K : AH} {L1 L2 : List lJ} (h1 : RunD E true ops ms W 0 (ops.toList.take m) f H L1 g1 K1) (h2 : RunD E false ops [] W' m [o] g1 K1 L2 g K) (ho : ops.toList.drop m = [o])
 (hq : gV E o.op = false) (hgd : o.guard = none) (hall : ((List.range m).all fun i => ((bef ops).getD m 0).testBit i) = true) (hm : P.follows .mixedOrders = true) (hord : jI ops (bef ops) = true) (hpairs : gW (bef ops) ms = true) (hsorted : ms.Pairwise (· < ·)) (hW : W H) (id : Nat) :
 xD P (.region id ops true) .normal g K f H := by
 have hsz : ops.size = m + 1 := by
  have := congrArg List.length ho
  rw [List.length_drop, Array.length_toList, List.length_singleton] at this
  omega
 have hom : ops[m]? = some o := by
  have : (ops.toList.drop m)[0]? = some o := by rw [ho]; rfl
  rw [List.getElem?_drop, Nat.add_zero, Array.getElem?_toList] at this
  exact this
 obtain ⟨v, hp, hz⟩ : ∃ v, g1.put o.dst v = some g ∧ (aop E (fC g1) o.op K1 = some (v, K) ∨ (K.w0 = K1.w0 ∧ ∃ c args, fL E (fC g1) o.op = some (c, args) ∧ ACalls P c args K1 fun u K' => u = v ∧ K' = K)) := by
  cases h2 with
  | cons hs hp r =>
   cases r
   have haw : dI ops (fQ g1) o = true := by unfold dI; rw [hgd]
   rcases hs with ⟨q, _⟩ | ⟨_, _, _, ⟨q, _⟩, _⟩ | ⟨_, _, _, q⟩ | ⟨_, _, _, q0, q⟩
   ·rw [haw] at q; cases q
   ·rw [hq] at q; cases q
   ·exact ⟨_, hp, .inl q⟩
   ·exact ⟨_, hp, .inr ⟨q0, q⟩⟩
 have haw : dI ops (fQ g1) o = true := by unfold dI; rw [hgd]
 have hw1 := h1.w0
 have hw2 : K.w0 = K1.w0 := by
  rcases hz with q | ⟨q, _⟩
  ·exact qC E q
  ·exact q
 refine ⟨hw2.trans hw1, ?_⟩
 obtain ⟨hlen, ⟨s0, hs0, hs0f, hs0H⟩, hst⟩ := h1.at
 have hlen' : L1.length = m := by rw [hlen, List.length_take, Array.length_toList, hsz]; omega
 let A : List lJ := L1 ++ [(g1, K1, v, true), (g, K, undef, false)]
 let d : lJ := (g, K, undef, false)
 let F := fun i => (A.getD i d).1
 let HH := fun i => (A.getD i d).2.1
 let V := fun i => (A.getD i d).2.2.1
 let M := fun i => (A.getD i d).2.2.2
 have hA1 : A.getD m d = (g1, K1, v, true) := by
  simp only [A, List.getD_eq_getElem?_getD]
  rw [List.getElem?_append_right (by omega), hlen', Nat.sub_self]; rfl
 have hA2 : A.getD (m + 1) d = (g, K, undef, false) := by
  simp only [A, List.getD_eq_getElem?_getD]
  rw [List.getElem?_append_right (by omega), hlen', show m + 1 - m = 1 by omega]; rfl
 have hA : ∀ i, i < m → ∃ s, L1[i]? = some s ∧ A.getD i d = s := by
  intro i hi
  refine ⟨L1[i]'(by omega), by simp [hlen', hi], ?_⟩
  simp only [A, List.getD_eq_getElem?_getD]
  rw [List.getElem?_append_left (by omega)]
  simp [hlen', hi]
 have hnext : ∀ i s', (L1 ++ [(g1, K1, undef, false)])[i]? = some s' → (A.getD i d).1 = s'.1 ∧ (A.getD i d).2.1 = s'.2.1 := by
  intro i s' hs
  by_cases hi : i < m
  ·rw [List.getElem?_append_left (by omega)] at hs
   obtain ⟨s, q1, q2⟩ := hA i hi
   rw [q1] at hs; cases hs
   rw [q2]; exact ⟨rfl, rfl⟩
  ·rw [List.getElem?_append_right (by omega), hlen'] at hs
   have : i = m := by
    have := lt_of_getElem? hs
    simp at this; omega
   subst this
   rw [Nat.sub_self] at hs
   simp at hs
   rw [hA1, ← hs]; exact ⟨rfl, rfl⟩
 have hstep : ∀ i o', i < m → ops[i]? = some o' → SD E true ops ms W i o' (F i) (HH i) (V i) (HH (i + 1)) (M i) ∧ (F i).put o'.dst (V i) = some (F (i + 1)) := by
  intro i o' hi ho'
  obtain ⟨s, q1, q2⟩ := hA i hi
  obtain ⟨s', r1, r2, r3⟩ := hst i o' s (by rw [List.getElem?_take, if_pos hi]; simpa using ho') q1
  obtain ⟨e1, e2⟩ := hnext _ _ r1
  simp only [F, HH, V, M, q2, e1, e2]
  rw [Nat.zero_add] at r2
  exact ⟨r2, r3⟩
 have hF0 : F 0 = f ∧ HH 0 = H := by
  obtain ⟨e1, e2⟩ := hnext 0 s0 hs0
  simp only [F, HH, e1, e2]
  exact ⟨hs0f, hs0H⟩
 have hMm : M m = true := by simp only [M, hA1]
 have hbm : ∀ i, i < m → ((bef ops).getD m 0).testBit i = true := by
  intro i hi
  rw [List.all_eq_true] at hall
  exact hall i (List.mem_range.2 hi)
 have lt_of : ∀ i, i < ops.size → i ≠ m → i < m := by intro i h1 h2; omega
 have ops_at : ∀ i (hi : i < m), ops[i]? = some (ops[i]'(by omega)) := fun i hi => Array.getElem?_eq_getElem (by omega)
 have still : ∀ i, i < ops.size → M i = false → HH (i + 1) = HH i := by
  intro i hi hM
  have hi' : i < m := lt_of i hi (fun e => by rw [e, hMm] at hM; cases hM)
  rcases (hstep i _ hi' (ops_at i hi')).1 with ⟨_, _, _, h4⟩ | ⟨_, _, h4, _⟩ | ⟨_, h4, _⟩ | ⟨_, h4, _⟩
  ·exact h4
  ·exact h4
  ·rw [hM] at h4; cases h4
  ·rw [hM] at h4; cases h4
 have w0s : ∀ i, i < ops.size → (HH (i + 1)).w0 = (HH i).w0 := by
  intro i hi
  by_cases e : i = m
  ·subst e
   simp only [HH, hA1, hA2]; exact hw2
  ·have hi' := lt_of i hi e
   rcases (hstep i _ hi' (ops_at i hi')).1 with ⟨_, _, _, h4⟩ | ⟨_, _, h4, _⟩ | ⟨_, _, _, h4⟩ | ⟨_, _, _, h4, _⟩
   ·rw [h4]
   ·rw [h4]
   ·exact qC E h4
   ·exact h4
 have mainW : ∀ i, i < m → M i = true → i ∈ ms ∧ W (HH (i + 1)) := by
  intro i hi hM
  rcases (hstep i _ hi (ops_at i hi)).1 with ⟨_, _, h4, _⟩ | ⟨_, h4, _⟩ | ⟨_, _, h4, _⟩ | ⟨_, _, h4, _⟩
  ·rw [hM] at h4; cases h4
  ·rw [hM] at h4; cases h4
  ·exact h4 rfl
  ·exact h4 rfl
 have allW : ∀ t, t ≤ m → W (HH t) := by
  intro t
  induction t with
  | zero => intro _; rw [hF0.2]; exact hW
  | succ t ih =>
   intro ht
   cases hMt : M t with
   | true => exact (mainW t (by omega) hMt).2
   | false => rw [still t (by omega) hMt]; exact ih (by omega)
 have between : ∀ n a, a + n ≤ ops.size → (∀ j, a ≤ j → j < a + n → M j = false) → HH (a + n) = HH a := by
  intro n
  induction n with
  | zero => intro a _ _; rfl
  | succ n ih =>
   intro a ha hno
   rw [show a + (n + 1) = a + n + 1 by omega, still (a + n) (by omega) (hno _ (by omega) (by omega))]
   exact ih a (by omega) (fun j h1 h2 => hno j h1 (by omega))
 have T : Trace E ops F HH V M := by
  refine ⟨⟨hord, fun i o' ho' => ?_⟩, fun i o' ho' => ?_, still, fun i j hij hj hMi hMj => ?_⟩
  ·by_cases e : i = m
   ·subst e
    rw [hom] at ho'; cases ho'
    simp only [F, V, hA1, hA2]; exact hp
   ·exact (hstep i o' (lt_of i (alt_of_getElem? ho') e) ho').2
  ·by_cases e : i = m
   ·subst e
    rw [hom] at ho'; cases ho'
    simp only [F, HH, V, M, hA1, hA2]
    rcases hz with q | ⟨_, c, args, q1, q2⟩
    ·exact .inr (.inr (.inl ⟨haw, trivial, q⟩))
    ·exact .inr (.inr (.inr ⟨haw, trivial, c, args, q1, q2⟩))
   ·have hi : i < m := lt_of i (alt_of_getElem? ho') e
    rcases (hstep i o' hi ho').1 with ⟨h1, h2, h3, h4⟩ | ⟨h1, h2, h3, ⟨_, h4⟩, h5⟩ | ⟨h1, h2, h3, h4⟩ | ⟨h1, h2, _, _, c, args, h3, h4⟩
    ·exact .inl ⟨h1, h2, h3⟩
    ·refine .inr (.inl ⟨h1, h2, fun t ht hb ha => ?_⟩)
     have htm : t ≤ m := ha m (by omega) hMm (hbm i hi)
     rcases h5 rfl with hp | hp | hp
     ·exact vY E hp h4 (HH t)
     ·have hcmp : ∀ j, j < m → M j = true → (j < t ↔ j < i) := by
       intro j hj hMj
       have hjm := (mainW j hj hMj).1
       simp only [aIc, List.all_eq_true] at hp
       have := hp j hjm
       simp only [Bool.or_eq_true, Bool.and_eq_true, Nat.blt, Nat.ble_eq] at this
       rcases this with ⟨q1, q2⟩ | ⟨q1, q2⟩
       ·exact ⟨fun _ => q1, fun _ => hb j (by omega) hMj q2⟩
       ·have := ha j (by omega) hMj q2
        constructor <;> intro <;> omega
      have : HH t = HH i := by
       rcases Nat.le_total t i with hle | hle
       ·have e := between (i - t) t (by omega) (fun j h1 h2 => by
         cases hMj : M j with
         | false => rfl
         | true => have := (hcmp j (by omega) hMj).2 (by omega); omega)
        rw [show t + (i - t) = i by omega] at e; exact e.symm
       ·have e := between (t - i) i (by omega) (fun j h1 h2 => by
         cases hMj : M j with
         | false => rfl
         | true => have := (hcmp j (by omega) hMj).1 (by omega); omega)
        rw [show i + (t - i) = t by omega] at e; exact e
      rw [this]; exact h4
     ·exact hp _ (allW t htm)
    ·exact .inr (.inr (.inl ⟨h1, h2, h4⟩))
    ·exact .inr (.inr (.inr ⟨h1, h2, c, args, h3, h4⟩))
  ·by_cases e : j = m
   ·subst e; exact hbm i (by omega)
   ·exact sA hpairs hsorted i j (mainW i (by omega) hMi).1 (mainW j (by omega) hMj).1 hij
 have := T.region hm w0s (Q := fun e' g' K' => e' = .normal ∧ g' = g ∧ K' = K) (by simp only [F, HH, hsz, hA2]; refine ⟨?_, ?_, ?_⟩ <;> first | trivial | rfl) id
 rw [hF0.1, hF0.2] at this
 exact this
end
section
variable {P : Program} {E : Env P} {S H0 : AH} {A0 A : Nat → Prop} {L : OL} {K : AQ}
theorem aGr {ops : Array Oper} {id : Nat} {f : Fr} (hm : P.follows .mixedOrders = true) (ms : List Nat) (Lw : OL) (hLw : Lw.Sublist L) (hord : jI ops (bef ops) = true) (hpairs : gW (bef ops) ms = true) (hsorted : ms.Pairwise (· < ·)) (m : Nat) (o : Oper) (ho : ops.toList.drop m = [o]) (hq : gV E o.op = false) (hgd : o.guard = none)
 (hall : ((List.range m).all fun i => ((bef ops).getD m 0).testBit i) = true)
 (h : SO E ⟨true, ops, ms, S, A0, H0, A, Lw⟩ 0 (ops.toList.take m) (fun f H => ∃ Ls g K', RunD E false ops [] (HS S H0 A0 A Lw) m [o] f H Ls g K' ∧ K .normal g K') f H0 A L) : SX P (.region id ops true) K f S A0 H0 A L := by
 intro H hH
 have hW : HS S H0 A0 A Lw H := hH.subl hLw
 obtain ⟨Ls, g, K', hr, Ls2, g2, K2, hr2, hq2⟩ := h (fun _ => ⟨fun p hp => hLw.subset hp, hW.dist, fun j hj => ⟨hj, rfl⟩, rfl⟩) H hH
 exact ⟨.normal, g2, K2, hq2, hr.drawZ hr2 ho hq hgd hall hm hord hpairs hsorted hW id⟩
theorem aKy {ops : Array Oper} {ms : List Nat} {i m : Nat} {o : Oper} {Hw : AH} {Aw : Nat → Prop} {Lw : OL} {f : Fr} (h : SO E ⟨false, ops, [], S, A0, Hw, Aw, Lw⟩ m [o] (fun f H => K .normal f H) f H0 A L) :
 SO E ⟨true, ops, ms, S, A0, Hw, Aw, Lw⟩ i [] (fun f H => ∃ Ls g K', RunD E false ops [] (HS S Hw A0 Aw Lw) m [o] f H Ls g K' ∧ K .normal g K') f H0 A L := fun _ H hH => ⟨[], f, H, .nil, h (fun hD => by cases hD) H hH⟩
end
end Go.AM
namespace Go.AM
theorem aJb {α : Type} (l : List α) (a c : Nat) : l.drop a = (l.drop a).take c ++ l.drop (a + c) := by
 rw [← List.drop_drop]; exact (List.take_append_drop c (l.drop a)).symm
theorem kQ {α β : Type} (f : List α → List β) (hn : f [] = []) (ha : ∀ a b, f (a ++ b) = f a ++ f b) (l : List α) (c : Nat) : ∀ (Ls : List (List β)) (a : Nat), (∀ i L, Ls[i]? = some L → f ((l.drop (a + i * c)).take c) = L) → l.length ≤ a + Ls.length * c → f (l.drop a) = Ls.flatten
 | [], a, _, hl => by
  rw [List.drop_eq_nil_of_le (by simpa using hl), hn]; rfl
 | L :: Ls, a, h, hl => by
  rw [aJb l a c, ha, List.flatten_cons]
  have h0 := h 0 L rfl
  rw [Nat.zero_mul, Nat.add_zero] at h0
  rw [h0, kQ f hn ha l c Ls (a + c) (fun i M hi => by
   have := h (i + 1) M (by simpa using hi)
   rwa [show a + (i + 1) * c = a + c + i * c by rw [Nat.add_mul]; omega] at this) (by rw [List.length_cons, Nat.add_mul] at hl; omega)]
section
variable {P P' : Program}
def bare (F : Func) : Bool := F.body.isNone
theorem aUc (h : P.funcs.toList.filter bare = P'.funcs.toList) (w : String) : P.worded w = P'.worded w := by
 unfold Program.worded
 rw [← Array.any_toList, ← Array.any_toList, ← h, List.any_filter]
 congr 1
 funext F
 unfold bare
 cases F.body.isNone <;> rfl
theorem aHr (h : P.funcs.toList.filter bare = P'.funcs.toList) : P.doorBytes = P'.doorBytes := by
 unfold Program.doorBytes
 rw [← h, List.filterMap_filter]
 congr 2
 funext F
 unfold bare
 cases F.body.isNone <;> rfl
theorem aAj (h : P.doorBytes = P'.doorBytes) (v : String) : P.kindBase v = P'.kindBase v := by
 unfold Program.kindBase Program.wordedOn Program.tailsOn
 rw [h]
theorem aLg (h : P.doorBytes = P'.doorBytes) (v : String) : P.kindOfLater v = P'.kindOfLater v := by
 unfold Program.kindOfLater Program.wordedOn Program.tailsOn
 rw [aAj h, h]
theorem aAy {p : Nat → Bool} {i : Nat} : ∀ (m : Nat), i < m → (∀ j, j < m → p j = decide (j = i)) → (List.range m).filter p = [i]
 | 0, h, _ => by omega
 | m + 1, h, hp => by
  rw [List.range_succ, List.filter_append]
  by_cases e : i = m
  ·subst e
   have h1 : (List.range i).filter p = [] := by
    rw [List.filter_eq_nil_iff]
    intro j hj
    rw [hp j (by have := List.mem_range.1 hj; omega)]
    have := List.mem_range.1 hj
    simp; omega
   rw [h1, List.nil_append, List.filter_cons, hp i (by omega)]
   simp
  ·rw [aAy m (by omega) fun j hj => hp j (by omega), List.filter_cons, hp m (by omega)]
   simp [Ne.symm e]
theorem qQ {nm : List String} (h : P.funcs.toList.map (fun F : Func => F.name) = nm) {n : String} {i : Nat} (hi : nm[i]? = some n) (h1 : (nm.take i).all (fun x => !(x == n)) = true) (h2 : (nm.drop (i + 1)).all (fun x => !(x == n)) = true) : P.funcNamed n = some i := by
 have hlen : nm.length = P.funcs.size := by rw [← h, List.length_map, Array.length_toList]
 have hlt : i < nm.length := by
  obtain ⟨q, _⟩ := List.getElem?_eq_some_iff.1 hi
  exact q
 have hat : ∀ j, (P.funcs[j]?).map (fun F : Func => F.name) = nm[j]? := fun j => by rw [← h, List.getElem?_map, Array.getElem?_toList]
 have hp : ∀ j, j < P.funcs.size → ((P.funcs[j]?).any (·.name == n)) = decide (j = i) := by
  intro j hj
  have hx : nm[j]? = some (nm[j]'(by omega)) := List.getElem?_eq_getElem (by omega)
  generalize nm[j]'(by omega) = x at hx
  have hq := hat j
  rw [hx] at hq
  cases hF : P.funcs[j]? with
  | none => rw [hF] at hq; cases hq
  | some F =>
   rw [hF] at hq
   have hq : F.name = x := Option.some.inj hq
   simp only [Option.any_some, hq]
   by_cases e : j = i
   ·subst e
    rw [hi] at hx; cases hx
    simp
   ·have hne : (x == n) = false := by
     rcases Nat.lt_or_ge j i with hl | hl
     ·rw [List.all_eq_true] at h1
      have := h1 x (List.mem_of_getElem? (i := j) (by rw [List.getElem?_take, if_pos hl]; exact hx))
      simpa using this
     ·rw [List.all_eq_true] at h2
      have := h2 x (List.mem_of_getElem? (i := j - (i + 1)) (by rw [List.getElem?_drop, show i + 1 + (j - (i + 1)) = j by omega]; exact hx))
      simpa using this
    rw [hne]; simp [e]
 unfold Program.funcNamed
 rw [aAy P.funcs.size (by omega) hp]
def zW {α : Type} : List α → Nat → Tr α → Tr α
 | [], _, t => t
 | x :: l, i, t => zW l (i + 1) (t.set i (some x))
theorem aGh {α : Type} : ∀ (l : List α) (i : Nat) (t : Tr α) (j : Nat), (∀ k, i ≤ k → t.get k = none) → (zW l i t).get j = if i ≤ j then l[j - i]? else t.get j
 | [], i, t, j, h => by
  simp only [zW]
  split
  ·rename_i hj; rw [h j hj]; simp
  ·rfl
 | x :: l, i, t, j, h => by
  simp only [zW]
  rw [aGh l (i + 1) _ j (fun k hk => by rw [Tr.get_set, if_neg (by omega)]; exact h k (by omega)), Tr.get_set]
  by_cases e : j = i
  ·subst e; rw [if_neg (by omega), if_pos rfl, if_pos (Nat.le_refl _), Nat.sub_self]; rfl
  ·rw [if_neg e]
   by_cases q : i + 1 ≤ j
   ·rw [if_pos q, if_pos (by omega), show j - i = (j - (i + 1)) + 1 by omega, List.getElem?_cons_succ]
   ·rw [if_neg q, if_neg (by omega)]
theorem aEg {α : Type} (l : List α) (j : Nat) : (zW l 0 .nil).get j = l[j]? := by
 rw [aGh l 0 .nil j (fun k _ => Tr.get_nil k), if_pos (Nat.zero_le _), Nat.sub_zero]
def clT (T : Tr (List Nat)) : Nat → List Nat → Tr Unit → List Nat → List Nat
 | 0, _, _, acc => acc.reverse
 | _ + 1, [], _, acc => acc.reverse
 | n + 1, f :: todo, s, acc => match s.get f with
  | some _ => clT T n todo s acc
  | none => clT T n ((T.get f).getD [] ++ todo) (s.set f (some ())) (f :: acc)
theorem aXj {T : List (List Nat)} (hT : P.funcs.toList.map P.leadsTo = T) : ∀ (n : Nat) (todo : List Nat) (s : Tr Unit) (acc : List Nat), (∀ x, acc.contains x = (s.get x).isSome) → clT (zW T 0 .nil) n todo s acc = P.closureVia n todo acc := by
 have hat : ∀ f, (P.funcs[f]?).elim [] P.leadsTo = ((zW T 0 .nil).get f).getD [] := fun f => by
  rw [aEg, ← hT, List.getElem?_map, Array.getElem?_toList]
  cases P.funcs[f]? <;> rfl
 intro n
 induction n with
 | zero => intro todo s acc _; simp only [clT, Program.closureVia]
 | succ n ih =>
  intro todo s acc hs
  cases todo with
  | nil => simp only [clT, Program.closureVia]
  | cons f todo =>
   simp only [clT, Program.closureVia]
   cases hf : s.get f with
   | some u => rw [hs f, hf, Option.isSome_some, if_pos rfl]; exact ih todo s acc hs
   | none =>
    rw [hs f, hf, Option.isSome_none, if_neg (by decide), hat f]
    refine ih _ _ _ fun x => ?_
    rw [Tr.get_set, List.contains_cons, hs x]
    by_cases e : x = f
    ·subst e; simp
    ·rw [if_neg e]; simp [e]
theorem aBw {T : List (List Nat)} (hT : P.funcs.toList.map P.leadsTo = T) (f : Nat) {fuel : Nat} (hf : 1 + (T.map fun l => l.length + 1).sum = fuel) {C : List Nat} (hC : clT (zW T 0 .nil) fuel [f] .nil [] = C) : P.closure f = C := by
 have hs : ∀ x : Nat, ([] : List Nat).contains x = ((Tr.nil : Tr Unit).get x).isSome := fun x => by rw [Tr.get_nil]; rfl
 have e : (P.funcs.toList.map fun g => (P.leadsTo g).length + 1) = T.map fun l => l.length + 1 := by rw [← hT, List.map_map]; rfl
 rw [← hC, aXj hT fuel [f] .nil [] hs, Program.closure, e, hf]
theorem aAk {β : Type} {q : Func → Option β} {I : List (Option β)} (h : P.funcs.toList.map q = I) (C : List Nat) : (C.filterMap fun g => (P.funcs[g]?).bind q) = C.filterMap fun g => ((zW I 0 .nil).get g).bind id := by
 congr 1
 funext g
 rw [aEg, ← h, List.getElem?_map, Array.getElem?_toList]
 cases P.funcs[g]? <;> rfl
theorem aIx {β : Type} {q : Func → List β} {I : List (List β)} (h : P.funcs.toList.map q = I) (C : List Nat) : (C.flatMap fun g => (P.funcs[g]?).elim [] q) = C.flatMap fun g => ((zW I 0 .nil).get g).getD [] := by
 congr 1
 funext g
 rw [aEg, ← h, List.getElem?_map, Array.getElem?_toList]
 cases P.funcs[g]? <;> rfl
theorem aLt {I : List (List Nat)} (h : P.funcs.toList.map (fun F : Func => F.body.elim [] Code.globalsNamed) = I) (C : List Nat) : (C.flatMap fun g => ((P.funcs[g]?).bind (·.body)).elim [] Code.globalsNamed) = C.flatMap fun g => ((zW I 0 .nil).get g).getD [] := by
 rw [← aIx h]
 congr 1
 funext g
 cases P.funcs[g]? <;> rfl
end
end Go.AM
namespace Go.AM
open Go.RowKit
inductive Fm where
 | code (c : Code)
 | blk (i : Nat)
structure Stt where
 e : Exit
 k : List Fm
 f : Fr
 H : AH
def pO (P : Program) (Q : AQ) : List Fm → AQ
 | [] => Q
 | .code c :: k => fun e f H => (e = .normal ∧ ACode P c (pO P Q k) f H) ∨ (e ≠ .normal ∧ pO P Q k e f H)
 | .blk i :: k => fun e f H => match e with
  | .exit j => if j = i then pO P Q k .normal f H else pO P Q k (.exit j) f H
  | e => pO P Q k e f H
def Stt.Ok (P : Program) (Q : AQ) (s : Stt) : Prop := pO P Q s.k s.e s.f s.H
section
variable {P : Program} (E : Env P)
def aNm (call : gK) (fuel : Nat) (s : Stt) : Option Stt :=
 match s.k with
 | [] => none
 | .blk i :: k => (match s.e with
  | .exit j => bif Nat.beq j i then some ⟨.normal, k, s.f, s.H⟩ else some ⟨.exit j, k, s.f, s.H⟩
  | e => some ⟨e, k, s.f, s.H⟩)
 | .code c :: k => (match s.e with
  | .normal => (match c with
   | .seq a b => some ⟨.normal, .code a :: .code b :: k, s.f, s.H⟩
   | .cond z x y => (match fC s.f z with
    | .bool true => some ⟨.normal, .code x :: k, s.f, s.H⟩
    | .bool false => some ⟨.normal, .code y :: k, s.f, s.H⟩
    | _ => none)
   | .block i c => some ⟨.normal, .code c :: .blk i :: k, s.f, s.H⟩
   | c => (match iL E call fuel c s.f s.H with
    | some (e', f', H') => some ⟨e', k, f', H'⟩
    | none => none))
  | e => some ⟨e, k, s.f, s.H⟩)
def aQu (call : gK) (fuel : Nat) : Nat → Stt → Option Stt
 | 0, s => some s
 | n + 1, s => (match aNm E call fuel s with
  | some s' => aQu call fuel n s'
  | none => none)
theorem aNh {call : gK} (hcall : jA P call) (hm : P.follows .mixedOrders = true) {fuel : Nat} {Q : AQ} {s s' : Stt} (h : aNm E call fuel s = some s') (k : s'.Ok P Q) : s.Ok P Q := by
 obtain ⟨e, st, f, H⟩ := s
 unfold aNm at h
 cases st with
 | nil => cases h
 | cons x st =>
  cases x with
  | blk i =>
   simp only at h
   cases e with
   | exit j =>
    simp only at h
    cases hj : Nat.beq j i with
    | true =>
     rw [hj, cond_true] at h
     cases h
     have := Nat.eq_of_beq_eq_true hj
     simp only [Stt.Ok, pO, this, if_true] at k ⊢
     exact k
    | false =>
     rw [hj, cond_false] at h
     cases h
     have : ¬ j = i := fun e => by rw [e] at hj; simp at hj
     simp only [Stt.Ok, pO, this, if_false] at k ⊢
     exact k
   | _ => simp only at h; cases h; exact k
  | code c =>
   by_cases he : e = .normal
   ·subst he
    simp only at h
    refine .inl ⟨rfl, ?_⟩
    have run : ∀ {c : Code}, (match iL E call fuel c f H with | some (e', f', H') => some (⟨e', st, f', H'⟩ : Stt) | none => none) = some s' → ACode P c (pO P Q st) f H := by
     intro c h
     split at h
     ·rename_i e' f' H' hr
      cases h
      refine (zL E hcall hm fuel _ _ _ _ _ _ hr).2.mono ?_
      rintro e'' f'' H'' ⟨rfl, rfl, rfl⟩
      exact k
     ·cases h
    cases c with
    | seq a b =>
     cases h
     rcases k with ⟨_, k⟩ | ⟨k, _⟩
     ·refine ACode.seq k ?_ ?_
      ·rintro f1 H1 (⟨_, k1⟩ | ⟨k1, _⟩)
       ·exact k1
       ·exact absurd rfl k1
      ·rintro e1 f1 H1 hne (⟨k1, _⟩ | ⟨_, k1⟩)
       ·exact absurd k1 hne
       ·exact k1
     ·exact absurd rfl k
    | cond z x y =>
     simp only at h
     split at h
     ·rename_i hz
      cases h
      rcases k with ⟨_, k⟩ | ⟨k, _⟩
      ·exact ACode.cond (b := true) hz k
      ·exact absurd rfl k
     ·rename_i hz
      cases h
      rcases k with ⟨_, k⟩ | ⟨k, _⟩
      ·exact ACode.cond (b := false) hz k
      ·exact absurd rfl k
     ·cases h
    | block i c =>
     cases h
     rcases k with ⟨_, k⟩ | ⟨k, _⟩
     ·exact ACode.block k
     ·exact absurd rfl k
    | _ => exact run h
   ·have hs : s' = ⟨e, st, f, H⟩ := by
     cases e with
     | normal => exact absurd rfl he
     | _ => simp only at h; cases h; rfl
    subst hs
    exact .inr ⟨he, k⟩
theorem aEo {call : gK} (hcall : jA P call) (hm : P.follows .mixedOrders = true) {fuel : Nat} {Q : AQ} {s' : Stt} (k : s'.Ok P Q) : ∀ (n : Nat) (s : Stt), aQu E call fuel n s = some s' → s.Ok P Q := by
 intro n
 induction n with
 | zero => intro s h; cases h; exact k
 | succ n ih =>
  intro s h
  simp only [aQu] at h
  split at h
  ·rename_i s1 h1
   exact aNh E hcall hm h1 (ih s1 h)
  ·cases h
end
def mkH (l : List (Nat × AObj)) : Tr AObj := List.rec (motive := fun _ => Tr AObj) .nil (fun p _ t => t.set p.1 (some p.2)) l
def aJz (t : Tr AObj) (l : List Nat) : List (Nat × AObj) := List.rec (motive := fun _ => List (Nat × AObj)) [] (fun i _ r => match t.get i with
 | some o => (i, o) :: r
 | none => r) l
def gcH (ids : List Nat) (H : AH) : AH := { H with tr := mkH (aJz H.tr ids) }
theorem aJx : ∀ (l : List (Nat × AObj)) (i : Nat) (o : AObj), (mkH l).get i = some o → (i, o) ∈ l
 | [], i, o, h => by simp [mkH, Tr.get_nil] at h
 | p :: r, i, o, h => by
  have h : ((mkH r).set p.1 (some p.2)).get i = some o := h
  rw [Tr.get_set] at h
  by_cases e : i = p.1
  ·rw [if_pos e] at h; cases h; subst e; exact List.mem_cons_self ..
  ·rw [if_neg e] at h; exact List.mem_cons_of_mem _ (aJx r i o h)
theorem wS {t : Tr AObj} : ∀ (l : List Nat) (i : Nat) (o : AObj), (i, o) ∈ aJz t l → t.get i = some o
 | [], i, o, h => by cases h
 | j :: r, i, o, h => by
  have h : (i, o) ∈ (match t.get j with
   | some o => (j, o) :: aJz t r
   | none => aJz t r) := h
  split at h
  ·rename_i o' ho
   rcases List.mem_cons.1 h with h | h
   ·cases h; exact ho
   ·exact wS r i o h
  ·exact wS r i o h
theorem Rel.less [Pins] {φ : List Place} {H H' : AH} {w : World} (R : Rel φ H w) (h0 : H'.w0 = H.w0) (hn : H'.nx = H.nx) (hg : ∀ i o, H'.tr.get i = some o → H.tr.get i = some o) : Rel φ H' w :=
 ⟨by rw [h0]; exact R.below, by rw [hn]; exact R.len, fun i o h => by rw [h0]; exact R.obj i o (hg i o h), fun i j o o' p q h1 h2 => R.inj i j o o' p q (hg _ _ h1) (hg _ _ h2), R.pin, R.lt⟩
theorem ACode.gc {P : Program} {c : Code} {Q : AQ} {f : Fr} {H : AH} (ids : List Nat) (h : ACode P c Q f (gcH ids H)) : ACode P c Q f H :=
 fun π φ a w hf hR => h π φ a w hf (hR.less rfl rfl fun i o hi => wS ids i o (aJx _ i o hi))
section
variable {P : Program} (E : Env P)
def aDy (call : gK) (fuel n : Nat) (ids : List Nat) (s : Stt) : Option Stt :=
 match aQu E call fuel n s with
 | some ⟨.normal, .code c :: k, f, H⟩ => some ⟨.normal, .code c :: k, f, gcH ids H⟩
 | _ => none
theorem aCm {call : gK} (hcall : jA P call) (hm : P.follows .mixedOrders = true) {fuel n : Nat} {ids : List Nat} {Q : AQ} {s s' : Stt} (h : aDy E call fuel n ids s = some s') (k : s'.Ok P Q) : s.Ok P Q := by
 unfold aDy at h
 split at h
 ·rename_i c st f H hr
  cases h
  refine aEo E hcall hm (s' := ⟨.normal, .code c :: st, f, H⟩) ?_ n s hr
  rcases k with ⟨_, k⟩ | ⟨k, _⟩
  ·exact .inl ⟨rfl, ACode.gc ids k⟩
  ·exact absurd rfl k
 ·cases h
def aPi (call : gK) (fuel n : Nat) (rs : List ResultVar) (s : Stt) : Option Value :=
 match aQu E call fuel n s with
 | some ⟨.ret, [], f, H⟩ => (match eH E f H rs with
  | some vs => some (fB vs)
  | none => none)
 | some ⟨.normal, [], f, H⟩ => (match eH E f H rs with
  | some vs => some (fB vs)
  | none => none)
 | _ => none
def aBl (rs : List ResultVar) (v : Value) : AQ := fun e f H => (e = .normal ∨ e = .ret) ∧ ∃ vs, eH E f H rs = some vs ∧ fB vs = v
theorem aPj {call : gK} (hcall : jA P call) (hm : P.follows .mixedOrders = true) {fuel n : Nat} {rs : List ResultVar} {s : Stt} {v : Value} (h : aPi E call fuel n rs s = some v) : s.Ok P (aBl E rs v) := by
 unfold aPi at h
 split at h
 ·rename_i f H hr
  split at h
  ·rename_i vs hvs
   cases h
   exact aEo E hcall hm (Q := aBl E rs (fB vs)) (s' := ⟨.ret, [], f, H⟩) (show aBl E rs (fB vs) .ret f H from ⟨.inr rfl, vs, hvs, rfl⟩) n s hr
  ·cases h
 ·rename_i f H hr
  split at h
  ·rename_i vs hvs
   cases h
   exact aEo E hcall hm (Q := aBl E rs (fB vs)) (s' := ⟨.normal, [], f, H⟩) (show aBl E rs (fB vs) .normal f H from ⟨.inl rfl, vs, hvs, rfl⟩) n s hr
  ·cases h
 ·cases h
theorem aGj {g : FuncId} {x : AFn} (hg : E.fn g = some x) {args : List Value} {H : AH} {v : Value} (h : (⟨.normal, [.code x.body], tY args x.ntmps, H⟩ : Stt).Ok P (aBl E x.results v)) : ACalls P g args H fun u _ => u = v := by
 rcases h with ⟨_, h⟩ | ⟨h, _⟩
 ·exact ACalls.body E hg h
 ·exact absurd rfl h
end
inductive Mv where
 | b (x : Bool)
 | e (x : Exit)
def nav : Nat → List Mv → Exit → List Fm → List Fm
 | 0, _, _, k => k
 | _ + 1, _, _, [] => []
 | n + 1, ms, e, .blk i :: k => (match e with
  | .exit j => bif Nat.beq j i then nav n ms .normal k else nav n ms (.exit j) k
  | e => nav n ms e k)
 | n + 1, ms, e, .code c :: k => (match e with
  | .normal => (match c with
   | .seq a b => nav n ms .normal (.code a :: .code b :: k)
   | .cond _ x y => (match ms with
    | .b true :: ms => nav n ms .normal (.code x :: k)
    | .b false :: ms => nav n ms .normal (.code y :: k)
    | _ => [])
   | .block i c => nav n ms .normal (.code c :: .blk i :: k)
   | .loop _ => (match ms with
    | .e x :: ms => nav n ms x k
    | _ => [])
   | .exit i => nav n ms (.exit i) k
   | .ret => nav n ms .ret k
   | _ => nav n ms .normal k)
  | e => nav n ms e k)
def vT (l : List Nat) : Value := .string ⟨⟨l.map UInt8.ofNat⟩⟩
def vI (n : Int) : Value := .int .i64 n
def vP (b o : Nat) : Value := .pointer (some ⟨b, o, none⟩)
def vS (b o l c : Nat) : Value := .slice (some ⟨b, o, none⟩) l c
def mkF (l : List (Nat × Value)) : Tr Value := List.rec (motive := fun _ => Tr Value) .nil (fun p _ t => t.set p.1 (some p.2)) l
def aBd {P : Program} (E : Env P) (g : FuncId) : AFn := (E.fn g).getD ⟨0, [], .skip⟩
theorem aTt {P : Program} {E : Env P} {g : FuncId} (h : ∃ x, E.fn g = some x) : E.fn g = some (aBd E g) := by
 obtain ⟨x, hx⟩ := h
 rw [aBd, hx]; rfl
def aRb {P : Program} (E : Env P) (g : FuncId) (args : List Value) (H : AH) : Stt := ⟨.normal, [.code (aBd E g).body], tY args (aBd E g).ntmps, H⟩
def midS {P : Program} (E : Env P) (g : FuncId) (n : Nat) (ms : List Mv) (f : Fr) (H : AH) : Stt := ⟨.normal, nav n ms .normal [.code (aBd E g).body], f, H⟩
theorem aJl {P : Program} {E : Env P} {g : FuncId} (hg : ∃ x, E.fn g = some x) {args : List Value} {H : AH} {v : Value} (h : (aRb E g args H).Ok P (aBl E (aBd E g).results v)) : ACalls P g args H fun u _ => u = v :=
 aGj E (aTt hg) h
end Go.AM
namespace Go.AM
open Go.RowKit
inductive Takes : OL → OL → OL → Prop
 | nil {L : OL} : Takes [] L L
 | cons {N : Nat} {o : AObj} {r L L1 L2 : OL} (h : Rem N o L L1) (k : Takes r L1 L2) : Takes ((N, o) :: r) L L2
theorem Takes.sub {T L L0 : OL} (h : Takes T L L0) : L0.Sublist L := by
 induction h with
 | nil => exact List.Sublist.refl _
 | cons h _ ih => exact ih.trans h.sub
theorem Takes.mem {T L L0 : OL} (h : Takes T L L0) : ∀ p ∈ T, p ∈ L := by
 induction h with
 | nil => intro p hp; cases hp
 | cons h _ ih =>
  intro p hp
  rcases List.mem_cons.1 hp with rfl | hp
  ·exact h.mem
  ·exact h.sub.subset (ih p hp)
def ids (L : OL) (j : Nat) : Prop := ∃ p ∈ L, p.1 = j
theorem Takes.ne {T L L0 : OL} (h : Takes T L L0) : L.Pairwise (fun p q => p.1 ≠ q.1) → ∀ p ∈ L0, ¬ ids T p.1 := by
 induction h with
 | nil => rintro _ p _ ⟨q, hq, _⟩; cases hq
 | @cons N o r L L1 L2 h k ih =>
  rintro hd p hp ⟨q, hq, e⟩
  rcases List.mem_cons.1 hq with rfl | hq
  ·exact h.ne hd p (k.sub.subset hp) e.symm
  ·exact ih (hd.sublist h.sub) p hp ⟨q, hq, e⟩
structure Turned (Li : OL) (S H : AH) (Lo : OL) : Prop where
 w0 : H.w0 = S.w0
 get : ∀ j, j < S.nx → ¬ ids Li j → H.tr.get j = S.tr.get j
 lt : ∀ j, j < S.nx → ¬ ids Li j → j < H.nx
 out : ∀ p ∈ Lo, H.tr.get p.1 = some p.2 ∧ p.1 < H.nx ∧ (ids Li p.1 ∨ S.nx ≤ p.1)
 dist : Lo.Pairwise (fun p q => p.1 ≠ q.1)
 sv : ∃ p, p ∈ Lo
def frs (A : Nat → Prop) (H H' : AH) (Lo : OL) : Nat → Prop := fun j => A j ∨ (H.nx ≤ j ∧ j < H'.nx ∧ ¬ ids Lo j)
def rJ (S : AH) : AH := { S with nx := 0 }
def fY (S : AH) (Li : OL) : Nat → Prop := fun j => j < S.nx ∧ ¬ ids Li j
section
variable {P : Program} {E : Env P} {G : RG} {i n d : Nat} {r : List Oper} {rs : List ResultVar} {R : Value → AH → Prop} {Q : Fr → AH → Prop} {t : Tr Value} {l : List (Nat × Value)} {S H H0 H1 : AH} {A0 A A1 : Nat → Prop} {L L' Li Lo : OL} {v : Value}
 {ty : TypeId} {ps : String} {af : Array Edge} {gd : Option (Nat × Bool)}
theorem cX {g : FuncId} {c : Code} {args : List Value} (hg : E.fn g = some ⟨n, rs, c⟩) (hin : ∀ p ∈ Li, S.tr.get p.1 = some p.2 ∧ p.1 < S.nx) (hd : Li.Pairwise (fun p q => p.1 ≠ q.1)) (hf : tY args n = fr n .nil l)
 (h : SX P c (aJg E rs R) (fr n .nil l) (rJ S) (fY S Li) S (fY S Li) Li) : XCall P g args S R :=
 XCall.body E hg (by
  rw [hf]
  exact h S ⟨⟨rfl, Nat.zero_le _, fun i hi => absurd hi (Nat.not_lt_zero _)⟩, fun _ _ => rfl, rfl, fun _ h => .inl h, fun _ h => h.1, fun p hp => ⟨(hin p hp).1, Nat.zero_le _, (hin p hp).2, fun h => h.2 ⟨p, hp, rfl⟩⟩, hd⟩)
theorem HS.turned (h : HS (rJ S) H1 A0 A1 Lo H) (g : Gr (fY S Li) S A1 H1) (sv : ∃ p, p ∈ Lo) : Turned Li S H Lo := by
 have key : ∀ j, j < S.nx → ¬ ids Li j → H.tr.get j = S.tr.get j ∧ j < H.nx := fun j h1 h2 => by
  have ha := g.sub j ⟨h1, h2⟩
  exact ⟨(h.base j ha).trans (g.get j ⟨h1, h2⟩), h.lt j ha⟩
 refine ⟨h.kept.w0, fun j h1 h2 => (key j h1 h2).1, fun j h1 h2 => (key j h1 h2).2, fun p hp => ?_, h.dist, sv⟩
 obtain ⟨q1, _, q3, q4⟩ := h.own p hp
 refine ⟨q1, q3, ?_⟩
 by_cases e : ids Li p.1
 ·exact .inl e
 ·rcases Nat.lt_or_ge p.1 S.nx with hl | hl
  ·exact absurd (g.sub _ ⟨hl, e⟩) q4
  ·exact .inr hl
theorem HS.newT (h : HS (rJ S) H1 A0 A1 Lo H) (g : Gr (fY S Li) S A1 H1) {N : Nat} {o : AObj} (hN : (N, o) ∈ Lo) (hn : ¬ ids Li N) : S.nx ≤ N := by
 rcases Nat.lt_or_ge N S.nx with hl | hl
 ·exact absurd (g.sub _ ⟨hl, hn⟩) (h.own _ hN).2.2.2
 ·exact hl
theorem HS.after {Sc Hc : AH} {L0 : OL} (hH : HS Sc H0 A0 A L H) (ht : Takes Li L L0) (k : Turned Li H H1 Lo) : HS Sc H1 A0 (frs A H H1 Lo) (Lo ++ L0) H1 ∧ Gr A H0 (frs A H H1 Lo) H1 := by
 have hown : ∀ j, ids Li j → Sc.nx ≤ j ∧ j < H.nx ∧ ¬ A j := by
  rintro j ⟨p, hp, rfl⟩
  obtain ⟨_, q2, q3, q4⟩ := hH.own p (ht.mem p hp)
  exact ⟨q2, q3, q4⟩
 have hnA : ∀ j, A j → ¬ ids Li j := fun j h e => (hown j e).2.2 h
 have hnx : Sc.nx ≤ H1.nx := by
  obtain ⟨p, hp⟩ := k.sv
  obtain ⟨_, q2, q3⟩ := k.out p hp
  rcases q3 with e | e
  ·have := (hown _ e).1; omega
  ·have := hH.kept.nx; omega
 have hne := ht.ne hH.dist
 refine ⟨⟨⟨k.w0.trans hH.kept.w0, hnx, fun j hj => ?_⟩, fun _ _ => rfl, rfl, fun j hj => ?_, fun j hj => ?_, fun p hp => ?_, List.pairwise_append.2 ⟨k.dist, hH.dist.sublist ht.sub, fun p hp q hq => ?_⟩⟩, ⟨fun j hj => .inl hj, fun j hj => ?_, k.w0.trans hH.w0.symm⟩⟩
 ·have h1 : ¬ ids Li j := fun e => by have := (hown j e).1; omega
  exact (k.get j (Nat.lt_of_lt_of_le hj hH.kept.nx) h1).trans (hH.kept.get j hj)
 ·rcases hj with hj | ⟨hj, _⟩
  ·exact hH.sub j hj
  ·exact .inr (Nat.le_trans hH.kept.nx hj)
 ·rcases hj with hj | ⟨_, hj, _⟩
  ·exact k.lt j (hH.lt j hj) (hnA j hj)
  ·exact hj
 ·rcases List.mem_append.1 hp with hp | hp
  ·obtain ⟨q1, q2, q3⟩ := k.out p hp
   refine ⟨q1, ?_, q2, ?_⟩
   ·rcases q3 with q3 | q3
    ·exact (hown _ q3).1
    ·exact Nat.le_trans hH.kept.nx q3
   ·rintro (h | ⟨_, _, h⟩)
    ·rcases q3 with q3 | q3
     ·exact hnA _ h q3
     ·have := hH.lt _ h; omega
    ·exact h ⟨p, hp, rfl⟩
  ·obtain ⟨q1, q2, q3, q4⟩ := hH.own p (ht.sub.subset hp)
   refine ⟨(k.get _ q3 (hne p hp)).trans q1, q2, k.lt _ q3 (hne p hp), ?_⟩
   rintro (h | ⟨h, _, _⟩)
   ·exact q4 h
   ·omega
 ·intro e
  rcases (k.out p hp).2.2 with h | h
  ·exact hne q hq (e ▸ h)
  ·have := (hH.own q (ht.sub.subset hq)).2.2.1; omega
 ·exact (k.get j (hH.lt j hj) (hnA j hj)).trans (hH.base j hj)
theorem kZ {c : Call} {g : FuncId} {vs : List Value} {L0 : OL} (T : Value → AH → (Nat → Prop) → OL → Prop) (hw : gok G.ops l gd = true) (hdn : Nat.ble (d + 1) n = true) (hm : G.D = true → i ∈ G.ms) (hc : c.callee = .value (.func g)) (hg : ∃ fn, E.fn g = some fn) (ha : Opvs l c.args.toList vs) (ht : Takes Li L L0) (hDs : G.D = true → G.Lw.Sublist L0)
 (hk : ∀ H, HS G.S H0 G.A0 A L H → XCall P g vs H fun u H' => ∃ Lo, Turned Li H H' Lo ∧ T u H' (frs A H H' Lo) Lo)
 (h : ∀ u H1 A1 Lo, Gr A H0 A1 H1 → T u H1 A1 Lo → SO E G (i + 1) r Q (fr n t ((d, u) :: l)) H1 A1 (Lo ++ L0)) : SO E G i (⟨some d, .call c, ty, ps, af, gd⟩ :: r) Q (fr n t l) H0 A L :=
 lQ hw rfl hdn hm fun hD H hH => by
  obtain ⟨fn, hg⟩ := hg
  obtain ⟨u, H', ⟨Lo, hT, hu⟩, hw0, hcall⟩ := hk H hH
  obtain ⟨q1, q2⟩ := hH.after (Hc := H) ht hT
  refine ⟨u, H', H', _, Lo ++ L0, .inr ⟨hw0, g, vs, ?_, hcall⟩, q1, ((hD.list hDs).fresh (H := H) q2).list fun hD => (hDs hD).trans (List.sublist_append_right _ _), h u H' _ Lo q2 hu⟩
  simp only [fL, hc, pF, hg, ha.ok, List.append_nil, List.nil_append]
theorem HS.perm (h : HS S H0 A0 A L H) (hp : L'.Perm L) : HS S H0 A0 A L' H :=
 ⟨h.kept, h.base, h.w0, h.sub, h.lt, fun p q => h.own p (hp.subset q), (List.Perm.pairwise_iff (fun {a b} (q : a.1 ≠ b.1) => q.symm) hp).2 h.dist⟩
theorem HS.after0 {Sc Hc : AH} {L0 : OL} (hH : HS Sc H0 A0 A L H) (ht : Takes Li L L0) (k : Turned Li H H1 Lo) : HS Sc H0 A0 A (Lo ++ L0) H1 := by
 obtain ⟨hs, g⟩ := hH.after (Hc := H) ht k
 exact ⟨hs.kept, fun j hj => g.get j hj, g.w0.symm, fun j hj => hs.sub j (.inl hj), fun j hj => hs.lt j (.inl hj), fun p hp => by
  obtain ⟨q1, q2, q3, q4⟩ := hs.own p hp
  exact ⟨q1, q2, q3, fun h => q4 (.inl h)⟩, hs.dist⟩
theorem fZ {c : Code} {K : AQ} {f : Fr} (hp : L'.Perm L) (h : SX P c K f S A0 H0 A L') : SX P c K f S A0 H0 A L := fun H hH => h H (hH.perm hp)
theorem aEf {f : Fr} {ops : List Oper} (hp : L'.Perm L) (hD : G.D = true → G.Lw.Sublist L') (h : SO E G i ops Q f H0 A L') : SO E G i ops Q f H0 A L := fun hDs H hH => h (hDs.list hD) H (hH.perm hp)
theorem kO {c : Call} {g : FuncId} {vs : List Value} {L0 : OL} (T : Value → OL → Prop) (hw : gok G.ops l gd = true) (hdn : Nat.ble (d + 1) n = true) (hm : G.D = true → i ∈ G.ms) (hc : c.callee = .value (.func g)) (hg : ∃ fn, E.fn g = some fn) (ha : Opvs l c.args.toList vs) (ht : Takes Li L L0) (hDs : G.D = true → G.Lw.Sublist L0)
 (hk : ∀ H, HS G.S H0 G.A0 A L H → XCall P g vs H fun u H' => ∃ Lo, Turned Li H H' Lo ∧ T u Lo)
 (h : ∀ u Lo, T u Lo → SO E G (i + 1) r Q (fr n t ((d, u) :: l)) H0 A (Lo ++ L0)) : SO E G i (⟨some d, .call c, ty, ps, af, gd⟩ :: r) Q (fr n t l) H0 A L :=
 lQ hw rfl hdn hm fun hD H hH => by
  obtain ⟨fn, hg⟩ := hg
  obtain ⟨u, H', ⟨Lo, hT, hu⟩, hw0, hcall⟩ := hk H hH
  refine ⟨u, H', H0, A, Lo ++ L0, .inr ⟨hw0, g, vs, ?_, hcall⟩, hH.after0 (Hc := H) ht hT, hD.list fun hD => (hDs hD).trans (List.sublist_append_right _ _), h u Lo hu⟩
  simp only [fL, hc, pF, hg, ha.ok, List.append_nil, List.nil_append]
theorem nC {c : Call} {z : Operand} {g : FuncId} {fa fb vs args : List Value} {L0 : OL} (T : Value → OL → Prop) (hw : gok G.ops l gd = true) (hdn : Nat.ble (d + 1) n = true) (hm : G.D = true → i ∈ G.ms) (hc : c.callee = .value z) (hz : opv l z = some (.func (.func g) ⟨fa⟩ ⟨fb⟩)) (hg : ∃ fn, E.fn g = some fn) (ha : Opvs l c.args.toList vs) (hargs : fa ++ (vs ++ fb) = args) (ht : Takes Li L L0) (hDs : G.D = true → G.Lw.Sublist L0)
 (hk : ∀ H, HS G.S H0 G.A0 A L H → XCall P g args H fun u H' => ∃ Lo, Turned Li H H' Lo ∧ T u Lo)
 (h : ∀ u Lo, T u Lo → SO E G (i + 1) r Q (fr n t ((d, u) :: l)) H0 A (Lo ++ L0)) : SO E G i (⟨some d, .call c, ty, ps, af, gd⟩ :: r) Q (fr n t l) H0 A L :=
 lQ hw rfl hdn hm fun hD H hH => by
  obtain ⟨fn, hg⟩ := hg
  obtain ⟨u, H', ⟨Lo, hT, hu⟩, hw0, hcall⟩ := hk H hH
  refine ⟨u, H', H0, A, Lo ++ L0, .inr ⟨hw0, g, args, ?_, hcall⟩, hH.after0 (Hc := H) ht hT, hD.list fun hD => (hDs hD).trans (List.sublist_append_right _ _), h u Lo hu⟩
  simp only [fL, hc, cG hz, hg, ha.ok, hargs]
theorem HS.have (hH : HS S H0 A0 A L H) (hs : ∀ p ∈ Li, p ∈ L) : ∀ p ∈ Li, H.tr.get p.1 = some p.2 ∧ p.1 < H.nx := fun p hp => ⟨(hH.own p (hs p hp)).1, (hH.own p (hs p hp)).2.2.1⟩
theorem HS.ne {N M : Nat} {o o' : AObj} (hH : HS S H0 A0 A L H) (h : L.Pairwise (fun p q => p.1 ≠ q.1) → N ≠ M) : N ≠ M := h hH.dist
end
end Go.AM
namespace Go.AM
open Go.RowKit
section
variable {P : Program} {E : Env P} {t : TypeId} {k k' : IntKind} {a b c : Int}
theorem kA (hb : 0 ≤ b) (h : a.fdiv (2 ^ (min b.toNat k.bits)) = c) : dM E .shr t (.int k a) (.int k' b) = some (.int k c) := by
 have : ¬ b < 0 := by omega
 simp only [dM, this, if_false, h]
theorem wF (hb : 0 ≤ b) (h : k.wrap (a * 2 ^ (min b.toNat k.bits)) = c) : dM E .shl t (.int k a) (.int k' b) = some (.int k c) := by
 have : ¬ b < 0 := by omega
 simp only [dM, this, if_false, h]
theorem vN (h : bits .xor k a b = c) : dM E .xor t (.int k a) (.int k b) = some (.int k c) := by simp [dM, eQ, h]
theorem pN (h : bits .and k a b = c) : dM E .and t (.int k a) (.int k b) = some (.int k c) := by simp [dM, eQ, h]
theorem wM (h : bits .or k a b = c) : dM E .or t (.int k a) (.int k b) = some (.int k c) := by simp [dM, eQ, h]
theorem bE {s u v : ByteArray} (hl : s.data.toList.length + u.data.toList.length ≤ 9223372036854775807) (h : v = ⟨⟨s.data.toList ++ u.data.toList⟩⟩) : dM E .add t (.string s) (.string u) = some (.string v) := by
 subst h
 have e1 : s.size = s.data.toList.length := by rw [Array.length_toList]; rfl
 have e2 : u.size = u.data.toList.length := by rw [Array.length_toList]; rfl
 simp only [dM, uM, e1, e2, hl, if_true]
end
section
variable {P : Program} {E : Env P} {G : RG} {i n d : Nat} {r : List Oper} {Q : Fr → AH → Prop} {t : Tr Value} {l : List (Nat × Value)} {H0 : AH} {A : Nat → Prop} {L L' : OL} {v : Value}
 {ty : TypeId} {ps : String} {af : Array Edge} {gd : Option (Nat × Bool)} {x y : Operand}
theorem aGa {op : UnOp} {ta : TypeId} {a : Value} (hw : gok G.ops l gd = true) (hdn : Nat.ble (d + 1) n = true) (hx : opv l x = some a) (hb : aun op a = some v) (h : SO E G (i + 1) r Q (fr n t ((d, v) :: l)) H0 A L) :
 SO E G i (⟨some d, .unOp op ta x, ty, ps, af, gd⟩ :: r) Q (fr n t l) H0 A L :=
 eT hw rfl hdn rfl (fun H => by simp only [aop, cG hx, hb, dL]) h
theorem kL {kk : IntKind} {b off m j s o' : Nat} {e : TypeId} {ii : TI} {ta : TypeId} (hw : gok G.ops l gd = true) (hdn : Nat.ble (d + 1) n = true) (hx : opv l x = some (.pointer (some ⟨b, off, none⟩))) (hy : opv l y = some (.int kk ((j : Nat) : Int))) (hu : E.und ta = some (.array m e)) (hi : E.inf e = some ii) (hs : ii.size = s)
 (hj : j < m) (ho : off + j * s = o') (h : SO E G (i + 1) r Q (fr n t ((d, .pointer (some ⟨b, o', none⟩)) :: l)) H0 A L) : SO E G i (⟨some d, .indexAddr ta x y, ty, ps, af, gd⟩ :: r) Q (fr n t l) H0 A L :=
 eT hw rfl hdn rfl (fun H => by
  have : oQ (.int kk ((j : Nat) : Int)) m = some j := by simp only [oQ]; rw [if_pos ⟨by omega, by omega⟩]; simp
  simp only [aop, cG hx, cG hy, kE, hu, hi, this, dL, hs, aEi, ho]) h
theorem lW {sT dT e : TypeId} {N m c sz : Nat} {cs : List Value} {ex : Bool} {bs : List UInt8} (hw : gok G.ops l gd = true) (hdn : Nat.ble (d + 1) n = true) (hm : G.D = true → i ∈ G.ms) (hx : opv l x = some (.slice (some ⟨2 * N + 1, 0, none⟩) m c)) (hs : E.und sT = some (.slice e)) (he : E.und e = some (.int .u8)) (hd : E.und dT = some .string)
 (hmem : (N, AObj.cells cs sz ex) ∈ L) (hl : cs.length = m) (hb : pR cs = some bs) (h : SO E G (i + 1) r Q (fr n t ((d, .string ⟨⟨bs⟩⟩) :: l)) H0 A L) :
 SO E G i (⟨some d, .convert sT dT x, ty, ps, af, gd⟩ :: r) Q (fr n t l) H0 A L :=
 lQ hw rfl hdn hm fun hD H hH => by
  refine ⟨.string ⟨⟨bs⟩⟩, H, H0, A, L, .inl ?_, hH, hD, h⟩
  have hg := mD (hH.own _ hmem).1 0 m none (by omega)
  rw [List.drop_zero, ← hl, List.take_length] at hg
  simp only [aop, cG hx, qO, hs, hd, he, ← hl, hg, hb]
end
def eN (b : UInt8) : Value := .int .u8 (b.toNat : Int)
theorem kG (l : List UInt8) : pR (l.map eN) = some l := by
 induction l with
 | nil => rfl
 | cons b l ih => simp [pR, eN, ih]
theorem aDx (l : List UInt8) : eF (l.map eN) = true := by
 induction l with
 | nil => rfl
 | cons b l ih => simp [eF, eN, ih, Value.oneCell']
theorem mU (n : Nat) : IntKind.u8.wrap (n : Int) = ((n % 256 : Nat) : Int) := by
 have e : IntKind.u8.wrap (n : Int) = (n : Int) % 256 := rfl
 rw [e]; omega
theorem aLd (n : Nat) : ((n % 256 : Nat) : Int) = ((UInt8.ofNat n).toNat : Int) := by simp
theorem oS (n : Nat) : IntKind.u8.wrap (n : Int) = ((UInt8.ofNat n).toNat : Int) := by rw [mU, aLd]
theorem fW : ∀ n : Int, 0 ≤ n → n < 2 ^ 32 → IntKind.u32.wrap n = n := fun n h0 h1 => by
 have e : IntKind.u32.wrap n = n % 4294967296 := rfl
 rw [e]; omega
theorem wQ : ∀ n : Int, 0 ≤ n → n < 2 ^ 8 → IntKind.u8.wrap n = n := fun n h0 h1 => by
 have e : IntKind.u8.wrap n = n % 256 := rfl
 rw [e]; omega
theorem dH : ∀ n : Int, 0 ≤ n → n < 2 ^ 64 → IntKind.u64.wrap n = n := fun n h0 h1 => by
 have e : IntKind.u64.wrap n = n % 18446744073709551616 := rfl
 rw [e]; omega
theorem jV {x j : Nat} {b : Int} {k : IntKind} (h : min b.toNat k.bits = j) : ((x : Nat) : Int).fdiv (2 ^ (min b.toNat k.bits)) = ((x / 2 ^ j : Nat) : Int) := by
 rw [h, show (2 : Int) ^ j = ((2 ^ j : Nat) : Int) by simp, Int.ofNat_fdiv]
theorem gD (k : IntKind) (j : Nat) (hj : j ≤ k.bits) (hk : ∀ n : Int, 0 ≤ n → n < 2 ^ j → k.wrap n = n) (a b : Nat) (ha : a < 2 ^ j) (hb : b < 2 ^ j) : bits .xor k a b = ((a ^^^ b : Nat) : Int) := by
 have hp : 2 ^ j ≤ 2 ^ k.bits := Nat.pow_le_pow_right (by decide) hj
 have ha' : a % 2 ^ k.bits = a := Nat.mod_eq_of_lt (Nat.lt_of_lt_of_le ha hp)
 have hb' : b % 2 ^ k.bits = b := Nat.mod_eq_of_lt (Nat.lt_of_lt_of_le hb hp)
 have cast : ∀ n : Nat, n < 2 ^ j → ((n : Nat) : Int) < 2 ^ j := fun n h => by exact_mod_cast h
 simp only [bits, BitVec.ofInt_natCast, BitVec.toNat_xor, BitVec.toNat_ofNat, ha', hb']
 exact hk _ (Int.natCast_nonneg _) (cast _ (Nat.xor_lt_two_pow ha hb))
end Go.AM
