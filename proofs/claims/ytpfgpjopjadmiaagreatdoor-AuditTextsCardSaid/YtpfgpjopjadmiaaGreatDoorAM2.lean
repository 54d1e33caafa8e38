/-
  The abstract machine, part 2: memory: loads, stores, new blocks.
-/
import Derived.Test.YtpfgpjopjadmiaaGreatDoorAM1
import Derived.Laws.Rows
import Derived.Laws.Slices
import Derived.Laws.Append
set_option linter.unusedVariables false
set_option linter.unusedSimpArgs false
noncomputable section
namespace Go.AM
open Go.RowKit

theorem lt_of_getElem? {α : Type} {l : List α} {i : Nat} {x : α} (h : l[i]? = some x) : i < l.length := by
  rcases Nat.lt_or_ge i l.length with h' | h'
  · exact h'
  · simp [List.getElem?_eq_none h'] at h
theorem alt_of_getElem? {α : Type} {l : Array α} {i : Nat} {x : α} (h : l[i]? = some x) : i < l.size := by
  rcases Nat.lt_or_ge i l.size with h' | h'
  · exact h'
  · simp [Array.getElem?_eq_none h'] at h

def extLoads (w : World) (a : Addr) : Nat → Nat → Option (List Value)
  | _, 0 => some []
  | i, n + 1 =>
    match w.cell? (a.add i) with
    | some v => (match extLoads w a (i + 1) n with
      | some r => some (ext v :: r)
      | none => none)
    | none => none

def aload (H : AH) (a : Addr) : Option Value :=
  bif Nat.beq (a.block % 2) 0 then
    (match H.w0.cell? ⟨a.block / 2, a.off, a.spot⟩ with
    | some v => some (ext v)
    | none => none)
  else match H.tr.get (a.block / 2) with
    | some (.cells cs _ _) => cs[a.off]?
    | _ => none

def aloads (H : AH) (a : Addr) (n : Nat) : Option (List Value) :=
  bif Nat.beq n 0 then some [] else
  bif Nat.beq (a.block % 2) 0 then extLoads H.w0 ⟨a.block / 2, a.off, a.spot⟩ 0 n
  else match H.tr.get (a.block / 2) with
    | some (.cells cs _ _) => bif Nat.ble (a.off + n) cs.length then some ((cs.drop a.off).take n) else none
    | _ => none

def allOne : List Value → Bool
  | [] => true
  | v :: r => v.oneCell' && allOne r

def astores (H : AH) (a : Addr) (vs : List Value) : Option AH :=
  bif Nat.beq (a.block % 2) 0 then none
  else match H.tr.get (a.block / 2) with
    | some (.cells cs sz ex) =>
      bif Nat.ble (a.off + vs.length) cs.length && allOne vs then
        some { H with tr := H.tr.set (a.block / 2) (some (.cells (cs.take a.off ++ (vs ++ cs.drop (a.off + vs.length))) sz ex)) }
      else none
    | _ => none

def anew (H : AH) (o : AObj) : AH := { H with nx := H.nx + 1, tr := H.tr.set H.nx (some o) }

/-! ### loads -/
theorem extLoads_ok {w0 w : World} (hb : Below w0.heap.size w0 w) (φ : List Place) (a : Addr) : ∀ (n i : Nat) (l : List Value), extLoads w0 a i n = some l →
    ∃ l', VRs φ l l' ∧ l'.length = n ∧ ∀ j v', l'[j]? = some v' → w.cell? (a.add (i + j)) = some v' := by
  intro n
  induction n with
  | zero => intro i l h; simp [extLoads] at h; subst h; exact ⟨[], VRs.nil φ, rfl, fun j v' h => by simp at h⟩
  | succ n ih =>
    intro i l h
    simp only [extLoads] at h
    split at h
    · rename_i v hv
      split at h
      · rename_i r hr
        cases h
        obtain ⟨l', h1, h2, h3⟩ := ih _ _ hr
        refine ⟨v :: l', VRs.cons (VR.ext φ v) h1, by simp [h2], fun j v' hj => ?_⟩
        cases j with
        | zero =>
          simp at hj; subst hj
          rw [Nat.add_zero, hb.cell (World.block_lt_of_cell? w0 _ hv)]; exact hv
        | succ j =>
          simp at hj
          have := h3 j v' hj
          rwa [show i + (j + 1) = i + 1 + j by omega]
      · cases h
    · cases h

theorem own_cell {φ : List Place} {p : Place} {cs : List Value} {sz : Nat} {ex : Bool} {w : World} (h : ORel φ p (.cells cs sz ex) w.heap[p.blk]?) {k : Nat} {v : Value} (hv : cs[k]? = some v) :
    ∃ v', w.cell? ⟨p.blk, p.base + k, none⟩ = some v' ∧ VR φ v v' := by
  obtain ⟨C, e, lo, hi, hx, hf, ht, hs, hle, hex, hr⟩ := h
  obtain ⟨v', h1, h2⟩ := hr.get hv
  refine ⟨v', ?_, h2⟩
  rw [List.getElem?_take] at h1
  split at h1
  · rw [List.getElem?_drop] at h1
    simp only [World.cell?, hx, Option.isSome_none, Bool.false_eq_true, if_false]
    rw [← Array.getElem?_toList]; exact h1
  · cases h1

theorem aload_ok [Pins] {φ : List Place} {H : AH} {w : World} (R : Rel φ H w) {a a' : Addr} (ha : ARel φ a a') {v : Value} (h : aload H a = some v) :
    ∃ v', w.cell? a' = some v' ∧ VR φ v v' := by
  unfold aload at h
  rcases ha with ⟨h0, h1, h2, h3⟩ | ⟨h0, hs, hs', p, hp, hb, ho⟩
  · rw [show Nat.beq (a.block % 2) 0 = true by rw [h0]; rfl, cond_true] at h
    split at h
    · rename_i v' hv
      cases h
      obtain rfl : a' = ⟨a.block / 2, a.off, a.spot⟩ := by cases a'; simp_all
      exact ⟨v', by rw [R.below.cell (World.block_lt_of_cell? _ _ hv)]; exact hv, VR.ext φ v'⟩
    · cases h
  · rw [show Nat.beq (a.block % 2) 0 = false by rw [h0]; rfl, cond_false] at h
    split at h
    · rename_i cs sz ex hg
      obtain ⟨q, hq, hN, hO⟩ := R.obj _ _ hg
      rw [hp] at hq; cases hq
      obtain ⟨v', h4, h5⟩ := own_cell hO h
      refine ⟨v', ?_, h5⟩
      obtain rfl : a' = ⟨p.blk, p.base + a.off, none⟩ := by cases a'; simp_all
      exact h4
    · cases h

theorem add_spot (a : Addr) (h : a.spot = none) (n : Nat) : a.add n = ⟨a.block, a.off + n, none⟩ := by
  obtain ⟨b, o, s⟩ := a
  simp only at h; subst h
  unfold Addr.add
  split
  · rename_i h; subst h; rfl
  · rfl

theorem aloads_ok [Pins] {φ : List Place} {H : AH} {w : World} (R : Rel φ H w) {a a' : Addr} {n : Nat} (ha : n = 0 ∨ ARel φ a a') {l : List Value} (h : aloads H a n = some l) :
    ∃ l', VRs φ l l' ∧ l'.length = n ∧ ∀ j v', l'[j]? = some v' → w.cell? (a'.add j) = some v' := by
  unfold aloads at h
  by_cases hn : n = 0
  · subst hn
    simp at h; subst h
    exact ⟨[], VRs.nil φ, rfl, fun j v' h => by simp at h⟩
  · rw [show Nat.beq n 0 = false by (cases n with | zero => exact absurd rfl hn | succ n => rfl), cond_false] at h
    have ha := ha.resolve_left hn
    rcases ha with ⟨h0, h1, h2, h3⟩ | ⟨h0, hs, hs', p, hp, hb, ho⟩
    · rw [show Nat.beq (a.block % 2) 0 = true by rw [h0]; rfl, cond_true] at h
      obtain rfl : a' = ⟨a.block / 2, a.off, a.spot⟩ := by cases a'; simp_all
      obtain ⟨l', h4, h5, h6⟩ := extLoads_ok R.below φ _ n 0 l h
      exact ⟨l', h4, h5, fun j v' hj => by have := h6 j v' hj; rwa [Nat.zero_add] at this⟩
    · rw [show Nat.beq (a.block % 2) 0 = false by rw [h0]; rfl, cond_false] at h
      split at h
      · rename_i cs sz ex hg
        cases hle : Nat.ble (a.off + n) cs.length with
        | false => rw [hle] at h; cases h
        | true =>
          rw [hle, cond_true] at h
          cases h
          have hle' := Nat.le_of_ble_eq_true hle
          obtain ⟨q, hq, hN, hO⟩ := R.obj _ _ hg
          rw [hp] at hq; cases hq
          obtain ⟨C, e, lo, hi, hx, hf, ht, hs2, hle2, hex, hr⟩ := hO
          refine ⟨(((C.toList.drop p.base).take cs.length).drop a.off).take n, (hr.drop _).take _, ?_, fun j v' hj => ?_⟩
          · simp; omega
          · rw [List.getElem?_take] at hj
            split at hj
            · rw [List.getElem?_drop, List.getElem?_take] at hj
              split at hj
              · rw [List.getElem?_drop] at hj
                obtain rfl : a' = ⟨p.blk, p.base + a.off, none⟩ := by cases a'; simp_all
                rw [add_spot _ rfl]
                simp only [World.cell?, hx, Option.isSome_none, Bool.false_eq_true, if_false]
                rw [← Array.getElem?_toList, Nat.add_assoc]; exact hj
              · cases hj
            · cases hj
      · cases h

/-! ### a new block -/
theorem pin_places [π : Pins] {φ : List Place} {H : AH} {w : World} (R : Rel φ H w) {q : Place} (b : Nat) (x : Obj) (hb : π.pin b = some x) (hq : q.blk ≠ b) : ∀ (i : Nat) p, (φ ++ [q])[i]? = some p → p.blk ≠ b := fun i p hp => by
  rcases Nat.lt_or_ge i φ.length with h | h
  · rw [List.getElem?_append_left h] at hp; exact (R.pin b x hb).2 i p hp
  · rw [List.getElem?_append_right h] at hp
    have h0 : i - φ.length = 0 := by have := lt_of_getElem? hp; simp at this; omega
    rw [h0] at hp; simp at hp; subst hp; exact hq
theorem lt_places {φ : List Place} {n m : Nat} (h : ∀ (i : Nat) p, φ[i]? = some p → p.blk < n) (hn : n ≤ m) {q : Place} (hq : q.blk < m) : ∀ (i : Nat) p, (φ ++ [q])[i]? = some p → p.blk < m := fun i p hp => by
  rcases Nat.lt_or_ge i φ.length with h' | h'
  · rw [List.getElem?_append_left h'] at hp; exact Nat.lt_of_lt_of_le (h i p hp) hn
  · rw [List.getElem?_append_right h'] at hp
    have h0 : i - φ.length = 0 := by have := lt_of_getElem? hp; simp at this; omega
    rw [h0] at hp; simp at hp; subst hp; exact hq
theorem pin_new [π : Pins] {φ : List Place} {H : AH} {w : World} (R : Rel φ H w) (x : Obj) (tot sz : Nat) : ∀ b y, π.pin b = some y → (w.alloc x).heap[b]? = some y ∧ ∀ (i : Nat) p, (φ ++ [⟨w.heap.size, 0, tot, sz⟩])[i]? = some p → p.blk ≠ b := fun b y hb => by
  have hlt := alt_of_getElem? (R.pin b y hb).1
  exact ⟨(Below.heap_alloc w x b hlt).trans (R.pin b y hb).1, pin_places R b y hb (by show w.heap.size ≠ b; omega)⟩
theorem pin_set [π : Pins] {φ : List Place} {H : AH} {w : World} (R : Rel φ H w) {i : Nat} {p : Place} (hp : φ[i]? = some p) (y : Obj) : ∀ b x, π.pin b = some x → (w.heap.setIfInBounds p.blk y)[b]? = some x ∧ ∀ (i : Nat) p, φ[i]? = some p → p.blk ≠ b := fun b x hb => by
  refine ⟨?_, (R.pin b x hb).2⟩
  rw [Array.getElem?_setIfInBounds, if_neg ((R.pin b x hb).2 i p hp)]
  exact (R.pin b x hb).1
theorem Rel.new [Pins] {φ : List Place} {H : AH} {w : World} (R : Rel φ H w) (o : AObj) (x : Obj) (tot sz : Nat)
    (h : ORel (φ ++ [⟨w.heap.size, 0, tot, sz⟩]) ⟨w.heap.size, 0, tot, sz⟩ o (some x)) : Rel (φ ++ [⟨w.heap.size, 0, tot, sz⟩]) (anew H o) (w.alloc x) := by
  have hpre : φ <+: φ ++ [⟨w.heap.size, 0, tot, sz⟩] := ⟨_, rfl⟩
  have hlt : ∀ i o, H.tr.get i = some o → ∀ p, φ[i]? = some p → p.blk < w.heap.size := by
    intro i o hi p hp
    obtain ⟨q, hq, hN, hO⟩ := R.obj i o hi
    rw [hp] at hq; cases hq
    cases o with
    | cells cs s e => obtain ⟨C, e, lo, hi, hx, _⟩ := hO; exact alt_of_getElem? hx
    | map es c => obtain ⟨es', hx, _⟩ := hO; exact alt_of_getElem? hx
    | iter s q => exact alt_of_getElem? hO
  have hi_lt : ∀ i o, H.tr.get i = some o → i < H.nx := by
    intro i o hi
    obtain ⟨q, hq, _⟩ := R.obj i o hi
    rw [← R.len]; exact lt_of_getElem? hq
  have hORel : ∀ p o y, ORel φ p o y → ORel (φ ++ [⟨w.heap.size, 0, tot, sz⟩]) p o y := by
    intro p o y hO
    cases o with
    | cells cs s e => obtain ⟨C, e, lo, hi, hx, h1, h2, h3, h4, h5, h6⟩ := hO; exact ⟨C, e, lo, hi, hx, h1, h2, h3, h4, h5, h6.mono hpre⟩
    | map es c =>
      obtain ⟨es', hx, h1, h2⟩ := hO
      exact ⟨es', hx, h1, fun i k v b e he he' => let ⟨a1, a2, a3⟩ := h2 i k v b e he he'; ⟨a1.mono hpre, a2.mono hpre, a3⟩⟩
    | iter s q => exact hO
  refine ⟨R.below.alloc R.below.size x, by simp [anew, R.len], fun i o' hi => ?_, fun i j o1 o2 p q hi hj hp hq e => ?_, pin_new R x tot sz, lt_places R.lt (by simp) (by simp)⟩
  · by_cases hin : i = H.nx
    · subst hin
      simp only [anew, Tr.get_set_same] at hi
      cases hi
      refine ⟨⟨w.heap.size, 0, tot, sz⟩, by rw [← R.len]; simp, R.below.size, ?_⟩
      show ORel _ _ _ (w.alloc x).heap[w.heap.size]?
      rw [show (w.alloc x).heap[w.heap.size]? = some x from heap_alloc_new w x]
      exact h
    · simp only [anew, Tr.get_set_ne _ _ hin] at hi
      obtain ⟨p, hp, hN, hO⟩ := R.obj i o' hi
      refine ⟨p, getElem?_prefix hpre hp, hN, ?_⟩
      rw [show (w.alloc x).heap[p.blk]? = w.heap[p.blk]? from Below.heap_alloc w x p.blk (hlt i o' hi p hp)]
      exact hORel _ _ _ hO
  · have back : ∀ i o', (H.tr.set H.nx (some o)).get i = some o' → i ≠ H.nx → H.tr.get i = some o' := fun i o' h hne => by rwa [Tr.get_set_ne _ _ hne] at h
    have pl : ∀ i p, i ≠ H.nx → i < H.nx → (φ ++ [⟨w.heap.size, 0, tot, sz⟩])[i]? = some p → φ[i]? = some p := by
      intro i p hne hl hp
      rwa [List.getElem?_append_left (by rw [R.len]; exact hl)] at hp
    have pn : ∀ p, (φ ++ [(⟨w.heap.size, 0, tot, sz⟩ : Place)])[H.nx]? = some p → p.blk = w.heap.size := by
      intro p hp
      rw [← R.len] at hp; simp at hp; subst hp; rfl
    by_cases h1 : i = H.nx <;> by_cases h2 : j = H.nx
    · omega
    · have hj' := back j o2 hj h2
      have := hlt j o2 hj' q (pl j q h2 (hi_lt j o2 hj') hq)
      subst h1
      have := pn p hp
      omega
    · have hi' := back i o1 hi h1
      have := hlt i o1 hi' p (pl i p h1 (hi_lt i o1 hi') hp)
      subst h2
      have := pn q hq
      omega
    · have hi' := back i o1 hi h1
      have hj' := back j o2 hj h2
      exact R.inj i j o1 o2 p q hi' hj' (pl i p h1 (hi_lt i o1 hi') hp) (pl j q h2 (hi_lt j o2 hj') hq) e

theorem Rel.drew [Pins] {φ : List Place} {H : AH} {w : World} (R : Rel φ H w) : Rel φ H w.drew := ⟨R.below.drew, R.len, R.obj, R.inj, R.pin, R.lt⟩

/-- a new row of cells -/
theorem Rel.newCells [Pins] {φ : List Place} {H : AH} {w : World} (R : Rel φ H w) {cs cs' : List Value} (hc : VRs φ cs cs') (e : TypeId) (sz : Nat) (ht : SzE sz e) :
    Rel (φ ++ [⟨w.heap.size, 0, cs'.length, sz⟩]) (anew H (.cells cs sz true)) (w.alloc (.cells cs'.toArray e)) := by
  refine R.new _ _ _ _ ⟨cs'.toArray, e, 0, 0, rfl, fun k _ => by omega, by simp, ⟨rfl, ht, fun _ => rfl⟩, by simp [hc.1], fun _ => by simp [hc.1], ?_⟩
  rw [hc.1]
  simpa using hc.mono ⟨_, rfl⟩

/-- a new row of cells with more behind them -/
theorem Rel.newSpare [Pins] {φ : List Place} {H : AH} {w : World} (R : Rel φ H w) {cs cs' more : List Value} (hc : VRs φ cs cs') (e : TypeId) (sz : Nat) (ht : SzE sz e) :
    Rel (φ ++ [⟨w.heap.size, 0, (cs' ++ more).length, sz⟩]) (anew H (.cells cs sz false)) (w.alloc (.cells (cs' ++ more).toArray e)) := by
  refine R.new _ _ _ _ ⟨(cs' ++ more).toArray, e, 0, 0, rfl, fun k _ => by omega, by simp, ⟨rfl, ht, fun _ => rfl⟩, by simp [hc.1], fun h => by simp at h, ?_⟩
  rw [hc.1]
  simpa using hc.mono ⟨_, rfl⟩

theorem ARel.new (φ : List Place) (n : Nat) (hn : φ.length = n) (p : Place) (hp : p.base = 0) : ARel (φ ++ [p]) ⟨2 * n + 1, 0, none⟩ ⟨p.blk, 0, none⟩ := by
  refine .inr ⟨by simp only; omega, rfl, rfl, p, ?_, rfl, by simp [hp]⟩
  have : (2 * n + 1) / 2 = φ.length := by omega
  simp [this]

/-! ### stores -/
def splice (C : List Value) (o : Nat) (vs : List Value) : List Value := C.take o ++ (vs ++ C.drop (o + vs.length))

theorem splice_length {C vs : List Value} {o : Nat} (h : o + vs.length ≤ C.length) : (splice C o vs).length = C.length := by
  simp [splice]; omega

theorem splice_get {C vs : List Value} {o : Nat} (h : o ≤ C.length) (n : Nat) : (splice C o vs)[n]? = if n < o then C[n]? else if n < o + vs.length then vs[n - o]? else C[n]? := by
  unfold splice
  have hl : (C.take o).length = o := by simp; omega
  by_cases h1 : n < o
  · rw [if_pos h1, List.getElem?_append_left (by omega), List.getElem?_take, if_pos h1]
  · rw [if_neg h1, List.getElem?_append_right (by omega), hl]
    by_cases h2 : n < o + vs.length
    · rw [if_pos h2, List.getElem?_append_left (by omega)]
    · rw [if_neg h2, List.getElem?_append_right (by omega), List.getElem?_drop]
      congr 1; omega

theorem splice_cons (C : List Value) (o : Nat) (v : Value) (vs : List Value) (h : o + (vs.length + 1) ≤ C.length) : splice (C.set o v) (o + 1) vs = splice C o (v :: vs) := by
  unfold splice
  have h1 : (C.set o v).take (o + 1) = C.take o ++ [v] := by
    rw [List.take_succ_eq_append_getElem (by simp; omega)]
    simp [List.take_set_of_le]
  have h2 : (C.set o v).drop (o + 1 + vs.length) = C.drop (o + 1 + vs.length) := by
    rw [List.drop_set_of_lt (by omega)]
  rw [h1, h2]
  simp [Nat.add_assoc, Nat.add_comm 1]

theorem run_storeCells (P : Program) : ∀ (vs : List Value) (i : Nat) (w : World) (a : Addr) (C : List Value) (e : TypeId) (lo hi : Nat), w.heap[a.block]? = some (.cells C.toArray e (lo, hi)) → a.spot = none →
    (∀ k, k < C.length → lo ≤ k → lo = hi) → a.off + i + vs.length ≤ C.length → allOne vs = true →
    (storeCells a vs i).run P w = .ok () { w with heap := w.heap.setIfInBounds a.block (.cells (splice C (a.off + i) vs).toArray e (lo, hi)) } := by
  intro vs
  induction vs with
  | nil =>
    intro i w a C e lo hi hb hs hf hle h1
    have : splice C (a.off + i) [] = C := by simp [splice]
    rw [this]
    have hset : w.heap.setIfInBounds a.block (.cells C.toArray e (lo, hi)) = w.heap := by
      apply Array.ext_getElem?
      intro k
      rw [Array.getElem?_setIfInBounds]
      split
      · rename_i hk; subst hk
        split
        · exact hb.symm
        · rename_i hk; exact absurd (alt_of_getElem? hb) hk
      · rfl
    rw [hset]
    simp [storeCells]
  | cons v vs ih =>
    intro i w a C e lo hi hb hs hf hle h1
    simp only [allOne, Bool.and_eq_true] at h1
    simp only [List.length_cons] at hle
    have hlt : a.off + i < C.length := by omega
    have hadd := add_spot a hs i
    have hc : w.cell? (a.add i) = some C[a.off + i] := by
      rw [hadd]
      simp [World.cell?, hb, hlt]
    have hfz : w.frozen? (a.add i) = false := by
      rw [hadd]
      simp only [World.frozen?, hb]
      have := hf _ hlt
      simp only [Bool.and_eq_false_iff, decide_eq_false_iff_not]
      omega
    simp only [storeCells, Sem.run_bind, run_store P w (a.add i) v .plain h1.1, hc, hfz, Bool.false_eq_true, if_false, Result.andThen_ok]
    have hset : w.setCell (a.add i) v = { w with heap := w.heap.setIfInBounds a.block (.cells (C.set (a.off + i) v).toArray e (lo, hi)) } := by
      rw [hadd]
      simp only [World.setCell]
      congr 1
      apply Array.ext_getElem?
      intro k
      rw [Array.getElem?_modify, Array.getElem?_setIfInBounds]
      by_cases hk : a.block = k
      · subst hk
        rw [if_pos rfl, if_pos rfl, if_pos (alt_of_getElem? hb), hb]
        simp
      · simp [hk]
    rw [hset]
    have hb' : ({ w with heap := w.heap.setIfInBounds a.block (.cells (C.set (a.off + i) v).toArray e (lo, hi)) } : World).heap[a.block]? = some (.cells (C.set (a.off + i) v).toArray e (lo, hi)) := by
      simp [alt_of_getElem? hb]
    rw [ih (i + 1) _ a (C.set (a.off + i) v) e lo hi hb' hs (by simpa using hf) (by simp; omega) h1.2]
    have := splice_cons C (a.off + i) v vs (by omega)
    rw [Nat.add_assoc] at this
    rw [this]
    congr 2
    simp

theorem VRs.splice {φ : List Place} {C C' vs vs' : List Value} (h : VRs φ C C') (k : VRs φ vs vs') (o : Nat) : VRs φ (splice C o vs) (AM.splice C' o vs') := by
  unfold AM.splice
  rw [← k.1]
  exact (h.take o).append (k.append (h.drop _))

theorem allOne_VRs {φ : List Place} : ∀ {l l' : List Value}, VRs φ l l' → allOne l = true → allOne l' = true
  | [], [], _, _ => rfl
  | [], _ :: _, h, _ => by have := h.1; simp at this
  | _ :: _, [], h, _ => by have := h.1; simp at this
  | v :: l, v' :: l', h, h1 => by
    simp only [allOne, Bool.and_eq_true] at h1 ⊢
    refine ⟨?_, allOne_VRs h.tail h1.2⟩
    have hv := h.head
    cases hv <;> first | rfl | (have := h1.1; simp [Value.oneCell'] at this)

/-- the abstract cells of a block, spliced, while the block's cells are spliced -/
theorem Rel.setCells [Pins] {φ : List Place} {H : AH} {w : World} (R : Rel φ H w) {i : Nat} {cs : List Value} {sz : Nat} {ex : Bool} (hg : H.tr.get i = some (.cells cs sz ex)) {p : Place} (hp : φ[i]? = some p)
    {o : Nat} {vs vs' : List Value} (hv : VRs φ vs vs') (hle : o + vs.length ≤ cs.length) {C : List Value} {e : TypeId} {lo hi : Nat} (hC : w.heap[p.blk]? = some (.cells C.toArray e (lo, hi))) :
    Rel φ { H with tr := H.tr.set i (some (.cells (splice cs o vs) sz ex)) } { w with heap := w.heap.setIfInBounds p.blk (.cells (splice C (p.base + o) vs').toArray e (lo, hi)) } := by
  obtain ⟨q, hq, hN, hO⟩ := R.obj _ _ hg
  rw [hp] at hq; cases hq
  obtain ⟨C2, e2, lo2, hi2, hx, hf, ht, hs, hle2, hex, hr⟩ := hO
  rw [hC] at hx; cases hx
  simp only [List.size_toArray] at hf ht hle2 hex hr
  have hblk := alt_of_getElem? hC
  have hlC : (splice C (p.base + o) vs').length = C.length := splice_length (by have := hv.1; omega)
  have other : ∀ k, k ≠ p.blk → ({ w with heap := w.heap.setIfInBounds p.blk (.cells (splice C (p.base + o) vs').toArray e (lo, hi)) } : World).heap[k]? = w.heap[k]? := by
    intro k hk
    simp only [Array.getElem?_setIfInBounds]
    rw [if_neg (fun h => hk h.symm)]
  refine ⟨⟨R.below.os, R.below.tape, R.below.output, by simpa using R.below.size, fun k hk => ?_⟩, R.len, fun j o' hj => ?_, fun j k o1 o2 p1 p2 hj hk hp1 hp2 hE => ?_, pin_set R hp _, fun i p hp => by simpa using R.lt i p hp⟩
  · have hk' : k < H.w0.heap.size := hk
    rw [other k (by omega)]; exact R.below.block k hk
  · by_cases hji : j = i
    · subst hji
      simp only [Tr.get_set_same] at hj
      cases hj
      refine ⟨p, hp, hN, (splice C (p.base + o) vs').toArray, e, lo, hi, by simp [hblk], ?_, ?_, hs, ?_, ?_, ?_⟩
      · simp only [List.size_toArray]; rw [hlC]; exact hf
      · simp only [List.size_toArray]; rw [hlC]; exact ht
      · simp only [List.size_toArray]; rw [hlC, splice_length hle]; exact hle2
      · simp only [List.size_toArray]; rw [hlC, splice_length hle]; exact hex
      · rw [splice_length hle]
        have h1 := VRs.splice hr hv o
        have h2 : ((splice C (p.base + o) vs').drop p.base).take cs.length = splice ((C.drop p.base).take cs.length) o vs' := by
          have hl : vs'.length = vs.length := hv.1.symm
          apply List.ext_getElem?
          intro n
          rw [List.getElem?_take, splice_get (by simp; omega), List.getElem?_drop, splice_get (by omega)]
          by_cases hn : n < cs.length
          · rw [if_pos hn]
            by_cases h3 : n < o
            · rw [if_pos h3, if_pos (by omega), List.getElem?_take, if_pos hn, List.getElem?_drop]
            · rw [if_neg h3, if_neg (by omega)]
              by_cases h4 : n < o + vs'.length
              · rw [if_pos h4, if_pos (by omega)]; congr 1; omega
              · rw [if_neg h4, if_neg (by omega), List.getElem?_take, if_pos hn, List.getElem?_drop]
          · rw [if_neg hn, if_neg (by omega), if_neg (by omega), List.getElem?_take, if_neg hn]
        rw [h2]
        exact h1
    · simp only [Tr.get_set_ne _ _ hji] at hj
      obtain ⟨q, hq, hNq, hOq⟩ := R.obj _ _ hj
      refine ⟨q, hq, hNq, ?_⟩
      have hne : q.blk ≠ p.blk := fun hE => hji (R.inj j i _ _ q p hj hg hq hp hE)
      rw [other _ hne]; exact hOq
  · have back : ∀ j o', (H.tr.set i (some (AObj.cells (splice cs o vs) sz ex))).get j = some o' → ∃ o'', H.tr.get j = some o'' := by
      intro j o' h
      by_cases hji : j = i
      · subst hji; exact ⟨_, hg⟩
      · exact ⟨o', by rwa [Tr.get_set_ne _ _ hji] at h⟩
    obtain ⟨o1', h1⟩ := back _ _ hj
    obtain ⟨o2', h2⟩ := back _ _ hk
    exact R.inj j k _ _ p1 p2 h1 h2 hp1 hp2 hE

theorem astores_ok [Pins] (P : Program) {φ : List Place} {H H' : AH} {w : World} (R : Rel φ H w) {a a' : Addr} (ha : ARel φ a a') {vs vs' : List Value} (hv : VRs φ vs vs') (h : astores H a vs = some H') :
    ∃ w', (storeCells a' vs' 0).run P w = .ok () w' ∧ Rel φ H' w' := by
  unfold astores at h
  rcases ha with ⟨h0, h1, h2, h3⟩ | ⟨h0, hs, hs', p, hp, hb, ho⟩
  · rw [show Nat.beq (a.block % 2) 0 = true by rw [h0]; rfl, cond_true] at h; cases h
  · rw [show Nat.beq (a.block % 2) 0 = false by rw [h0]; rfl, cond_false] at h
    split at h
    · rename_i cs sz ex hg
      cases hle : (Nat.ble (a.off + vs.length) cs.length && allOne vs) with
      | false => rw [hle] at h; cases h
      | true =>
        rw [hle, cond_true] at h
        cases h
        simp only [Bool.and_eq_true] at hle
        have hle' := Nat.le_of_ble_eq_true hle.1
        obtain ⟨q, hq, hN, hO⟩ := R.obj _ _ hg
        rw [hp] at hq; cases hq
        obtain ⟨C, e, lo, hi, hx, hf, ht, hs2, hle2, hex, hr⟩ := hO
        have hx' : w.heap[p.blk]? = some (.cells C.toList.toArray e (lo, hi)) := by simpa using hx
        have run := run_storeCells P vs' 0 w a' C.toList e lo hi (by rw [hb]; exact hx') hs' (by simpa using hf) (by rw [ho, ← hv.1]; simp; omega) (allOne_VRs hv hle.2)
        refine ⟨_, run, ?_⟩
        rw [hb, ho, Nat.add_zero]
        exact R.setCells hg hp hv hle' hx'
    · cases h
end Go.AM
