/-
  The abstract machine, part 16: what is known of a heap: own objects and data; walking code under it.
-/
import Derived.Test.YtpfgpjopjadmiaaGreatDoorAM15
set_option linter.unusedVariables false
set_option linter.unusedSimpArgs false
noncomputable section
namespace Go.AM
open Go.RowKit

abbrev OL := List (Nat × AObj)

/-- S: the heap at the start; A: the blocks that hold data, which are as in H0; L: the own objects -/
structure HS (S H0 : AH) (A0 A : Nat → Prop) (L : OL) (H : AH) : Prop where
  kept : Kept S.nx S H
  base : ∀ j, A j → H.tr.get j = H0.tr.get j
  w0 : H0.w0 = H.w0
  sub : ∀ j, A j → A0 j ∨ S.nx ≤ j
  lt : ∀ j, A j → j < H.nx
  own : ∀ p ∈ L, H.tr.get p.1 = some p.2 ∧ S.nx ≤ p.1 ∧ p.1 < H.nx ∧ ¬ A p.1
  dist : L.Pairwise (fun p q => p.1 ≠ q.1)

/-- the data of (A, H0) are there in (A', H') -/
structure Gr (A : Nat → Prop) (H0 : AH) (A' : Nat → Prop) (H' : AH) : Prop where
  sub : ∀ j, A j → A' j
  get : ∀ j, A j → H'.tr.get j = H0.tr.get j
  w0 : H'.w0 = H0.w0
theorem Gr.refl (A : Nat → Prop) (H : AH) : Gr A H A H := ⟨fun _ h => h, fun _ _ => rfl, rfl⟩
theorem Gr.trans {A B C : Nat → Prop} {H K M : AH} (h : Gr A H B K) (k : Gr B K C M) : Gr A H C M := ⟨fun j a => k.sub j (h.sub j a), fun j a => (k.get j (h.sub j a)).trans (h.get j a), k.w0.trans h.w0⟩
theorem HS.gr {S H0 H : AH} {A0 A : Nat → Prop} {L : OL} (h : HS S H0 A0 A L H) : Gr A H0 A H := ⟨fun _ h => h, h.base, h.w0.symm⟩

section
variable {S H0 H H' : AH} {A0 A : Nat → Prop} {L L' : OL}
theorem HS.start (hA : ∀ j, A0 j → j < S.nx) : HS S S A0 A0 [] S := ⟨Kept.refl _ _, fun _ _ => rfl, rfl, fun _ h => .inl h, hA, (fun p hp => by cases hp), List.Pairwise.nil⟩
theorem HS.subl (h : HS S H0 A0 A L H) (hs : L'.Sublist L) : HS S H0 A0 A L' H := ⟨h.kept, h.base, h.w0, h.sub, h.lt, fun p hp => h.own p (hs.subset hp), h.dist.sublist hs⟩
/-- a heap in which nothing below its old end has turned -/
theorem HS.later (h : HS S H0 A0 A L H) (k : Kept H.nx H H') : HS S H0 A0 A L H' :=
  ⟨h.kept.trans (k.mono h.kept.nx), fun j hj => (k.get j (h.lt j hj)).trans (h.base j hj), h.w0.trans k.w0.symm, h.sub, fun j hj => Nat.lt_of_lt_of_le (h.lt j hj) k.nx,
    fun p hp => by obtain ⟨h1, h2, h3, h4⟩ := h.own p hp; exact ⟨(k.get _ h3).trans h1, h2, Nat.lt_of_lt_of_le h3 k.nx, h4⟩, h.dist⟩
theorem HS.push (h : HS S H0 A0 A L H) (o : AObj) : HS S H0 A0 A ((H.nx, o) :: L) (anew H o) := by
  have k := h.later (Kept.new H o (Nat.le_refl _))
  refine ⟨k.kept, k.base, k.w0, k.sub, k.lt, fun p hp => ?_, List.Pairwise.cons (fun q hq => ?_) h.dist⟩
  · rcases List.mem_cons.1 hp with rfl | hp
    · exact ⟨new_get H o, h.kept.nx, Nat.lt_succ_self _, fun hA => Nat.lt_irrefl _ (h.lt _ hA)⟩
    · exact k.own p hp
  · have := (h.own q hq).2.2.1
    simp only; omega

/-- L' is L with another object in place p -/
inductive Upd (N : Nat) (o o' : AObj) : OL → OL → Prop
  | zero {r : OL} : Upd N o o' ((N, o) :: r) ((N, o') :: r)
  | succ {x : Nat × AObj} {r r' : OL} (h : Upd N o o' r r') : Upd N o o' (x :: r) (x :: r')
theorem Upd.mem {N : Nat} {o o' : AObj} {L L' : OL} (h : Upd N o o' L L') : (N, o) ∈ L := by
  induction h with
  | zero => exact List.mem_cons_self ..
  | succ _ ih => exact List.mem_cons_of_mem _ ih
theorem Upd.keys {N : Nat} {o o' : AObj} {L L' : OL} (h : Upd N o o' L L') : L'.map (·.1) = L.map (·.1) := by
  induction h with
  | zero => rfl
  | succ _ ih => simp [ih]
theorem Upd.cases {N : Nat} {o o' : AObj} {L L' : OL} (h : Upd N o o' L L') (hd : L.Pairwise (fun p q => p.1 ≠ q.1)) : ∀ p ∈ L', p = (N, o') ∨ (p ∈ L ∧ p.1 ≠ N) := by
  induction h with
  | zero =>
    intro p hp
    rw [List.pairwise_cons] at hd
    rcases List.mem_cons.1 hp with rfl | hp
    · exact .inl rfl
    · exact .inr ⟨List.mem_cons_of_mem _ hp, fun e => hd.1 p hp e.symm⟩
  | @succ x r r' h ih =>
    intro p hp
    rw [List.pairwise_cons] at hd
    rcases List.mem_cons.1 hp with rfl | hp
    · exact .inr ⟨List.mem_cons_self .., fun e => hd.1 _ h.mem e⟩
    · rcases ih hd.2 p hp with e | ⟨e1, e2⟩
      · exact .inl e
      · exact .inr ⟨List.mem_cons_of_mem _ e1, e2⟩
theorem Upd.pairwise {N : Nat} {o o' : AObj} {L L' : OL} (h : Upd N o o' L L') (hd : L.Pairwise (fun p q => p.1 ≠ q.1)) : L'.Pairwise (fun p q => p.1 ≠ q.1) := by
  have e : (L.map (·.1)).Pairwise (fun a b => a ≠ b) := List.pairwise_map.2 hd
  rw [← h.keys] at e
  exact List.pairwise_map.1 e

theorem HS.set {N : Nat} {o o' : AObj} (h : HS S H0 A0 A L H) (hu : Upd N o o' L L') : HS S H0 A0 A L' { H with tr := H.tr.set N (some o') } := by
  obtain ⟨q1, q2, q3, q4⟩ := h.own _ hu.mem
  refine ⟨h.kept.trans (Kept.set H _ q2), fun j hj => ?_, h.w0, h.sub, h.lt, fun p hp => ?_, hu.pairwise h.dist⟩
  · simp only
    rw [Tr.get_set_ne _ _ (fun (e : j = N) => q4 (by rw [← e]; exact hj))]
    exact h.base j hj
  · rcases hu.cases h.dist p hp with rfl | ⟨e1, e2⟩
    · exact ⟨Tr.get_set_same .., q2, q3, q4⟩
    · obtain ⟨r1, r2, r3, r4⟩ := h.own p e1
      exact ⟨by simp only; rw [Tr.get_set_ne _ _ e2]; exact r1, r2, r3, r4⟩

/-- L' is L without (N, o) -/
inductive Rem (N : Nat) (o : AObj) : OL → OL → Prop
  | zero {r : OL} : Rem N o ((N, o) :: r) r
  | succ {x : Nat × AObj} {r r' : OL} (h : Rem N o r r') : Rem N o (x :: r) (x :: r')
theorem Rem.mem {N : Nat} {o : AObj} {L L' : OL} (h : Rem N o L L') : (N, o) ∈ L := by
  induction h with
  | zero => exact List.mem_cons_self ..
  | succ _ ih => exact List.mem_cons_of_mem _ ih
theorem Rem.sub {N : Nat} {o : AObj} {L L' : OL} (h : Rem N o L L') : L'.Sublist L := by
  induction h with
  | zero => exact List.sublist_cons_self ..
  | succ _ ih => exact ih.cons_cons _
theorem Rem.ne {N : Nat} {o : AObj} {L L' : OL} (h : Rem N o L L') (hd : L.Pairwise (fun p q => p.1 ≠ q.1)) : ∀ p ∈ L', p.1 ≠ N := by
  induction h with
  | zero => intro p hp e; rw [List.pairwise_cons] at hd; exact hd.1 p hp e.symm
  | @succ x r r' h ih =>
    intro p hp
    rw [List.pairwise_cons] at hd
    rcases List.mem_cons.1 hp with rfl | hp
    · exact fun e => hd.1 _ h.mem e
    · exact ih hd.2 p hp
/-- an own object that goes -/
theorem HS.kill {N : Nat} {o : AObj} (h : HS S H0 A0 A L H) (hu : Rem N o L L') : HS S H0 A0 A L' { H with tr := H.tr.set N none } := by
  obtain ⟨q1, q2, q3, q4⟩ := h.own _ hu.mem
  refine ⟨h.kept.trans (Kept.set H _ q2), fun j hj => ?_, h.w0, h.sub, h.lt, fun p hp => ?_, h.dist.sublist hu.sub⟩
  · simp only
    rw [Tr.get_set_ne _ _ (fun (e : j = N) => q4 (by rw [← e]; exact hj))]
    exact h.base j hj
  · obtain ⟨r1, r2, r3, r4⟩ := h.own p (hu.sub.subset hp)
    exact ⟨by simp only; rw [Tr.get_set_ne _ _ (hu.ne h.dist p hp)]; exact r1, r2, r3, r4⟩
/-- an own object that becomes data -/
theorem HS.freeze {N : Nat} {o : AObj} (h : HS S H0 A0 A L H) (hu : Rem N o L L') : HS S H A0 (fun j => A j ∨ j = N) L' H := by
  obtain ⟨q1, q2, q3, q4⟩ := h.own _ hu.mem
  refine ⟨h.kept, fun _ _ => rfl, rfl, fun j hj => ?_, fun j hj => ?_, fun p hp => ?_, h.dist.sublist hu.sub⟩
  · rcases hj with hj | rfl
    · exact h.sub j hj
    · exact .inr q2
  · rcases hj with hj | rfl
    · exact h.lt j hj
    · exact q3
  · obtain ⟨r1, r2, r3, r4⟩ := h.own p (hu.sub.subset hp)
    exact ⟨r1, r2, r3, fun hj => hj.elim r4 (hu.ne h.dist p hp)⟩
/-- new data behind a call -/
theorem HS.fresh (h : HS S H0 A0 A L H) (k : Kept H.nx H H') {A' : Nat → Prop} (h1 : ∀ j, A' j → A j ∨ (H.nx ≤ j ∧ j < H'.nx)) : HS S H' A0 A' L H' := by
  have q := h.later k
  refine ⟨q.kept, fun _ _ => rfl, rfl, fun j hj => ?_, fun j hj => ?_, fun p hp => ?_, q.dist⟩
  · rcases h1 j hj with hj | hj
    · exact h.sub j hj
    · have := h.kept.nx; exact .inr (by omega)
  · rcases h1 j hj with hj | hj
    · exact q.lt j hj
    · exact hj.2
  · obtain ⟨r1, r2, r3, r4⟩ := q.own p hp
    refine ⟨r1, r2, r3, fun hj => ?_⟩
    rcases h1 _ hj with hj | hj
    · exact r4 hj
    · have := (h.own p hp).2.2.1; omega
end

/-! ### operands -/
def opv (l : List (Nat × Value)) : Operand → Option Value
  | .tmp k => look k l
  | .const (.bool b) => some (.bool b)
  | .const (.int k n) => some (.int k n)
  | .const (.string s) => some (.string s)
  | .const (.pointer none) => some (.pointer none)
  | .const (.slice none l c) => some (.slice none l c)
  | .const (.map none) => some (.map none)
  | .const v => some (ext v)
  | .func g => some (.func (.func g) ⟨[]⟩ ⟨[]⟩)
  | _ => none
theorem opv_ok {n : Nat} {t : Tr Value} {l : List (Nat × Value)} {x : Operand} {v : Value} (h : opv l x = some v) : aval (fr n t l) x = v := by
  unfold opv at h
  split at h
  · rw [aval_tmp, h]
  all_goals first | (cases h; rfl) | (cases h; simp only [aval, ext]; done) | (cases h)

def opvs (l : List (Nat × Value)) : List Operand → Option (List Value)
  | [] => some []
  | x :: r => (match opv l x, opvs l r with
    | some v, some vs => some (v :: vs)
    | _, _ => none)
theorem opvs_ok {n : Nat} {t : Tr Value} {l : List (Nat × Value)} : ∀ {xs : List Operand} {vs : List Value}, opvs l xs = some vs → xs.map (aval (fr n t l)) = vs
  | [], vs, h => by simp [opvs] at h; subst h; rfl
  | x :: r, vs, h => by
    simp only [opvs] at h
    split at h
    · rename_i v us hv hus
      cases h
      rw [List.map_cons, opv_ok hv, opvs_ok hus]
    · cases h
/-- the operands' values, one by one -/
inductive Opvs (l : List (Nat × Value)) : List Operand → List Value → Prop
  | nil : Opvs l [] []
  | cons {x : Operand} {v : Value} {r : List Operand} {vs : List Value} (h : opv l x = some v) (k : Opvs l r vs) : Opvs l (x :: r) (v :: vs)
theorem Opvs.ok {n : Nat} {t : Tr Value} {l : List (Nat × Value)} {xs : List Operand} {vs : List Value} (h : Opvs l xs vs) : xs.map (aval (fr n t l)) = vs := by
  induction h with
  | nil => rfl
  | cons h k ih => rw [List.map_cons, opv_ok h, ih]
inductive Opps (l : List (Nat × Value)) : List (Nat × Operand) → List (Nat × Value) → Prop
  | nil : Opps l [] []
  | cons {i : Nat} {x : Operand} {v : Value} {r : List (Nat × Operand)} {vs : List (Nat × Value)} (h : opv l x = some v) (k : Opps l r vs) : Opps l ((i, x) :: r) ((i, v) :: vs)
theorem Opps.ok {n : Nat} {t : Tr Value} {l : List (Nat × Value)} {xs : List (Nat × Operand)} {vs : List (Nat × Value)} (h : Opps l xs vs) : xs.map (fun x => (x.1, aval (fr n t l) x.2)) = vs := by
  induction h with
  | nil => rfl
  | cons h k ih => rw [List.map_cons, opv_ok h, ih]

def gok (ops : Array Oper) (l : List (Nat × Value)) : Option (Nat × Bool) → Bool
  | none => true
  | some (j, want) => (match ops[j]? with
    | some oj => (match oj.dst with
      | some d => (match look d l with
        | some (.bool b) => b == want
        | _ => false)
      | none => false)
    | none => false)
def gsk (ops : Array Oper) (l : List (Nat × Value)) : Option (Nat × Bool) → Bool
  | none => false
  | some (j, want) => (match ops[j]? with
    | some oj => (match oj.dst with
      | some d => (match look d l with
        | some (.bool b) => !(b == want)
        | some (.tuple _) => true
        | _ => false)
      | none => false)
    | none => false)
theorem gok_wanted {ops : Array Oper} {n : Nat} {t : Tr Value} {l : List (Nat × Value)} {o : Oper} (h : gok ops l o.guard = true) : awanted ops (sval (fr n t l)) o = true := by
  unfold awanted
  unfold gok at h
  split at h
  · rename_i hg; rw [hg]
  · rename_i j want hg
    rw [hg]
    split at h
    · rename_i oj hj
      simp only [hj]
      split at h
      · rename_i d hd
        simp only [hd]
        split at h
        · rename_i b hl
          rw [sval_fr, hl]; exact h
        · cases h
      · cases h
    · cases h
theorem gsk_wanted {ops : Array Oper} {n : Nat} {t : Tr Value} {l : List (Nat × Value)} {o : Oper} (h : gsk ops l o.guard = true) : awanted ops (sval (fr n t l)) o = false := by
  unfold awanted
  unfold gsk at h
  split at h
  · cases h
  · rename_i j want hg
    rw [hg]
    split at h
    · rename_i oj hj
      simp only [hj]
      split at h
      · rename_i d hd
        simp only [hd]
        split at h
        · rename_i b hl
          rw [sval_fr, hl]; simpa using h
        · rename_i b hl
          rw [sval_fr, hl]
        · cases h
      · cases h
    · cases h

/-! ### code -/
section
variable {P : Program} {c x y : Code} {K : AQ} {f : Fr} {S H0 : AH} {A0 A : Nat → Prop} {L : OL} {n : Nat} {t : Tr Value} {l : List (Nat × Value)}

def SX (P : Program) (c : Code) (K : AQ) (f : Fr) (S : AH) (A0 : Nat → Prop) (H0 : AH) (A : Nat → Prop) (L : OL) : Prop := ∀ H, HS S H0 A0 A L H → XC P c K f H
def SK (K : AQ) (e : Exit) (f : Fr) (S : AH) (A0 : Nat → Prop) (H0 : AH) (A : Nat → Prop) (L : OL) : Prop := ∀ H, HS S H0 A0 A L H → K e f H

theorem sx_skip (h : SK K .normal f S A0 H0 A L) : SX P .skip K f S A0 H0 A L := fun H hH => XC.skip (h H hH)
theorem sx_label {i : Nat} (h : SK K .normal f S A0 H0 A L) : SX P (.label i) K f S A0 H0 A L := fun H hH => XC.label (h H hH)
theorem sx_ret (h : SK K .ret f S A0 H0 A L) : SX P .ret K f S A0 H0 A L := fun H hH => XC.ret (h H hH)
theorem sx_exit {i : Nat} (h : SK K (.exit i) f S A0 H0 A L) : SX P (.exit i) K f S A0 H0 A L := fun H hH => XC.exit (h H hH)
theorem sx_seq (h : SX P x (thenK P y K) f S A0 H0 A L) : SX P (.seq x y) K f S A0 H0 A L := fun H hH => XC.seq (h H hH)
theorem sx_block {i : Nat} (h : SX P c (blockK i K) f S A0 H0 A L) : SX P (.block i c) K f S A0 H0 A L := fun H hH => XC.block (h H hH)
theorem sx_true {o : Operand} (hc : opv l o = some (.bool true)) (h : SX P x K (fr n t l) S A0 H0 A L) : SX P (.cond o x y) K (fr n t l) S A0 H0 A L := fun H hH => XC.cond (b := true) (opv_ok hc) (h H hH)
theorem sx_false {o : Operand} (hc : opv l o = some (.bool false)) (h : SX P y K (fr n t l) S A0 H0 A L) : SX P (.cond o x y) K (fr n t l) S A0 H0 A L := fun H hH => XC.cond (b := false) (opv_ok hc) (h H hH)
theorem sx_cond {o : Operand} {b : Bool} (hc : opv l o = some (.bool b)) (h1 : b = true → SX P x K (fr n t l) S A0 H0 A L) (h2 : b = false → SX P y K (fr n t l) S A0 H0 A L) : SX P (.cond o x y) K (fr n t l) S A0 H0 A L := by
  cases b with
  | true => exact sx_true hc (h1 rfl)
  | false => exact sx_false hc (h2 rfl)

theorem sk_then (h : SX P y K f S A0 H0 A L) : SK (thenK P y K) .normal f S A0 H0 A L := fun H hH => .inl ⟨rfl, h H hH⟩
theorem sk_then_ret (h : SK K .ret f S A0 H0 A L) : SK (thenK P y K) .ret f S A0 H0 A L := fun H hH => .inr ⟨by simp, h H hH⟩
theorem sk_then_exit {j : Nat} (h : SK K (.exit j) f S A0 H0 A L) : SK (thenK P y K) (.exit j) f S A0 H0 A L := fun H hH => .inr ⟨by simp, h H hH⟩
theorem sk_block {i : Nat} (h : SK K .normal f S A0 H0 A L) : SK (blockK i K) .normal f S A0 H0 A L := h
theorem sk_block_ret {i : Nat} (h : SK K .ret f S A0 H0 A L) : SK (blockK i K) .ret f S A0 H0 A L := h
theorem sk_block_exit {i : Nat} (h : SK K .normal f S A0 H0 A L) : SK (blockK i K) (.exit i) f S A0 H0 A L := fun H hH => by simp only [blockK, if_true]; exact h H hH
theorem sk_block_exit_ne {i j : Nat} (hj : Nat.beq j i = false) (h : SK K (.exit j) f S A0 H0 A L) : SK (blockK i K) (.exit j) f S A0 H0 A L := fun H hH => by
  have : ¬ j = i := fun e => by rw [e] at hj; simp at hj
  simp only [blockK, this, if_false]; exact h H hH

/-- the slots that stay -/
inductive Picks (l : List (Nat × Value)) : List (Nat × Value) → Prop
  | nil : Picks l []
  | cons {k : Nat} {v : Value} {r : List (Nat × Value)} (h : look k l = some v) (p : Picks l r) : Picks l ((k, v) :: r)
theorem Picks.look {l l' : List (Nat × Value)} (h : Picks l l') (k : Nat) : AM.look k l' = none ∨ AM.look k l' = AM.look k l := by
  induction h with
  | nil => exact .inl rfl
  | @cons d v r h p ih =>
    simp only [AM.look]
    cases e : Nat.beq d k with
    | true =>
      have := Nat.eq_of_beq_eq_true e
      subst this
      right; rw [cond_true]; exact h.symm
    | false => rw [cond_false]; exact ih
theorem Picks.frame {l l' : List (Nat × Value)} (h : Picks l l') (n : Nat) (t : Tr Value) (k : Nat) : sval (fr n t l) k = sval (fr n (fr n t l).tr l') k := by
  rw [sval_fr n (fr n t l).tr l']
  rcases h.look k with e | e
  · rw [e]; rfl
  · rw [e, sval_fr]
    cases e2 : AM.look k l with
    | some v => rfl
    | none =>
      have := tv_fr n t k l
      rw [e2] at this
      exact this.symm

theorem XC.congr {f g : Fr} {H : AH} (hn : f.n = g.n) (hs : ∀ k, sval f k = sval g k) (h : XC P c K g H) : XC P c K f H := by
  obtain ⟨e, g', K', h1, h2, h3⟩ := h
  exact ⟨e, g', K', h1, h2, ACode.congr hn hs h3⟩

theorem sx_keep {l' : List (Nat × Value)} (hp : Picks l l') (h : ∀ t, SX P c K (fr n t l') S A0 H0 A L) : SX P c K (fr n t l) S A0 H0 A L := fun H hH =>
  XC.congr (by rw [fr_n, fr_n]) (hp.frame n t) (h _ H hH)
theorem sx_drop {L' : OL} (hs : L'.Sublist L) (h : SX P c K f S A0 H0 A L') : SX P c K f S A0 H0 A L := fun H hH => h H (hH.subl hs)
theorem sx_freeze {N : Nat} {o : AObj} {L' : OL} (hr : Rem N o L L') (h : ∀ H1 A1, Gr A H0 A1 H1 → A1 N → H1.tr.get N = some o → SX P c K f S A0 H1 A1 L') : SX P c K f S A0 H0 A L := fun H hH =>
  h H _ ⟨fun _ h => .inl h, hH.base, hH.w0.symm⟩ (.inr rfl) (hH.own _ hr.mem).1 H (hH.freeze hr)
theorem sk_freeze {e : Exit} {N : Nat} {o : AObj} {L' : OL} (hr : Rem N o L L') (h : ∀ H1 A1, Gr A H0 A1 H1 → A1 N → H1.tr.get N = some o → SK K e f S A0 H1 A1 L') : SK K e f S A0 H0 A L := fun H hH =>
  h H _ ⟨fun _ h => .inl h, hH.base, hH.w0.symm⟩ (.inr rfl) (hH.own _ hr.mem).1 H (hH.freeze hr)

/-! loops -/
def LI {σ : Type} (n : Nat) (live : σ → List (Nat × Value)) (S : AH) (A0 : Nat → Prop) (h0 : σ → AH) (AA : σ → Nat → Prop) (LL : σ → OL) (J : σ → Prop) (s : σ) (f : Fr) (H : AH) : Prop :=
  J s ∧ ∃ t, f.n = n ∧ (∀ k, sval f k = sval (fr n t (live s)) k) ∧ HS S (h0 s) A0 (AA s) (LL s) H
def loopK {σ : Type} (μ : σ → Nat) (I : σ → Fr → AH → Prop) (s : σ) (Q : AQ) : AQ := fun e f' H' => (e = .normal ∧ ∃ s', μ s' < μ s ∧ I s' f' H') ∨ (e ≠ .normal ∧ Q e f' H')
theorem sx_loop {σ : Type} (μ : σ → Nat) (live : σ → List (Nat × Value)) (h0 : σ → AH) (AA : σ → Nat → Prop) (LL : σ → OL) (J : σ → Prop)
    (s : σ) (hJ : J s) (hp : Picks l (live s)) (hh : h0 s = H0) (hA : AA s = A) (hL : (LL s).Sublist L)
    (round : ∀ s, J s → ∀ t, SX P c (loopK μ (LI n live S A0 h0 AA LL J) s K) (fr n t (live s)) S A0 (h0 s) (AA s) (LL s)) : SX P (.loop c) K (fr n t l) S A0 H0 A L := by
  subst hh; subst hA
  intro H hH
  refine XC.loop μ (LI n live S A0 h0 AA LL J) ?_ s ⟨hJ, (fr n t l).tr, fr_n .., hp.frame n t, hH.subl hL⟩
  rintro s f H ⟨hJ, t, hn, hf, hH⟩
  exact XC.congr (by rw [hn, fr_n]) hf (round s hJ t H hH)
theorem sk_round {σ : Type} {μ : σ → Nat} {live : σ → List (Nat × Value)} {h0 : σ → AH} {AA : σ → Nat → Prop} {LL : σ → OL} {J : σ → Prop} {s : σ} (s' : σ) (hlt : μ s' < μ s) (hJ : J s') (hp : Picks l (live s')) (hh : h0 s' = H0) (hA : AA s' = A) (hL : (LL s').Sublist L) :
    SK (loopK μ (LI n live S A0 h0 AA LL J) s K) .normal (fr n t l) S A0 H0 A L := by
  subst hh; subst hA
  intro H hH
  exact .inl ⟨rfl, s', hlt, hJ, (fr n t l).tr, fr_n .., hp.frame n t, hH.subl hL⟩
theorem sk_loop_ret {σ : Type} {μ : σ → Nat} {I : σ → Fr → AH → Prop} {s : σ} (h : SK K .ret f S A0 H0 A L) : SK (loopK μ I s K) .ret f S A0 H0 A L := fun H hH => .inr ⟨by simp, h H hH⟩
theorem sk_loop_exit {σ : Type} {μ : σ → Nat} {I : σ → Fr → AH → Prop} {s : σ} {j : Nat} (h : SK K (.exit j) f S A0 H0 A L) : SK (loopK μ I s K) (.exit j) f S A0 H0 A L := fun H hH => .inr ⟨by simp, h H hH⟩
end

/-! ### regions -/
structure RG where
  D : Bool
  ops : Array Oper
  ms : List Nat
  S : AH
  A0 : Nat → Prop
  Hw : AH
  Aw : Nat → Prop
  Lw : OL

def DSub (G : RG) (H0 : AH) (A : Nat → Prop) (L : OL) : Prop :=
  G.D = true → (∀ p ∈ G.Lw, p ∈ L) ∧ G.Lw.Pairwise (fun p q => p.1 ≠ q.1) ∧ (∀ j, G.Aw j → A j ∧ H0.tr.get j = G.Hw.tr.get j) ∧ G.Hw.w0 = H0.w0

theorem HS.weak {G : RG} {H0 H : AH} {A : Nat → Prop} {L : OL} (h : HS G.S H0 G.A0 A L H) (hd : DSub G H0 A L) (hD : G.D = true) : HS G.S G.Hw G.A0 G.Aw G.Lw H := by
  obtain ⟨d1, d2, d3, d4⟩ := hd hD
  exact ⟨h.kept, fun j hj => (h.base j (d3 j hj).1).trans (d3 j hj).2, d4.trans h.w0, fun j hj => h.sub j (d3 j hj).1, fun j hj => h.lt j (d3 j hj).1,
    fun p hp => by obtain ⟨h1, h2, h3, h4⟩ := h.own p (d1 p hp); exact ⟨h1, h2, h3, fun hj => h4 (d3 _ hj).1⟩, d2⟩

section
variable {P : Program} (E : Env P)

def SO (G : RG) (i : Nat) (l : List Oper) (Q : Fr → AH → Prop) (f : Fr) (H0 : AH) (A : Nat → Prop) (L : OL) : Prop :=
  DSub G H0 A L → ∀ H, HS G.S H0 G.A0 A L H → ∃ Ls g K, RunD E G.D G.ops G.ms (HS G.S G.Hw G.A0 G.Aw G.Lw) i l f H Ls g K ∧ Q g K

variable {E} {G : RG} {i n : Nat} {r : List Oper} {o : Oper} {Q : Fr → AH → Prop} {t : Tr Value} {l : List (Nat × Value)} {S H0 : AH} {A0 A : Nat → Prop} {L L' : OL} {v : Value} {d : Nat} {K : AQ}

theorem sx_region {ops : Array Oper} {id : Nat} {f : Fr} (h : SO E ⟨false, ops, [], S, A0, H0, A, L⟩ 0 ops.toList (fun f H => K .normal f H) f H0 A L) : SX P (.region id ops false) K f S A0 H0 A L := by
  intro H hH
  obtain ⟨Ls, g, K', hr, hq⟩ := h (fun hD => by cases hD) H hH
  exact ⟨.normal, g, K', hq, hr.region id⟩
theorem sx_draw {ops : Array Oper} {id : Nat} {f : Fr} (hm : P.follows .mixedOrders = true) (ms : List Nat) (Lw : OL) (hLw : Lw.Sublist L) (hord : orderOk ops (bef ops) = true) (hpairs : pairsOk (bef ops) ms = true) (hsorted : ms.Pairwise (· < ·))
    (h : SO E ⟨true, ops, ms, S, A0, H0, A, Lw⟩ 0 ops.toList (fun f H => K .normal f H) f H0 A L) : SX P (.region id ops true) K f S A0 H0 A L := by
  intro H hH
  have hW : HS S H0 A0 A Lw H := hH.subl hLw
  obtain ⟨Ls, g, K', hr, hq⟩ := h (fun _ => ⟨fun p hp => hLw.subset hp, hW.dist, fun j hj => ⟨hj, rfl⟩, rfl⟩) H hH
  exact ⟨.normal, g, K', hq, hr.draw hm hord hpairs hsorted hW id⟩

theorem so_nil {D : Bool} {ops : Array Oper} {ms : List Nat} {Hw : AH} {Aw : Nat → Prop} {Lw : OL} {f : Fr} (h : SK K .normal f S A0 H0 A L) : SO E ⟨D, ops, ms, S, A0, Hw, Aw, Lw⟩ i [] (fun f H => K .normal f H) f H0 A L := fun _ H hH => ⟨[], f, H, .nil, h H hH⟩
theorem so_then {D : Bool} {ops : Array Oper} {ms : List Nat} {Hw : AH} {Aw : Nat → Prop} {Lw : OL} {f : Fr} {y : Code} (h : SX P y K f S A0 H0 A L) : SO E ⟨D, ops, ms, S, A0, Hw, Aw, Lw⟩ i [] (fun f H => thenK P y K .normal f H) f H0 A L := so_nil (K := thenK P y K) (sk_then h)

theorem so_skip (hw : gsk G.ops l o.guard = true) (hd : o.dst = some d) (hdn : Nat.ble (d + 1) n = true) (h : SO E G (i + 1) r Q (fr n t ((d, undef) :: l)) H0 A L) : SO E G i (o :: r) Q (fr n t l) H0 A L := by
  intro hD H hH
  obtain ⟨Ls, g, K, hr, hq⟩ := h hD H hH
  exact ⟨_, g, K, .cons (.inl ⟨gsk_wanted hw, rfl, rfl, rfl⟩) (by rw [hd]; exact fr_put (Nat.le_of_ble_eq_true hdn) t l undef) hr, hq⟩
theorem so_skip0 (hw : gsk G.ops l o.guard = true) (hd : o.dst = none) (h : SO E G (i + 1) r Q (fr n t l) H0 A L) : SO E G i (o :: r) Q (fr n t l) H0 A L := by
  intro hD H hH
  obtain ⟨Ls, g, K, hr, hq⟩ := h hD H hH
  exact ⟨_, g, K, .cons (.inl ⟨gsk_wanted hw, rfl, rfl, rfl⟩) (by rw [hd]; rfl) hr, hq⟩

/-- an operation whose value does not hang on the heap -/
theorem pure_quiet {op : Op} (h : isPure E op = true) : isQuiet E op = true := by
  cases op <;> first | rfl | exact h | (simp only [isPure] at h; cases h; done) | skip
  rename_i c
  simp only [isPure] at h
  simp only [isQuiet]
  split at h
  · rename_i hc; rw [hc]
  · rename_i hc; rw [hc]
  · rename_i hc; rw [hc]
  · cases h
theorem so_pure (hw : gok G.ops l o.guard = true) (hd : o.dst = some d) (hdn : Nat.ble (d + 1) n = true) (hp : isPure E o.op = true) (hop : ∀ H, aop E (aval (fr n t l)) o.op H = some (v, H)) (h : SO E G (i + 1) r Q (fr n t ((d, v) :: l)) H0 A L) : SO E G i (o :: r) Q (fr n t l) H0 A L := by
  intro hD H hH
  obtain ⟨Ls, g, K, hr, hq⟩ := h hD H hH
  exact ⟨_, g, K, .cons (.inr (.inl ⟨gok_wanted hw, rfl, rfl, ⟨pure_quiet hp, hop H⟩, fun _ => .inl hp⟩)) (by rw [hd]; exact fr_put (Nat.le_of_ble_eq_true hdn) t l v) hr, hq⟩
def qH (G : RG) (H0 : AH) : AH := bif G.D then G.Hw else H0
def qA (G : RG) (A : Nat → Prop) : Nat → Prop := bif G.D then G.Aw else A
def qL (G : RG) (L : OL) : OL := bif G.D then G.Lw else L
theorem HS.q (hD : DSub G H0 A L) {H : AH} (hH : HS G.S H0 G.A0 A L H) : HS G.S (qH G H0) G.A0 (qA G A) (qL G L) H := by
  unfold qH qA qL
  cases e : G.D with
  | false => exact hH
  | true => exact hH.weak hD e
/-- a reading operation; in a drawn region it must not matter when -/
theorem so_quiet (hqt : isQuiet E o.op = true) (hw : gok G.ops l o.guard = true) (hd : o.dst = some d) (hdn : Nat.ble (d + 1) n = true) (hop : ∀ H, HS G.S (qH G H0) G.A0 (qA G A) (qL G L) H → aop E (aval (fr n t l)) o.op H = some (v, H)) (h : SO E G (i + 1) r Q (fr n t ((d, v) :: l)) H0 A L) : SO E G i (o :: r) Q (fr n t l) H0 A L := by
  intro hD H hH
  obtain ⟨Ls, g, K, hr, hq⟩ := h hD H hH
  refine ⟨_, g, K, .cons (.inr (.inl ⟨gok_wanted hw, rfl, rfl, ⟨hqt, hop H (hH.q hD)⟩, fun hDt => .inr (.inr fun H' hH' => hop H' ?_)⟩)) (by rw [hd]; exact fr_put (Nat.le_of_ble_eq_true hdn) t l v) hr, hq⟩
  unfold qH qA qL
  rw [hDt]; exact hH'
/-- a reading operation that is ordered against all that may turn the heap -/
theorem so_ordered (hqt : isQuiet E o.op = true) (hw : gok G.ops l o.guard = true) (hd : o.dst = some d) (hdn : Nat.ble (d + 1) n = true) (ho : ordAll (bef G.ops) G.ms i = true) (hop : ∀ H, HS G.S H0 G.A0 A L H → aop E (aval (fr n t l)) o.op H = some (v, H)) (h : SO E G (i + 1) r Q (fr n t ((d, v) :: l)) H0 A L) : SO E G i (o :: r) Q (fr n t l) H0 A L := by
  intro hD H hH
  obtain ⟨Ls, g, K, hr, hq⟩ := h hD H hH
  exact ⟨_, g, K, .cons (.inr (.inl ⟨gok_wanted hw, rfl, rfl, ⟨hqt, hop H hH⟩, fun hDt => .inr (.inl ho)⟩)) (by rw [hd]; exact fr_put (Nat.le_of_ble_eq_true hdn) t l v) hr, hq⟩

/-- a main operation, most generally -/
theorem so_any (hw : gok G.ops l o.guard = true) (hd : o.dst = some d) (hdn : Nat.ble (d + 1) n = true) (hm : G.D = true → i ∈ G.ms)
    (h : DSub G H0 A L → ∀ H, HS G.S H0 G.A0 A L H → ∃ v H' H1 A1 L1, (aop E (aval (fr n t l)) o.op H = some (v, H') ∨ (H'.w0 = H.w0 ∧ ∃ g args, acallee E (aval (fr n t l)) o.op = some (g, args) ∧ ACalls P g args H fun u K => u = v ∧ K = H')) ∧
      HS G.S H1 G.A0 A1 L1 H' ∧ DSub G H1 A1 L1 ∧ SO E G (i + 1) r Q (fr n t ((d, v) :: l)) H1 A1 L1) : SO E G i (o :: r) Q (fr n t l) H0 A L := by
  intro hD H hH
  obtain ⟨v, H', H1, A1, L1, hop, hS, hD1, hk⟩ := h hD H hH
  obtain ⟨Ls, g, K, hr, hq⟩ := hk hD1 H' hS
  have hp : (fr n t l).put o.dst v = some (fr n t ((d, v) :: l)) := by rw [hd]; exact fr_put (Nat.le_of_ble_eq_true hdn) t l v
  rcases hop with hop | ⟨hw0, gg, args, hc, ha⟩
  · exact ⟨_, g, K, .cons (.inr (.inr (.inl ⟨gok_wanted hw, rfl, fun hDt => ⟨hm hDt, hS.weak hD1 hDt⟩, hop⟩))) hp hr, hq⟩
  · exact ⟨_, g, K, .cons (.inr (.inr (.inr ⟨gok_wanted hw, rfl, fun hDt => ⟨hm hDt, hS.weak hD1 hDt⟩, hw0, gg, args, hc, ha⟩))) hp hr, hq⟩
theorem so_any0 (hw : gok G.ops l o.guard = true) (hd : o.dst = none) (hm : G.D = true → i ∈ G.ms)
    (h : DSub G H0 A L → ∀ H, HS G.S H0 G.A0 A L H → ∃ v H' H1 A1 L1, (aop E (aval (fr n t l)) o.op H = some (v, H') ∨ (H'.w0 = H.w0 ∧ ∃ g args, acallee E (aval (fr n t l)) o.op = some (g, args) ∧ ACalls P g args H fun u K => u = v ∧ K = H')) ∧
      HS G.S H1 G.A0 A1 L1 H' ∧ DSub G H1 A1 L1 ∧ SO E G (i + 1) r Q (fr n t l) H1 A1 L1) : SO E G i (o :: r) Q (fr n t l) H0 A L := by
  intro hD H hH
  obtain ⟨v, H', H1, A1, L1, hop, hS, hD1, hk⟩ := h hD H hH
  obtain ⟨Ls, g, K, hr, hq⟩ := hk hD1 H' hS
  have hp : (fr n t l).put o.dst v = some (fr n t l) := by rw [hd]; rfl
  rcases hop with hop | ⟨hw0, gg, args, hc, ha⟩
  · exact ⟨_, g, K, .cons (.inr (.inr (.inl ⟨gok_wanted hw, rfl, fun hDt => ⟨hm hDt, hS.weak hD1 hDt⟩, hop⟩))) hp hr, hq⟩
  · exact ⟨_, g, K, .cons (.inr (.inr (.inr ⟨gok_wanted hw, rfl, fun hDt => ⟨hm hDt, hS.weak hD1 hDt⟩, hw0, gg, args, hc, ha⟩))) hp hr, hq⟩

theorem DSub.push (h : DSub G H0 A L) (x : Nat × AObj) : DSub G H0 A (x :: L) := fun hD => by
  obtain ⟨h1, h2, h3, h4⟩ := h hD
  exact ⟨fun p hp => List.mem_cons_of_mem _ (h1 p hp), h2, h3, h4⟩
theorem DSub.fresh {H H' : AH} {A' : Nat → Prop} (h : DSub G H0 A L) (g : Gr A H0 A' H') : DSub G H' A' L := fun hD => by
  obtain ⟨h1, h2, h3, h4⟩ := h hD
  exact ⟨h1, h2, fun j hj => ⟨g.sub j (h3 j hj).1, (g.get j (h3 j hj).1).trans (h3 j hj).2⟩, h4.trans g.w0.symm⟩
theorem DSub.list {L1 : OL} (h : DSub G H0 A L) (hs : G.D = true → G.Lw.Sublist L1) : DSub G H0 A L1 := fun hD => by
  obtain ⟨h1, h2, h3, h4⟩ := h hD
  exact ⟨fun p hp => (hs hD).subset hp, h2, h3, h4⟩
end
end Go.AM
