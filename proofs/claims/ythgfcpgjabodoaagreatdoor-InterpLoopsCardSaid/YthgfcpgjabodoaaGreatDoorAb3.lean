/-
  An abstract machine that runs a program of the given form, and its soundness, part 3.
-/
import Derived.Test.YthgfcpgjabodoaaGreatDoorAb2
import GoSem.ClaimJoined
import Derived.Lib.SlicesCompact
set_option linter.unusedVariables false
set_option linter.unusedSimpArgs false
set_option linter.unusedSectionVars false
noncomputable section
namespace Go.AM
open Go.RowKit
variable [σ : Sg]
abbrev OL := List (Nat × AObj)
structure HS (S H0 : AH) (A0 A : Nat → Prop) (L : OL) (H : AH) : Prop where
 kept : Kept S.nx S H
 base : ∀ j, A j → H.tr.get j = H0.tr.get j
 w0 : H0.w0 = H.w0
 sub : ∀ j, A j → A0 j ∨ S.nx ≤ j
 lt : ∀ j, A j → j < H.nx
 own : ∀ p ∈ L, H.tr.get p.1 = some p.2 ∧ S.nx ≤ p.1 ∧ p.1 < H.nx ∧ ¬ A p.1
 dist : L.Pairwise (fun p q => p.1 ≠ q.1)
structure Gr (A : Nat → Prop) (H0 : AH) (A' : Nat → Prop) (H' : AH) : Prop where
 sub : ∀ j, A j → A' j
 get : ∀ j, A j → H'.tr.get j = H0.tr.get j
 w0 : H'.w0 = H0.w0
theorem Gr.refl (A : Nat → Prop) (H : AH) : Gr A H A H := ⟨fun _ h => h, fun _ _ => rfl, rfl⟩
theorem Gr.trans {A B C : Nat → Prop} {H K M : AH} (h : Gr A H B K) (k : Gr B K C M) : Gr A H C M := ⟨fun j a => k.sub j (h.sub j a), fun j a => (k.get j (h.sub j a)).trans (h.get j a), k.w0.trans h.w0⟩
theorem HS.gr {S H0 H : AH} {A0 A : Nat → Prop} {L : OL} (h : HS S H0 A0 A L H) : Gr A H0 A H := ⟨fun _ h => h, h.base, h.w0.symm⟩
section
variable {S H0 H H' : AH} {A0 A : Nat → Prop} {L L' : OL}
theorem HS.start (hA : ∀ j, A0 j → j < S.nx) : HS S S A0 A0 [] S := ⟨Kept.refl _ _, fun _ _ => rfl, rfl, fun _ h => .inl h, hA, (fun p hp => by cases hp), List.Pairwise.nil⟩
theorem HS.subl (h : HS S H0 A0 A L H) (hs : L'.Sublist L) : HS S H0 A0 A L' H := ⟨h.kept, h.base, h.w0, h.sub, h.lt, fun p hp => h.own p (hs.subset hp), h.dist.sublist hs⟩
theorem HS.later (h : HS S H0 A0 A L H) (k : Kept H.nx H H') : HS S H0 A0 A L H' :=
 ⟨h.kept.trans (k.mono h.kept.nx), fun j hj => (k.get j (h.lt j hj)).trans (h.base j hj), h.w0.trans k.w0.symm, h.sub, fun j hj => Nat.lt_of_lt_of_le (h.lt j hj) k.nx,
  fun p hp => by obtain ⟨h1, h2, h3, h4⟩ := h.own p hp; exact ⟨(k.get _ h3).trans h1, h2, Nat.lt_of_lt_of_le h3 k.nx, h4⟩, h.dist⟩
theorem HS.push (h : HS S H0 A0 A L H) (o : AObj) : HS S H0 A0 A ((H.nx, o) :: L) (fT H o) := by
 have k := h.later (Kept.new H o (Nat.le_refl _))
 refine ⟨k.kept, k.base, k.w0, k.sub, k.lt, fun p hp => ?_, List.Pairwise.cons (fun q hq => ?_) h.dist⟩
 ·rcases List.mem_cons.1 hp with rfl | hp
  ·exact ⟨zM H o, h.kept.nx, Nat.lt_succ_self _, fun hA => Nat.lt_irrefl _ (h.lt _ hA)⟩
  ·exact k.own p hp
 ·have := (h.own q hq).2.2.1
  simp only; omega
inductive Upd (N : Nat) (o o' : AObj) : OL → OL → Prop
 | zero {r : OL} : Upd N o o' ((N, o) :: r) ((N, o') :: r)
 | succ {x : Nat × AObj} {r r' : OL} (h : Upd N o o' r r') : Upd N o o' (x :: r) (x :: r')
theorem Upd.mem {N : Nat} {o o' : AObj} {L L' : OL} (h : Upd N o o' L L') : (N, o) ∈ L := by
 induction h with
 | zero => exact List.mem_cons_self ..
 | succ _ ih => exact List.mem_cons_of_mem _ ih
theorem Upd.keys {N : Nat} {o o' : AObj} {L L' : OL} (h : Upd N o o' L L') : L'.map (·.1) = L.map (·.1) := by
 induction h with
 | zero => rfl
 | succ _ ih => simp [ih]
theorem Upd.cases {N : Nat} {o o' : AObj} {L L' : OL} (h : Upd N o o' L L') (hd : L.Pairwise (fun p q => p.1 ≠ q.1)) : ∀ p ∈ L', p = (N, o') ∨ (p ∈ L ∧ p.1 ≠ N) := by
 induction h with
 | zero =>
  intro p hp
  rw [List.pairwise_cons] at hd
  rcases List.mem_cons.1 hp with rfl | hp
  ·exact .inl rfl
  ·exact .inr ⟨List.mem_cons_of_mem _ hp, fun e => hd.1 p hp e.symm⟩
 | @succ x r r' h ih =>
  intro p hp
  rw [List.pairwise_cons] at hd
  rcases List.mem_cons.1 hp with rfl | hp
  ·exact .inr ⟨List.mem_cons_self .., fun e => hd.1 _ h.mem e⟩
  ·rcases ih hd.2 p hp with e | ⟨e1, e2⟩
   ·exact .inl e
   ·exact .inr ⟨List.mem_cons_of_mem _ e1, e2⟩
theorem Upd.pairwise {N : Nat} {o o' : AObj} {L L' : OL} (h : Upd N o o' L L') (hd : L.Pairwise (fun p q => p.1 ≠ q.1)) : L'.Pairwise (fun p q => p.1 ≠ q.1) := by
 have e : (L.map (·.1)).Pairwise (fun a b => a ≠ b) := List.pairwise_map.2 hd
 rw [← h.keys] at e
 exact List.pairwise_map.1 e
theorem HS.set {N : Nat} {o o' : AObj} (h : HS S H0 A0 A L H) (hu : Upd N o o' L L') : HS S H0 A0 A L' { H with tr := H.tr.set N (some o') } := by
 obtain ⟨q1, q2, q3, q4⟩ := h.own _ hu.mem
 refine ⟨h.kept.trans (Kept.set H _ q2), fun j hj => ?_, h.w0, h.sub, h.lt, fun p hp => ?_, hu.pairwise h.dist⟩
 ·simp only
  rw [Tr.get_set_ne _ _ (fun (e : j = N) => q4 (by rw [← e]; exact hj))]
  exact h.base j hj
 ·rcases hu.cases h.dist p hp with rfl | ⟨e1, e2⟩
  ·exact ⟨Tr.get_set_same .., q2, q3, q4⟩
  ·obtain ⟨r1, r2, r3, r4⟩ := h.own p e1
   exact ⟨by simp only; rw [Tr.get_set_ne _ _ e2]; exact r1, r2, r3, r4⟩
inductive Rem (N : Nat) (o : AObj) : OL → OL → Prop
 | zero {r : OL} : Rem N o ((N, o) :: r) r
 | succ {x : Nat × AObj} {r r' : OL} (h : Rem N o r r') : Rem N o (x :: r) (x :: r')
theorem Rem.mem {N : Nat} {o : AObj} {L L' : OL} (h : Rem N o L L') : (N, o) ∈ L := by
 induction h with
 | zero => exact List.mem_cons_self ..
 | succ _ ih => exact List.mem_cons_of_mem _ ih
theorem Rem.sub {N : Nat} {o : AObj} {L L' : OL} (h : Rem N o L L') : L'.Sublist L := by
 induction h with
 | zero => exact List.sublist_cons_self ..
 | succ _ ih => exact ih.cons_cons _
theorem Rem.ne {N : Nat} {o : AObj} {L L' : OL} (h : Rem N o L L') (hd : L.Pairwise (fun p q => p.1 ≠ q.1)) : ∀ p ∈ L', p.1 ≠ N := by
 induction h with
 | zero => intro p hp e; rw [List.pairwise_cons] at hd; exact hd.1 p hp e.symm
 | @succ x r r' h ih =>
  intro p hp
  rw [List.pairwise_cons] at hd
  rcases List.mem_cons.1 hp with rfl | hp
  ·exact fun e => hd.1 _ h.mem e
  ·exact ih hd.2 p hp
theorem HS.kill {N : Nat} {o : AObj} (h : HS S H0 A0 A L H) (hu : Rem N o L L') : HS S H0 A0 A L' { H with tr := H.tr.set N none } := by
 obtain ⟨q1, q2, q3, q4⟩ := h.own _ hu.mem
 refine ⟨h.kept.trans (Kept.set H _ q2), fun j hj => ?_, h.w0, h.sub, h.lt, fun p hp => ?_, h.dist.sublist hu.sub⟩
 ·simp only
  rw [Tr.get_set_ne _ _ (fun (e : j = N) => q4 (by rw [← e]; exact hj))]
  exact h.base j hj
 ·obtain ⟨r1, r2, r3, r4⟩ := h.own p (hu.sub.subset hp)
  exact ⟨by simp only; rw [Tr.get_set_ne _ _ (hu.ne h.dist p hp)]; exact r1, r2, r3, r4⟩
theorem HS.freeze {N : Nat} {o : AObj} (h : HS S H0 A0 A L H) (hu : Rem N o L L') : HS S H A0 (fun j => A j ∨ j = N) L' H := by
 obtain ⟨q1, q2, q3, q4⟩ := h.own _ hu.mem
 refine ⟨h.kept, fun _ _ => rfl, rfl, fun j hj => ?_, fun j hj => ?_, fun p hp => ?_, h.dist.sublist hu.sub⟩
 ·rcases hj with hj | rfl
  ·exact h.sub j hj
  ·exact .inr q2
 ·rcases hj with hj | rfl
  ·exact h.lt j hj
  ·exact q3
 ·obtain ⟨r1, r2, r3, r4⟩ := h.own p (hu.sub.subset hp)
  exact ⟨r1, r2, r3, fun hj => hj.elim r4 (hu.ne h.dist p hp)⟩
end
def opv (l : List (Nat × Value)) : Operand → Option Value
 | .tmp k => look k l
 | .const (.bool b) => some (.bool b)
 | .const (.int k n) => some (.int k n)
 | .const (.string s) => some (.string s)
 | .const (.pointer none) => some (.pointer none)
 | .const (.slice none l c) => some (.slice none l c)
 | .const (.map none) => some (.map none)
 | .const v => some (ext v)
 | .func g => some (.func (.func g) ⟨[]⟩ ⟨[]⟩)
 | _ => none
theorem bF {n : Nat} {t : Tr Value} {l : List (Nat × Value)} {x : Operand} {v : Value} (h : opv l x = some v) : bS (fr n t l) x = v := by
 unfold opv at h
 split at h
 ·rw [wY, h]
 all_goals first | (cases h; rfl) | (cases h; simp only [bS, ext]; done) | (cases h)
def opvs (l : List (Nat × Value)) : List Operand → Option (List Value)
 | [] => some []
 | x :: r => (match opv l x, opvs l r with
  | some v, some vs => some (v :: vs)
  | _, _ => none)
inductive Opvs (l : List (Nat × Value)) : List Operand → List Value → Prop
 | nil : Opvs l [] []
 | cons {x : Operand} {v : Value} {r : List Operand} {vs : List Value} (h : opv l x = some v) (k : Opvs l r vs) : Opvs l (x :: r) (v :: vs)
theorem Opvs.ok {n : Nat} {t : Tr Value} {l : List (Nat × Value)} {xs : List Operand} {vs : List Value} (h : Opvs l xs vs) : xs.map (bS (fr n t l)) = vs := by
 induction h with
 | nil => rfl
 | cons h k ih => rw [List.map_cons, bF h, ih]
inductive Opps (l : List (Nat × Value)) : List (Nat × Operand) → List (Nat × Value) → Prop
 | nil : Opps l [] []
 | cons {i : Nat} {x : Operand} {v : Value} {r : List (Nat × Operand)} {vs : List (Nat × Value)} (h : opv l x = some v) (k : Opps l r vs) : Opps l ((i, x) :: r) ((i, v) :: vs)
theorem Opps.ok {n : Nat} {t : Tr Value} {l : List (Nat × Value)} {xs : List (Nat × Operand)} {vs : List (Nat × Value)} (h : Opps l xs vs) : xs.map (fun x => (x.1, bS (fr n t l) x.2)) = vs := by
 induction h with
 | nil => rfl
 | cons h k ih => rw [List.map_cons, bF h, ih]
def gok (ops : Array Oper) (l : List (Nat × Value)) : Option (Nat × Bool) → Bool
 | none => true
 | some (j, want) => (match ops[j]? with
  | some oj => (match oj.dst with
   | some d => (match look d l with
    | some (.bool b) => b == want
    | _ => false)
   | none => false)
  | none => false)
def gsk (ops : Array Oper) (l : List (Nat × Value)) : Option (Nat × Bool) → Bool
 | none => false
 | some (j, want) => (match ops[j]? with
  | some oj => (match oj.dst with
   | some d => (match look d l with
    | some (.bool b) => !(b == want)
    | some (.tuple _) => true
    | _ => false)
   | none => false)
  | none => false)
theorem iR {ops : Array Oper} {n : Nat} {t : Tr Value} {l : List (Nat × Value)} {o : Oper} (h : gok ops l o.guard = true) : bZ ops (dA (fr n t l)) o = true := by
 unfold bZ
 unfold gok at h
 split at h
 ·rename_i hg; first | rfl | rw [hg]
 ·rename_i j want hg
  try rw [hg]
  split at h
  ·rename_i oj hj
   try simp only [hj]
   split at h
   ·rename_i d hd
    try simp only [hd]
    split at h
    ·rename_i b hl
     rw [qW, hl]; exact h
    ·cases h
   ·cases h
  ·cases h
theorem aCr {ops : Array Oper} {n : Nat} {t : Tr Value} {l : List (Nat × Value)} {o : Oper} (h : gsk ops l o.guard = true) : bZ ops (dA (fr n t l)) o = false := by
 unfold bZ
 unfold gsk at h
 split at h
 ·cases h
 ·rename_i j want hg
  try rw [hg]
  split at h
  ·rename_i oj hj
   try simp only [hj]
   split at h
   ·rename_i d hd
    try simp only [hd]
    split at h
    ·rename_i b hl
     rw [qW, hl]; simpa using h
    ·rename_i b hl
     rw [qW, hl]
    ·cases h
   ·cases h
  ·cases h
section
variable {P : Program} {c x y : Code} {K : AQ} {f : Fr} {S H0 : AH} {A0 A : Nat → Prop} {L : OL} {n : Nat} {t : Tr Value} {l : List (Nat × Value)}
def SX (P : Program) (c : Code) (K : AQ) (f : Fr) (S : AH) (A0 : Nat → Prop) (H0 : AH) (A : Nat → Prop) (L : OL) : Prop := ∀ H, HS S H0 A0 A L H → XC P c K f H
def SK (K : AQ) (e : Exit) (f : Fr) (S : AH) (A0 : Nat → Prop) (H0 : AH) (A : Nat → Prop) (L : OL) : Prop := ∀ H, HS S H0 A0 A L H → K e f H
theorem aX (h : SK K .normal f S A0 H0 A L) : SX P .skip K f S A0 H0 A L := fun H hH => XC.skip (h H hH)
theorem cI (h : SK K .ret f S A0 H0 A L) : SX P .ret K f S A0 H0 A L := fun H hH => XC.ret (h H hH)
theorem kG {i : Nat} (h : SK K (.exit i) f S A0 H0 A L) : SX P (.exit i) K f S A0 H0 A L := fun H hH => XC.exit (h H hH)
theorem aE (h : SX P x (vH P y K) f S A0 H0 A L) : SX P (.seq x y) K f S A0 H0 A L := fun H hH => XC.seq (h H hH)
theorem bE {i : Nat} (h : SX P c (oZ i K) f S A0 H0 A L) : SX P (.block i c) K f S A0 H0 A L := fun H hH => XC.block (h H hH)
theorem bX {o : Operand} (hc : opv l o = some (.bool true)) (h : SX P x K (fr n t l) S A0 H0 A L) : SX P (.cond o x y) K (fr n t l) S A0 H0 A L := fun H hH => XC.cond (b := true) (bF hc) (h H hH)
theorem aM {o : Operand} (hc : opv l o = some (.bool false)) (h : SX P y K (fr n t l) S A0 H0 A L) : SX P (.cond o x y) K (fr n t l) S A0 H0 A L := fun H hH => XC.cond (b := false) (bF hc) (h H hH)
theorem aQ (h : SX P y K f S A0 H0 A L) : SK (vH P y K) .normal f S A0 H0 A L := fun H hH => .inl ⟨rfl, h H hH⟩
theorem bT (h : SK K .ret f S A0 H0 A L) : SK (vH P y K) .ret f S A0 H0 A L := fun H hH => .inr ⟨by simp, h H hH⟩
theorem eG {j : Nat} (h : SK K (.exit j) f S A0 H0 A L) : SK (vH P y K) (.exit j) f S A0 H0 A L := fun H hH => .inr ⟨by simp, h H hH⟩
theorem cP {i : Nat} (h : SK K .normal f S A0 H0 A L) : SK (oZ i K) .normal f S A0 H0 A L := h
theorem cA {i : Nat} (h : SK K .ret f S A0 H0 A L) : SK (oZ i K) .ret f S A0 H0 A L := h
theorem dL {i : Nat} (h : SK K .normal f S A0 H0 A L) : SK (oZ i K) (.exit i) f S A0 H0 A L := fun H hH => by simp only [oZ, if_true]; exact h H hH
inductive Picks (l : List (Nat × Value)) : List (Nat × Value) → Prop
 | nil : Picks l []
 | cons {k : Nat} {v : Value} {r : List (Nat × Value)} (h : look k l = some v) (p : Picks l r) : Picks l ((k, v) :: r)
theorem Picks.look {l l' : List (Nat × Value)} (h : Picks l l') (k : Nat) : AM.look k l' = none ∨ AM.look k l' = AM.look k l := by
 induction h with
 | nil => exact .inl rfl
 | @cons d v r h p ih =>
  simp only [AM.look]
  cases e : Nat.beq d k with
  | true =>
   have := Nat.eq_of_beq_eq_true e
   subst this
   right; rw [cond_true]; exact h.symm
  | false => rw [cond_false]; exact ih
theorem Picks.frame {l l' : List (Nat × Value)} (h : Picks l l') (n : Nat) (t : Tr Value) (k : Nat) : dA (fr n t l) k = dA (fr n (fr n t l).tr l') k := by
 rw [qW n (fr n t l).tr l']
 rcases h.look k with e | e
 ·rw [e]; rfl
 ·rw [e, qW]
  cases e2 : AM.look k l with
  | some v => rfl
  | none =>
   have := aGo n t k l
   rw [e2] at this
   exact this.symm
theorem XC.congr {f g : Fr} {H : AH} (hn : f.n = g.n) (hs : ∀ k, dA f k = dA g k) (h : XC P c K g H) : XC P c K f H := by
 obtain ⟨e, g', K', h1, h2, h3⟩ := h
 exact ⟨e, g', K', h1, h2, ACode.congr hn hs h3⟩
def LI {σ : Type} (n : Nat) (live : σ → List (Nat × Value)) (S : AH) (A0 : Nat → Prop) (h0 : σ → AH) (AA : σ → Nat → Prop) (LL : σ → OL) (J : σ → Prop) (s : σ) (f : Fr) (H : AH) : Prop :=
 J s ∧ ∃ t, f.n = n ∧ (∀ k, dA f k = dA (fr n t (live s)) k) ∧ HS S (h0 s) A0 (AA s) (LL s) H
def aFd {σ : Type} (μ : σ → Nat) (I : σ → Fr → AH → Prop) (s : σ) (Q : AQ) : AQ := fun e f' H' => (e = .normal ∧ ∃ s', μ s' < μ s ∧ I s' f' H') ∨ (e ≠ .normal ∧ Q e f' H')
theorem gT {τ : Type} (μ : τ → Nat) (live : τ → List (Nat × Value)) (h0 : τ → AH) (AA : τ → Nat → Prop) (LL : τ → OL) (J : τ → Prop)
 (s : τ) (hJ : J s) (hp : Picks l (live s)) (hh : h0 s = H0) (hA : AA s = A) (hL : (LL s).Sublist L)
 (round : ∀ s, J s → ∀ t, SX P c (aFd μ (LI n live S A0 h0 AA LL J) s K) (fr n t (live s)) S A0 (h0 s) (AA s) (LL s)) : SX P (.loop c) K (fr n t l) S A0 H0 A L := by
 subst hh; subst hA
 intro H hH
 refine XC.loop μ (LI n live S A0 h0 AA LL J) ?_ s ⟨hJ, (fr n t l).tr, aOc .., hp.frame n t, hH.subl hL⟩
 rintro s f H ⟨hJ, t, hn, hf, hH⟩
 exact XC.congr (by rw [hn, aOc]) hf (round s hJ t H hH)
theorem dR {σ : Type} {μ : σ → Nat} {live : σ → List (Nat × Value)} {h0 : σ → AH} {AA : σ → Nat → Prop} {LL : σ → OL} {J : σ → Prop} {s : σ} (s' : σ) (hlt : μ s' < μ s) (hJ : J s') (hp : Picks l (live s')) (hh : h0 s' = H0) (hA : AA s' = A) (hL : (LL s').Sublist L) :
 SK (aFd μ (LI n live S A0 h0 AA LL J) s K) .normal (fr n t l) S A0 H0 A L := by
 subst hh; subst hA
 intro H hH
 exact .inl ⟨rfl, s', hlt, hJ, (fr n t l).tr, aOc .., hp.frame n t, hH.subl hL⟩
theorem iZ {σ : Type} {μ : σ → Nat} {I : σ → Fr → AH → Prop} {s : σ} (h : SK K .ret f S A0 H0 A L) : SK (aFd μ I s K) .ret f S A0 H0 A L := fun H hH => .inr ⟨by simp, h H hH⟩
theorem eK {σ : Type} {μ : σ → Nat} {I : σ → Fr → AH → Prop} {s : σ} {j : Nat} (h : SK K (.exit j) f S A0 H0 A L) : SK (aFd μ I s K) (.exit j) f S A0 H0 A L := fun H hH => .inr ⟨by simp, h H hH⟩
end
structure RG where
 D : Bool
 ops : Array Oper
 ms : List Nat
 S : AH
 A0 : Nat → Prop
 Hw : AH
 Aw : Nat → Prop
 Lw : OL
def DSub (G : RG) (H0 : AH) (A : Nat → Prop) (L : OL) : Prop :=
 G.D = true → (∀ p ∈ G.Lw, p ∈ L) ∧ G.Lw.Pairwise (fun p q => p.1 ≠ q.1) ∧ (∀ j, G.Aw j → A j ∧ H0.tr.get j = G.Hw.tr.get j) ∧ G.Hw.w0 = H0.w0
theorem HS.weak {G : RG} {H0 H : AH} {A : Nat → Prop} {L : OL} (h : HS G.S H0 G.A0 A L H) (hd : DSub G H0 A L) (hD : G.D = true) : HS G.S G.Hw G.A0 G.Aw G.Lw H := by
 obtain ⟨d1, d2, d3, d4⟩ := hd hD
 exact ⟨h.kept, fun j hj => (h.base j (d3 j hj).1).trans (d3 j hj).2, d4.trans h.w0, fun j hj => h.sub j (d3 j hj).1, fun j hj => h.lt j (d3 j hj).1,
  fun p hp => by obtain ⟨h1, h2, h3, h4⟩ := h.own p (d1 p hp); exact ⟨h1, h2, h3, fun hj => h4 (d3 _ hj).1⟩, d2⟩
section
variable {P : Program} (E : Env P)
def SO (G : RG) (i : Nat) (l : List Oper) (Q : Fr → AH → Prop) (f : Fr) (H0 : AH) (A : Nat → Prop) (L : OL) : Prop :=
 DSub G H0 A L → ∀ H, HS G.S H0 G.A0 A L H → ∃ Ls g K, RunD E G.D G.ops G.ms (HS G.S G.Hw G.A0 G.Aw G.Lw) i l f H Ls g K ∧ Q g K
variable {E} {G : RG} {i n : Nat} {r : List Oper} {o : Oper} {Q : Fr → AH → Prop} {t : Tr Value} {l : List (Nat × Value)} {S H0 : AH} {A0 A : Nat → Prop} {L L' : OL} {v : Value} {d : Nat} {K : AQ}
theorem aB {ops : Array Oper} {id : Nat} {f : Fr} (h : SO E ⟨false, ops, [], S, A0, H0, A, L⟩ 0 ops.toList (fun f H => K .normal f H) f H0 A L) : SX P (.region id ops false) K f S A0 H0 A L := by
 intro H hH
 obtain ⟨Ls, g, K', hr, hq⟩ := h (fun hD => by cases hD) H hH
 exact ⟨.normal, g, K', hq, hr.region id⟩
theorem zQ {ops : Array Oper} {id : Nat} {f : Fr} (hm : P.follows .mixedOrders = true) (ms : List Nat) (Lw : OL) (hLw : Lw.Sublist L) (hord : dH ops (bef ops) = true) (hpairs : eO (bef ops) ms = true) (hsorted : ms.Pairwise (· < ·))
 (h : SO E ⟨true, ops, ms, S, A0, H0, A, Lw⟩ 0 ops.toList (fun f H => K .normal f H) f H0 A L) : SX P (.region id ops true) K f S A0 H0 A L := by
 intro H hH
 have hW : HS S H0 A0 A Lw H := hH.subl hLw
 obtain ⟨Ls, g, K', hr, hq⟩ := h (fun _ => ⟨fun p hp => hLw.subset hp, hW.dist, fun j hj => ⟨hj, rfl⟩, rfl⟩) H hH
 exact ⟨.normal, g, K', hq, hr.draw hm hord hpairs hsorted hW id⟩
theorem eY {D : Bool} {ops : Array Oper} {ms : List Nat} {Hw : AH} {Aw : Nat → Prop} {Lw : OL} {f : Fr} (h : SK K .normal f S A0 H0 A L) : SO E ⟨D, ops, ms, S, A0, Hw, Aw, Lw⟩ i [] (fun f H => K .normal f H) f H0 A L := fun _ H hH => ⟨[], f, H, .nil, h H hH⟩
theorem aD {D : Bool} {ops : Array Oper} {ms : List Nat} {Hw : AH} {Aw : Nat → Prop} {Lw : OL} {f : Fr} {y : Code} (h : SX P y K f S A0 H0 A L) : SO E ⟨D, ops, ms, S, A0, Hw, Aw, Lw⟩ i [] (fun f H => vH P y K .normal f H) f H0 A L := eY (K := vH P y K) (aQ h)
theorem aH (hw : gsk G.ops l o.guard = true) (hd : o.dst = some d) (hdn : Nat.ble (d + 1) n = true) (h : SO E G (i + 1) r Q (fr n t ((d, undef) :: l)) H0 A L) : SO E G i (o :: r) Q (fr n t l) H0 A L := by
 intro hD H hH
 obtain ⟨Ls, g, K, hr, hq⟩ := h hD H hH
 exact ⟨_, g, K, .cons (.inl ⟨aCr hw, rfl, rfl, rfl⟩) (by rw [hd]; exact vA (Nat.le_of_ble_eq_true hdn) t l undef) hr, hq⟩
theorem aDu {op : Op} (h : hP E op = true) : dI E op = true := by
 cases op <;> first | rfl | exact h | (simp only [hP] at h; cases h; done) | skip
 case convert s d x =>
  simp only [hP] at h
  simp only [dI]
  split at h
  ·rename_i k hk; rw [hk]
  ·cases h
 rename_i c
 simp only [hP] at h
 simp only [dI]
 split at h
 ·rename_i hc; rw [hc]
 ·rename_i hc; rw [hc]
 ·rename_i hc; rw [hc]
 ·cases h
theorem dG (hw : gok G.ops l o.guard = true) (hd : o.dst = some d) (hdn : Nat.ble (d + 1) n = true) (hp : hP E o.op = true) (hop : ∀ H, aop E (bS (fr n t l)) o.op H = some (v, H)) (h : SO E G (i + 1) r Q (fr n t ((d, v) :: l)) H0 A L) : SO E G i (o :: r) Q (fr n t l) H0 A L := by
 intro hD H hH
 obtain ⟨Ls, g, K, hr, hq⟩ := h hD H hH
 exact ⟨_, g, K, .cons (.inr (.inl ⟨iR hw, rfl, rfl, ⟨aDu hp, hop H⟩, fun _ => .inl hp⟩)) (by rw [hd]; exact vA (Nat.le_of_ble_eq_true hdn) t l v) hr, hq⟩
def qH (G : RG) (H0 : AH) : AH := bif G.D then G.Hw else H0
def qA (G : RG) (A : Nat → Prop) : Nat → Prop := bif G.D then G.Aw else A
def qL (G : RG) (L : OL) : OL := bif G.D then G.Lw else L
theorem HS.q (hD : DSub G H0 A L) {H : AH} (hH : HS G.S H0 G.A0 A L H) : HS G.S (qH G H0) G.A0 (qA G A) (qL G L) H := by
 unfold qH qA qL
 cases e : G.D with
 | false => exact hH
 | true => exact hH.weak hD e
theorem nP (hqt : dI E o.op = true) (hw : gok G.ops l o.guard = true) (hd : o.dst = some d) (hdn : Nat.ble (d + 1) n = true) (hop : ∀ H, HS G.S (qH G H0) G.A0 (qA G A) (qL G L) H → aop E (bS (fr n t l)) o.op H = some (v, H)) (h : SO E G (i + 1) r Q (fr n t ((d, v) :: l)) H0 A L) : SO E G i (o :: r) Q (fr n t l) H0 A L := by
 intro hD H hH
 obtain ⟨Ls, g, K, hr, hq⟩ := h hD H hH
 refine ⟨_, g, K, .cons (.inr (.inl ⟨iR hw, rfl, rfl, ⟨hqt, hop H (hH.q hD)⟩, fun hDt => .inr (.inr fun H' hH' => hop H' ?_)⟩)) (by rw [hd]; exact vA (Nat.le_of_ble_eq_true hdn) t l v) hr, hq⟩
 unfold qH qA qL
 rw [hDt]; exact hH'
theorem mP (hw : gok G.ops l o.guard = true) (hd : o.dst = some d) (hdn : Nat.ble (d + 1) n = true) (hm : G.D = true → i ∈ G.ms)
 (h : DSub G H0 A L → ∀ H, HS G.S H0 G.A0 A L H → ∃ v H' H1 A1 L1, (aop E (bS (fr n t l)) o.op H = some (v, H') ∨ (H'.w0 = H.w0 ∧ ∃ g args, dE E (bS (fr n t l)) o.op = some (g, args) ∧ ACalls P g args H fun u K => u = v ∧ K = H')) ∧
  HS G.S H1 G.A0 A1 L1 H' ∧ DSub G H1 A1 L1 ∧ SO E G (i + 1) r Q (fr n t ((d, v) :: l)) H1 A1 L1) : SO E G i (o :: r) Q (fr n t l) H0 A L := by
 intro hD H hH
 obtain ⟨v, H', H1, A1, L1, hop, hS, hD1, hk⟩ := h hD H hH
 obtain ⟨Ls, g, K, hr, hq⟩ := hk hD1 H' hS
 have hp : (fr n t l).put o.dst v = some (fr n t ((d, v) :: l)) := by rw [hd]; exact vA (Nat.le_of_ble_eq_true hdn) t l v
 rcases hop with hop | ⟨hw0, gg, args, hc, ha⟩
 ·exact ⟨_, g, K, .cons (.inr (.inr (.inl ⟨iR hw, rfl, fun hDt => ⟨hm hDt, hS.weak hD1 hDt⟩, hop⟩))) hp hr, hq⟩
 ·exact ⟨_, g, K, .cons (.inr (.inr (.inr ⟨iR hw, rfl, fun hDt => ⟨hm hDt, hS.weak hD1 hDt⟩, hw0, gg, args, hc, ha⟩))) hp hr, hq⟩
theorem aFu (hw : gok G.ops l o.guard = true) (hd : o.dst = none) (hm : G.D = true → i ∈ G.ms)
 (h : DSub G H0 A L → ∀ H, HS G.S H0 G.A0 A L H → ∃ v H' H1 A1 L1, (aop E (bS (fr n t l)) o.op H = some (v, H') ∨ (H'.w0 = H.w0 ∧ ∃ g args, dE E (bS (fr n t l)) o.op = some (g, args) ∧ ACalls P g args H fun u K => u = v ∧ K = H')) ∧
  HS G.S H1 G.A0 A1 L1 H' ∧ DSub G H1 A1 L1 ∧ SO E G (i + 1) r Q (fr n t l) H1 A1 L1) : SO E G i (o :: r) Q (fr n t l) H0 A L := by
 intro hD H hH
 obtain ⟨v, H', H1, A1, L1, hop, hS, hD1, hk⟩ := h hD H hH
 obtain ⟨Ls, g, K, hr, hq⟩ := hk hD1 H' hS
 have hp : (fr n t l).put o.dst v = some (fr n t l) := by rw [hd]; rfl
 rcases hop with hop | ⟨hw0, gg, args, hc, ha⟩
 ·exact ⟨_, g, K, .cons (.inr (.inr (.inl ⟨iR hw, rfl, fun hDt => ⟨hm hDt, hS.weak hD1 hDt⟩, hop⟩))) hp hr, hq⟩
 ·exact ⟨_, g, K, .cons (.inr (.inr (.inr ⟨iR hw, rfl, fun hDt => ⟨hm hDt, hS.weak hD1 hDt⟩, hw0, gg, args, hc, ha⟩))) hp hr, hq⟩
theorem DSub.push (h : DSub G H0 A L) (x : Nat × AObj) : DSub G H0 A (x :: L) := fun hD => by
 obtain ⟨h1, h2, h3, h4⟩ := h hD
 exact ⟨fun p hp => List.mem_cons_of_mem _ (h1 p hp), h2, h3, h4⟩
theorem DSub.list {L1 : OL} (h : DSub G H0 A L) (hs : G.D = true → G.Lw.Sublist L1) : DSub G H0 A L1 := fun hD => by
 obtain ⟨h1, h2, h3, h4⟩ := h hD
 exact ⟨fun p hp => (hs hD).subset hp, h2, h3, h4⟩
end
end Go.AM
namespace Go.AM
open Go.RowKit
variable [σ : Sg]
inductive Kd where
 | int (k : IntKind)
 | bool
 | str
 | row (b : Nat) (ks : List Kd)
inductive CT where
 | v (u : Value)
 | row (l : List (List CT))
def InA (A : Nat → Prop) (b : Nat) : Prop := b % 2 = 0 ∨ A (b / 2)
theorem InA.even (A : Nat → Prop) {b : Nat} (h : b % 2 = 0) : InA A b := .inl h
theorem InA.own {A : Nat → Prop} {N : Nat} (h : A N) : InA A (2 * N + 1) := .inr (by rw [cR]; exact h)
def SzA (H : AH) (a : Addr) (n : Nat) : Prop := a.block % 2 = 1 → ∃ cs ex, H.tr.get (a.block / 2) = some (.cells cs n ex)
mutual
def CellA (A : Nat → Prop) (H : AH) : Kd → Value → CT → Prop
 | .int k, x, .v u => x = u ∧ ∃ n, u = .int k n ∧ (Lit.int k n).wf = true
 | .bool, x, .v u => x = u ∧ ∃ b, u = .bool b
 | .str, x, .v u => x = u ∧ ∃ s, u = .string s ∧ s.size ≤ maxLen
 | .row b ks, x, .row l => l.length ≤ 140737488351232 ∧ l.length * b ≤ 140737488351232 ∧ ((x = .slice none 0 0 ∧ l = []) ∨ ∃ a cap, x = .slice (some a) l.length cap ∧ l.length ≤ cap ∧ (InA A a.block ∧ SzA H a ks.length) ∧
  ∀ (i : Nat) c, l[i]? = some c → ∃ xs, aloads H (a.add (i * ks.length)) ks.length = some xs ∧ CellsA A H ks xs c)
 | _, _, _ => False
def CellsA (A : Nat → Prop) (H : AH) : List Kd → List Value → List CT → Prop
 | [], [], [] => True
 | k :: ks, x :: xs, c :: cs => CellA A H k x c ∧ CellsA A H ks xs cs
 | _, _, _ => False
end
theorem aDd {H : AH} {p : Addr} {n : Nat} {xs : List Value} (h : aloads H p n = some xs) : xs.length = n := by
 unfold aloads at h
 by_cases hn : n = 0
 ·subst hn; simp at h; rw [h]; rfl
 ·rw [show Nat.beq n 0 = false by (cases n with | zero => exact absurd rfl hn | succ n => rfl), cond_false] at h
  cases hb : Nat.beq (p.block % 2) 0 with
  | true =>
   rw [hb, cond_true] at h
   have key : ∀ (n i : Nat) (w : World) (a : Addr) (l : List Value), fR w a i n = some l → l.length = n := by
    intro n
    induction n with
    | zero => intro i w a l h; simp [fR] at h; subst h; rfl
    | succ n ih =>
     intro i w a l h
     simp only [fR] at h
     split at h
     ·split at h
      ·rename_i r hr; cases h; simp [ih _ _ _ _ hr]
      ·cases h
     ·cases h
   exact key _ _ _ _ _ h
  | false =>
   rw [hb, cond_false] at h
   split at h
   ·rename_i cs _ _ _
    cases hle : Nat.ble (p.off + n) cs.length with
    | true =>
     rw [hle, cond_true] at h
     cases h
     have := Nat.le_of_ble_eq_true hle
     simp; omega
    | false => rw [hle] at h; cases h
   ·cases h
section
variable {A A' : Nat → Prop} {H H' : AH}
theorem Gr.aload (g : Gr A H A' H') {p : Addr} (hp : InA A p.block) : AM.aload H' p = AM.aload H p := by
 unfold AM.aload
 rw [g.w0]
 cases hb : Nat.beq (p.block % 2) 0 with
 | true => rfl
 | false =>
  simp only [cond_false]
  rw [g.get]
  rcases hp with hp | hp
  ·rw [hp] at hb; cases hb
  ·exact hp
theorem Gr.aloads (g : Gr A H A' H') {p : Addr} (hp : InA A p.block) (n : Nat) : AM.aloads H' p n = AM.aloads H p n := by
 unfold AM.aloads
 rw [g.w0]
 cases hb : Nat.beq (p.block % 2) 0 with
 | true => rfl
 | false =>
  simp only [cond_false]
  rw [g.get]
  rcases hp with hp | hp
  ·rw [hp] at hb; cases hb
  ·exact hp
theorem Gr.szA (g : Gr A H A' H') {a : Addr} {n : Nat} (hp : InA A a.block) (h : SzA H a n) : SzA H' a n := fun ho => by
 obtain ⟨cs, ex, hc⟩ := h ho
 refine ⟨cs, ex, ?_⟩
 rw [g.get]
 ·exact hc
 ·rcases hp with hp | hp
  ·omega
  ·exact hp
theorem Gr.inA (g : Gr A H A' H') {b : Nat} (h : InA A b) : InA A' b := h.imp id (g.sub _)
mutual
theorem CellA.gr (g : Gr A H A' H') : ∀ (k : Kd) (x : Value) (c : CT), CellA A H k x c → CellA A' H' k x c
 | .int k, x, .v u, h => by simp only [CellA] at h ⊢; exact h
 | .bool, x, .v u, h => by simp only [CellA] at h ⊢; exact h
 | .str, x, .v u, h => by simp only [CellA] at h ⊢; exact h
 | .row b ks, x, .row l, h => by
  simp only [CellA] at h ⊢
  obtain ⟨h1, h2, h3⟩ := h
  refine ⟨h1, h2, h3.imp id ?_⟩
  rintro ⟨a, cap, rfl, q1, q2, q3⟩
  refine ⟨a, cap, rfl, q1, ⟨g.inA q2.1, g.szA q2.1 q2.2⟩, fun i c hc => ?_⟩
  obtain ⟨xs, r1, r2⟩ := q3 i c hc
  exact ⟨xs, by rw [g.aloads (by rw [gC]; exact q2.1)]; exact r1, CellsA.gr g ks xs c r2⟩
 | .int k, x, .row l, h => by simp only [CellA] at h
 | .bool, x, .row l, h => by simp only [CellA] at h
 | .str, x, .row l, h => by simp only [CellA] at h
 | .row b ks, x, .v u, h => by simp only [CellA] at h
theorem CellsA.gr (g : Gr A H A' H') : ∀ (ks : List Kd) (xs : List Value) (cs : List CT), CellsA A H ks xs cs → CellsA A' H' ks xs cs
 | [], [], [], _ => by simp only [CellsA]
 | k :: ks, x :: xs, c :: cs, h => by
  simp only [CellsA] at h ⊢
  exact ⟨CellA.gr g k x c h.1, CellsA.gr g ks xs cs h.2⟩
 | [], [], _ :: _, h => by simp only [CellsA] at h
 | [], _ :: _, _, h => by simp only [CellsA] at h
 | _ :: _, [], _, h => by simp only [CellsA] at h
 | _ :: _, _ :: _, [], h => by simp only [CellsA] at h
end
theorem CellsA.len : ∀ {ks : List Kd} {xs : List Value} {cs : List CT}, CellsA A H ks xs cs → xs.length = ks.length ∧ cs.length = ks.length
 | [], [], [], _ => ⟨rfl, rfl⟩
 | k :: ks, x :: xs, c :: cs, h => by
  simp only [CellsA] at h
  have := CellsA.len h.2
  simp [this.1, this.2]
 | [], [], _ :: _, h => by simp only [CellsA] at h
 | [], _ :: _, _, h => by simp only [CellsA] at h
 | _ :: _, [], _, h => by simp only [CellsA] at h
 | _ :: _, _ :: _, [], h => by simp only [CellsA] at h
theorem CellsA.at : ∀ {ks : List Kd} {xs : List Value} {cs : List CT}, CellsA A H ks xs cs → ∀ {i : Nat} {k : Kd} {x : Value} {c : CT}, ks[i]? = some k → xs[i]? = some x → cs[i]? = some c → CellA A H k x c
 | [], [], [], _, i, k, x, c, h, _, _ => by simp at h
 | k :: ks, x :: xs, c :: cs, h, i, k', x', c', h1, h2, h3 => by
  simp only [CellsA] at h
  cases i with
  | zero => simp at h1 h2 h3; subst h1; subst h2; subst h3; exact h.1
  | succ i => simp at h1 h2 h3; exact CellsA.at h.2 h1 h2 h3
 | [], [], _ :: _, h, _, _, _, _, _, _, _ => by simp only [CellsA] at h
 | [], _ :: _, _, h, _, _, _, _, _, _, _ => by simp only [CellsA] at h
 | _ :: _, [], _, h, _, _, _, _, _, _, _ => by simp only [CellsA] at h
 | _ :: _, _ :: _, [], h, _, _, _, _, _, _, _ => by simp only [CellsA] at h
theorem CellsA.mk : ∀ {ks : List Kd} {xs : List Value} {cs : List CT}, xs.length = ks.length → cs.length = ks.length → (∀ (i : Nat) k x c, ks[i]? = some k → xs[i]? = some x → cs[i]? = some c → CellA A H k x c) → CellsA A H ks xs cs
 | [], [], [], _, _, _ => by simp only [CellsA]
 | k :: ks, x :: xs, c :: cs, h1, h2, h => by
  simp only [CellsA]
  exact ⟨h 0 k x c rfl rfl rfl, CellsA.mk (by simpa using h1) (by simpa using h2) (fun i k x c a b d => h (i + 1) k x c (by simpa using a) (by simpa using b) (by simpa using d))⟩
 | [], [], _ :: _, _, h, _ => by simp at h
 | [], _ :: _, _, h, _, _ => by simp at h
 | _ :: _, [], _, h, _, _ => by simp at h
 | _ :: _, _ :: _, [], _, h, _ => by simp at h
theorem CellsA.part {ks : List Kd} {xs : List Value} {cs : List CT} (h : CellsA A H ks xs cs) (j m : Nat) : CellsA A H ((ks.drop j).take m) ((xs.drop j).take m) ((cs.drop j).take m) := by
 obtain ⟨h1, h2⟩ := h.len
 refine CellsA.mk (by simp [h1]) (by simp [h2]) fun i k x c a b d => ?_
 rw [List.getElem?_take] at a b d
 split at a
 ·rename_i hi
  rw [if_pos hi, List.getElem?_drop] at b d
  rw [List.getElem?_drop] at a
  exact h.at a b d
 ·cases a
theorem CellsA.append {ks ks' : List Kd} {xs xs' : List Value} {cs cs' : List CT} (h : CellsA A H ks xs cs) (h' : CellsA A H ks' xs' cs') : CellsA A H (ks ++ ks') (xs ++ xs') (cs ++ cs') := by
 obtain ⟨h1, h2⟩ := h.len
 obtain ⟨h3, h4⟩ := h'.len
 refine CellsA.mk (by simp [h1, h3]) (by simp [h2, h4]) fun i k x c a b d => ?_
 by_cases hi : i < ks.length
 ·rw [List.getElem?_append_left hi] at a
  rw [List.getElem?_append_left (by omega)] at b d
  exact h.at a b d
 ·rw [List.getElem?_append_right (by omega)] at a
  rw [List.getElem?_append_right (by omega), h1] at b
  rw [List.getElem?_append_right (by omega), h2] at d
  exact h'.at a b d
theorem CellA.row {b : Nat} {ks : List Kd} {x : Value} {c : CT} (h : CellA A H (.row b ks) x c) : ∃ l, c = .row l ∧ l.length ≤ 140737488351232 ∧ l.length * b ≤ 140737488351232 ∧ ((x = .slice none 0 0 ∧ l = []) ∨ ∃ a cap, x = .slice (some a) l.length cap ∧ l.length ≤ cap ∧ (InA A a.block ∧ SzA H a ks.length) ∧
 ∀ (i : Nat) c, l[i]? = some c → ∃ xs, aloads H (a.add (i * ks.length)) ks.length = some xs ∧ CellsA A H ks xs c) := by
 cases c with
 | v u => simp only [CellA] at h
 | row l => simp only [CellA] at h; exact ⟨l, rfl, h⟩
theorem CellA.int {k : IntKind} {x : Value} {c : CT} (h : CellA A H (.int k) x c) : ∃ n, x = .int k n ∧ c = .v (.int k n) ∧ (Lit.int k n).wf = true := by
 cases c with
 | v u => simp only [CellA] at h; obtain ⟨rfl, n, rfl, hn⟩ := h; exact ⟨n, rfl, rfl, hn⟩
 | row l => simp only [CellA] at h
theorem CellA.bool {x : Value} {c : CT} (h : CellA A H .bool x c) : ∃ b, x = .bool b ∧ c = .v (.bool b) := by
 cases c with
 | v u => simp only [CellA] at h; obtain ⟨rfl, n, rfl⟩ := h; exact ⟨n, rfl, rfl⟩
 | row l => simp only [CellA] at h
theorem CellA.str {x : Value} {c : CT} (h : CellA A H .str x c) : ∃ s, x = .string s ∧ c = .v (.string s) ∧ s.size ≤ maxLen := by
 cases c with
 | v u => simp only [CellA] at h; obtain ⟨rfl, n, rfl, hn⟩ := h; exact ⟨n, rfl, rfl, hn⟩
 | row l => simp only [CellA] at h
end
def Kd.isFlat : Kd → Bool
 | .row _ _ => false
 | _ => true
def CT.val : CT → Value
 | .v u => u
 | .row _ => undef
section
variable {A : Nat → Prop} {H : AH}
theorem CellA.flat {k : Kd} {x : Value} {c : CT} (h : CellA A H k x c) (hk : k.isFlat = true) : x = c.val ∧ c = .v x ∧ oP x = true := by
 cases k with
 | int k => obtain ⟨n, rfl, rfl, _⟩ := h.int; exact ⟨rfl, rfl, rfl⟩
 | bool => obtain ⟨n, rfl, rfl⟩ := h.bool; exact ⟨rfl, rfl, rfl⟩
 | str => obtain ⟨n, rfl, rfl, _⟩ := h.str; exact ⟨rfl, rfl, rfl⟩
 | row b ks => simp [Kd.isFlat] at hk
theorem CellsA.flat : ∀ {ks : List Kd} {xs : List Value} {cs : List CT}, CellsA A H ks xs cs → ks.all Kd.isFlat = true → xs = cs.map CT.val ∧ cs = xs.map CT.v ∧ lF xs = true
 | [], [], [], _, _ => ⟨rfl, rfl, rfl⟩
 | k :: ks, x :: xs, c :: cs, h, hk => by
  simp only [CellsA] at h
  simp only [List.all_cons, Bool.and_eq_true] at hk
  obtain ⟨h1, h2, h3⟩ := h.1.flat hk.1
  obtain ⟨q1, q2, q3⟩ := CellsA.flat h.2 hk.2
  refine ⟨?_, ?_, ?_⟩
  ·rw [List.map_cons, ← h1, ← q1]
  ·rw [List.map_cons, ← h2, ← q2]
  ·simp only [lF, h3, q3, Bool.and_self]
 | [], [], _ :: _, h, _ => by simp only [CellsA] at h
 | [], _ :: _, _, h, _ => by simp only [CellsA] at h
 | _ :: _, [], _, h, _ => by simp only [CellsA] at h
 | _ :: _, _ :: _, [], h, _ => by simp only [CellsA] at h
theorem CellA.move {k : Kd} {x : Value} {c : CT} (h : CellA A H k x c) (hk : k.isFlat = true) (A' : Nat → Prop) (H' : AH) : CellA A' H' k x c := by
 cases k with
 | int k => obtain ⟨n, rfl, rfl, hn⟩ := h.int; simp only [CellA]; exact ⟨trivial, n, rfl, hn⟩
 | bool => obtain ⟨n, rfl, rfl⟩ := h.bool; simp only [CellA]; exact ⟨trivial, n, rfl⟩
 | str => obtain ⟨n, rfl, rfl, hn⟩ := h.str; simp only [CellA]; exact ⟨trivial, n, rfl, hn⟩
 | row b ks => simp [Kd.isFlat] at hk
theorem CellsA.move {ks : List Kd} {xs : List Value} {cs : List CT} (h : CellsA A H ks xs cs) (hk : ks.all Kd.isFlat = true) (A' : Nat → Prop) (H' : AH) : CellsA A' H' ks xs cs := by
 obtain ⟨h1, h2⟩ := h.len
 refine CellsA.mk h1 h2 fun i k x c a b d => (h.at a b d).move ?_ A' H'
 exact List.all_eq_true.1 hk k (List.mem_of_getElem? a)
end
def cellsOf (n : Nat) (x : Nat → Value) : List Value := (List.range n).map x
theorem aDw {xs : List Value} {n : Nat} (h : xs.length = n) : ∃ x : Nat → Value, xs = cellsOf n x := by
 refine ⟨fun i => xs.getD i undef, ?_⟩
 apply List.ext_getElem
 ·simp [cellsOf, h]
 ·intro i h1 h2
  simp [cellsOf, h1]
end Go.AM
namespace Go.AM
open Go.RowKit
variable [σ : Sg]
theorem aL {n i : Nat} {x : Nat → Value} (h : Nat.blt i n = true) : (cellsOf n x)[i]? = some (x i) := by
 have : i < n := Nat.le_of_ble_eq_true h
 simp [cellsOf, this]
theorem aI (n : Nat) (x : Nat → Value) : (cellsOf n x).length = n := by simp [cellsOf]
theorem aP {m n : Nat} {x : Nat → Value} (h : Nat.ble m n = true) : m ≤ (cellsOf n x).length := by rw [aI]; exact Nat.le_of_ble_eq_true h
def aPv (x : Nat → Value) (off : Nat) (v : Value) : Nat → Value := fun i => bif Nat.beq i off then v else x i
def aSa (x : Nat → Value) (off m : Nat) (y : Nat → Value) : Nat → Value := fun i => bif Nat.ble off i && Nat.blt i (off + m) then y (i - off) else x i
theorem bW {n off : Nat} {x : Nat → Value} {v : Value} (h : Nat.blt off n = true) : (cellsOf n x).take off ++ ([v] ++ (cellsOf n x).drop (off + 1)) = cellsOf n (aPv x off v) := by
 have hlt : off < n := Nat.le_of_ble_eq_true h
 apply List.ext_getElem?
 intro i
 by_cases h1 : i < off
 ·rw [List.getElem?_append_left (by simp [cellsOf]; omega), List.getElem?_take, if_pos h1, aL (by simp [Nat.blt]; omega), aL (by simp [Nat.blt]; omega)]
  rw [aPv, show Nat.beq i off = false by (cases e : Nat.beq i off with | false => rfl | true => have := Nat.eq_of_beq_eq_true e; omega)]; rfl
 ·rw [List.getElem?_append_right (by simp [cellsOf]; omega)]
  simp only [List.length_take, aI, Nat.min_eq_left (Nat.le_of_lt hlt)]
  by_cases h2 : i = off
  ·subst h2
   rw [aL (by simp [Nat.blt]; omega), aPv]
   simp
  ·rw [List.getElem?_append_right (by simp; omega), List.getElem?_drop]
   simp only [List.length_singleton]
   rw [show off + 1 + (i - off - 1) = i by omega]
   by_cases h3 : i < n
   ·rw [aL (by simp [Nat.blt]; omega), aL (by simp [Nat.blt]; omega), aPv, show Nat.beq i off = false by (cases e : Nat.beq i off with | false => rfl | true => exact absurd (Nat.eq_of_beq_eq_true e) h2)]; rfl
   ·rw [List.getElem?_eq_none (by simp [cellsOf]; omega), List.getElem?_eq_none (by simp [cellsOf]; omega)]
theorem bR {n off m : Nat} {x y : Nat → Value} (h : Nat.ble (off + m) n = true) : (cellsOf n x).take off ++ (cellsOf m y ++ (cellsOf n x).drop (off + (cellsOf m y).length)) = cellsOf n (aSa x off m y) := by
 have hle : off + m ≤ n := Nat.le_of_ble_eq_true h
 rw [aI]
 apply List.ext_getElem?
 intro i
 have hu : aSa x off m y i = if off ≤ i ∧ i < off + m then y (i - off) else x i := by
  simp only [aSa, cond_eq_ite, Bool.and_eq_true, Nat.blt, Nat.ble_eq]
  by_cases hc : off ≤ i ∧ i < off + m
  ·rw [if_pos hc, if_pos ⟨hc.1, hc.2⟩]
  ·rw [if_neg hc, if_neg (fun h => hc ⟨h.1, h.2⟩)]
 by_cases h1 : i < off
 ·rw [List.getElem?_append_left (by simp [cellsOf]; omega), List.getElem?_take, if_pos h1, aL (by simp [Nat.blt]; omega), aL (by simp [Nat.blt]; omega), hu, if_neg (by omega)]
 ·rw [List.getElem?_append_right (by simp [cellsOf]; omega)]
  simp only [List.length_take, aI, Nat.min_eq_left (show off ≤ n by omega)]
  by_cases h2 : i < off + m
  ·rw [List.getElem?_append_left (by simp [cellsOf]; omega), aL (by simp [Nat.blt]; omega), aL (by simp [Nat.blt]; omega), hu, if_pos (by omega)]
  ·rw [List.getElem?_append_right (by simp [cellsOf]; omega), List.getElem?_drop, aI]
   rw [show off + m + (i - off - m) = i by omega]
   by_cases h3 : i < n
   ·rw [aL (by simp [Nat.blt]; omega), aL (by simp [Nat.blt]; omega), hu, if_neg (by omega)]
   ·rw [List.getElem?_eq_none (by simp [cellsOf]; omega), List.getElem?_eq_none (by simp [cellsOf]; omega)]
theorem bD {n off m : Nat} {x : Nat → Value} (h : Nat.ble (off + m) n = true) : ((cellsOf n x).drop off).take m = cellsOf m (fun i => x (off + i)) := by
 have hle : off + m ≤ n := Nat.le_of_ble_eq_true h
 apply List.ext_getElem?
 intro i
 rw [List.getElem?_take]
 by_cases h1 : i < m
 ·rw [if_pos h1, List.getElem?_drop, aL (by simp [Nat.blt]; omega), aL (by simp [Nat.blt]; omega)]
 ·rw [if_neg h1, List.getElem?_eq_none (by simp [cellsOf]; omega)]
section
variable {A : Nat → Prop} {H : AH}
theorem CellA.one {k : Kd} {x : Value} {c : CT} (h : CellA A H k x c) : x.oneCell' = true := by
 cases k with
 | int k => obtain ⟨n, rfl, _⟩ := h.int; rfl
 | bool => obtain ⟨n, rfl, _⟩ := h.bool; rfl
 | str => obtain ⟨n, rfl, _⟩ := h.str; rfl
 | row b ks =>
  obtain ⟨l, rfl, _, _, ⟨rfl, _⟩ | ⟨a, cap, rfl, _⟩⟩ := h.row
  ·rfl
  ·rfl
theorem CellsA.one : ∀ {ks : List Kd} {xs : List Value} {cs : List CT}, CellsA A H ks xs cs → cO xs = true
 | [], [], [], _ => rfl
 | k :: ks, x :: xs, c :: cs, h => by
  simp only [CellsA] at h
  simp only [cO, h.1.one, CellsA.one h.2, Bool.and_self]
 | [], [], _ :: _, h => by simp only [CellsA] at h
 | [], _ :: _, _, h => by simp only [CellsA] at h
 | _ :: _, [], _, h => by simp only [CellsA] at h
 | _ :: _, _ :: _, [], h => by simp only [CellsA] at h
end
section
variable {P : Program} {E : Env P} {t : TypeId} {k : IntKind} {a b : Int} {s u : ByteArray}
theorem aW (h : a < b) : cT E .lss t (.int k a) (.int k b) = some (.bool true) := by simp [cT, dY, h]
theorem aS (h : b ≤ a) : cT E .lss t (.int k a) (.int k b) = some (.bool false) := by simp [cT, dY]; omega
theorem bI (h : a ≤ b) : cT E .leq t (.int k a) (.int k b) = some (.bool true) := by simp [cT, dY, h]
theorem lC (h : b < a) : cT E .leq t (.int k a) (.int k b) = some (.bool false) := by simp [cT, dY]; omega
theorem bU (h : b < a) : cT E .gtr t (.int k a) (.int k b) = some (.bool true) := by simp [cT, dY, h]
theorem aY (h : a ≤ b) : cT E .gtr t (.int k a) (.int k b) = some (.bool false) := by simp [cT, dY]; omega
theorem jM (h : b ≤ a) : cT E .geq t (.int k a) (.int k b) = some (.bool true) := by simp [cT, dY, h]
theorem jJ (h : a < b) : cT E .geq t (.int k a) (.int k b) = some (.bool false) := by simp [cT, dY]; omega
theorem bN (h : a = b) : cT E .eql t (.int k a) (.int k b) = some (.bool true) := by simp [cT, dY, h]
theorem bJ (h : a ≠ b) : cT E .eql t (.int k a) (.int k b) = some (.bool false) := by simp [cT, dY, h]
theorem gJ (h : a ≠ b) : cT E .neq t (.int k a) (.int k b) = some (.bool true) := by simp [cT, dY, h]
theorem eV (h : a = b) : cT E .neq t (.int k a) (.int k b) = some (.bool false) := by simp [cT, dY, h]
theorem vE (h : s.data.toList = u.data.toList) : cT E .eql t (.string s) (.string u) = some (.bool true) := by simp [cT, qX, h]
theorem aEl (h : s.data.toList ≠ u.data.toList) : cT E .eql t (.string s) (.string u) = some (.bool false) := by
 simp only [cT, qX, Option.some.injEq, Value.bool.injEq]
 exact beq_eq_false_iff_ne.2 h
theorem aF {c : Int} (h : k.wrap (a + b) = c) : cT E .add t (.int k a) (.int k b) = some (.int k c) := by simp [cT, dY, h]
theorem gE {c : Int} (h : k.wrap (a - b) = c) : cT E .sub t (.int k a) (.int k b) = some (.int k c) := by simp [cT, dY, h]
theorem aOz {c : Int} (h : k.wrap (a * b) = c) : cT E .mul t (.int k a) (.int k b) = some (.int k c) := by simp [cT, dY, h]
theorem aK {c : Int} (h0 : -9223372036854775808 ≤ c) (h1 : c ≤ 9223372036854775807) : IntKind.i64.wrap c = c := by
 rw [IntKind.wrap_i64]; omega
theorem bC {m : Nat} (h : m + 1 ≤ 9223372036854775807) : cT E .add t (.int .i64 (m : Int)) (.int .i64 1) = some (.int .i64 ((m + 1 : Nat) : Int)) := aF (by rw [aK (by omega) (by omega)]; omega)
theorem qD {m : Nat} (h : m ≤ 9223372036854775807) : cT E .sub t (.int .i64 ((m + 1 : Nat) : Int)) (.int .i64 1) = some (.int .i64 (m : Int)) := gE (by rw [aK (by omega) (by omega)]; omega)
theorem vY {e : TypeId} (hu : E.und t = some (.pointer e)) : cT E .eql t (.pointer none) (.pointer none) = some (.bool true) := by simp [cT, hu, iL]
theorem lQ {e : TypeId} {p : Addr} (hu : E.und t = some (.pointer e)) : cT E .eql t (.pointer (some p)) (.pointer none) = some (.bool false) := by simp [cT, hu, iL]
end
section
variable {P : Program} {E : Env P} {A : Nat → Prop} {H : AH}
end
end Go.AM
namespace Go.AM
open Go.RowKit
variable [σ : Sg]
theorem uO (b off k : Nat) : (⟨b, off, none⟩ : Addr).add k = ⟨b, off + k, none⟩ := nG _ rfl k
theorem InA.add {A : Nat → Prop} {a : Addr} (h : InA A a.block) {k : Nat} : InA A (a.add k).block := by rw [gC]; exact h
section
variable {P : Program} {E : Env P} {G : RG} {i n d : Nat} {r : List Oper} {Q : Fr → AH → Prop} {t : Tr Value} {l : List (Nat × Value)} {S H0 : AH} {A0 A : Nat → Prop} {L L' : OL} {v u : Value}
 {ty : TypeId} {ps : String} {af : Array Edge} {gd : Option (Nat × Bool)} {x y z : Operand}
theorem aA (hw : gok G.ops l gd = true) (hdn : Nat.ble (d + 1) n = true) (hx : opv l x = some v) (h : SO E G (i + 1) r Q (fr n t ((d, v) :: l)) H0 A L) : SO E G i (⟨some d, .move x, ty, ps, af, gd⟩ :: r) Q (fr n t l) H0 A L :=
 dG hw rfl hdn rfl (fun H => by simp only [aop, bF hx]) h
theorem aC (hw : gok G.ops l gd = true) (hdn : Nat.ble (d + 1) n = true) (hx : opv l x = some v) (h : SO E G (i + 1) r Q (fr n t ((d, v) :: l)) H0 A L) : SO E G i (⟨some d, .assign x, ty, ps, af, gd⟩ :: r) Q (fr n t l) H0 A L :=
 dG hw rfl hdn rfl (fun H => by simp only [aop, bF hx]) h
theorem bA (hw : gok G.ops l gd = true) (hdn : Nat.ble (d + 1) n = true) (hz : opv l z = some (.bool true)) (hx : opv l x = some v) (h : SO E G (i + 1) r Q (fr n t ((d, v) :: l)) H0 A L) : SO E G i (⟨some d, .pick z x y, ty, ps, af, gd⟩ :: r) Q (fr n t l) H0 A L :=
 dG hw rfl hdn rfl (fun H => by simp only [aop, bF hz, bF hx]) h
theorem bB (hw : gok G.ops l gd = true) (hdn : Nat.ble (d + 1) n = true) (hz : opv l z = some (.bool false)) (hx : opv l y = some v) (h : SO E G (i + 1) r Q (fr n t ((d, v) :: l)) H0 A L) : SO E G i (⟨some d, .pick z x y, ty, ps, af, gd⟩ :: r) Q (fr n t l) H0 A L :=
 dG hw rfl hdn rfl (fun H => by simp only [aop, bF hz, bF hx]) h
theorem aG {op : BinOp} {ta tb : TypeId} {a b : Value} (hw : gok G.ops l gd = true) (hdn : Nat.ble (d + 1) n = true) (hx : opv l x = some a) (hy : opv l y = some b) (hb : cT E op ta a b = some v) (h : SO E G (i + 1) r Q (fr n t ((d, v) :: l)) H0 A L) :
 SO E G i (⟨some d, .binOp op ta x y tb, ty, ps, af, gd⟩ :: r) Q (fr n t l) H0 A L :=
 dG hw rfl hdn rfl (fun H => by simp only [aop, bF hx, bF hy, hb, cH]) h
theorem xA {ta : TypeId} {b b' : Bool} (hw : gok G.ops l gd = true) (hdn : Nat.ble (d + 1) n = true) (hx : opv l x = some (.bool b)) (hb : (!b) = b') (h : SO E G (i + 1) r Q (fr n t ((d, .bool b') :: l)) H0 A L) :
 SO E G i (⟨some d, .unOp .not ta x, ty, ps, af, gd⟩ :: r) Q (fr n t l) H0 A L :=
 dG hw rfl hdn rfl (fun H => by simp only [aop, bF hx, aJz, aun, hb, cH]) h
theorem bP {vs : List Value} {k : Nat} (hw : gok G.ops l gd = true) (hdn : Nat.ble (d + 1) n = true) (hx : opv l x = some (.tuple ⟨vs⟩)) (hv : vs[k]? = some v) (h : SO E G (i + 1) r Q (fr n t ((d, v) :: l)) H0 A L) : SO E G i (⟨some d, .extract x k, ty, ps, af, gd⟩ :: r) Q (fr n t l) H0 A L :=
 dG hw rfl hdn rfl (fun H => by simp only [aop, bF hx, qT, hv, cH]) h
theorem bV {a : Addr} (hw : gok G.ops l gd = true) (hdn : Nat.ble (d + 1) n = true) (hx : opv l x = some (.pointer (some a))) (h : SO E G (i + 1) r Q (fr n t ((d, .pointer (some a)) :: l)) H0 A L) : SO E G i (⟨some d, .nilCheck x, ty, ps, af, gd⟩ :: r) Q (fr n t l) H0 A L :=
 dG hw rfl hdn rfl (fun H => by simp only [aop, bF hx]) h
theorem bQ {g : FuncId} {a b : Array Value} (hw : gok G.ops l gd = true) (hdn : Nat.ble (d + 1) n = true) (hx : opv l x = some (.func (.func g) a b)) (h : SO E G (i + 1) r Q (fr n t ((d, .func (.func g) a b) :: l)) H0 A L) : SO E G i (⟨some d, .nilCheck x, ty, ps, af, gd⟩ :: r) Q (fr n t l) H0 A L :=
 dG hw rfl hdn rfl (fun H => by simp only [aop, bF hx]) h
theorem bG {s : TypeId} {f : Nat} {b off o' : Nat} {fs : Array Field} {fd : Field} {ii : TI} (hw : gok G.ops l gd = true) (hdn : Nat.ble (d + 1) n = true) (hx : opv l x = some (.pointer (some ⟨b, off, none⟩))) (hu : E.und s = some (.struct fs)) (hf : fs[f]? = some fd) (hi : E.inf fd.type = some ii)
 (hz : Nat.beq ii.size 0 = false) (ho : off + fd.offset = o') (h : SO E G (i + 1) r Q (fr n t ((d, .pointer (some ⟨b, o', none⟩)) :: l)) H0 A L) : SO E G i (⟨some d, .fieldAddr s x f, ty, ps, af, gd⟩ :: r) Q (fr n t l) H0 A L :=
 dG hw rfl hdn rfl (fun H => by simp only [aop, bF hx, jQ, hu, hf, hi, hz, cond_false, cH, uO, ho]) h
theorem nZ {s : TypeId} {f : Nat} {a : Addr} {fs : Array Field} {fd : Field} {ii : TI} (hw : gok G.ops l gd = true) (hdn : Nat.ble (d + 1) n = true) (hx : opv l x = some (.pointer (some a))) (hu : E.und s = some (.struct fs)) (hf : fs[f]? = some fd) (hi : E.inf fd.type = some ii)
 (hz : Nat.beq ii.size 0 = false) {k : Nat} (ho : fd.offset = k) (h : SO E G (i + 1) r Q (fr n t ((d, .pointer (some (a.add k))) :: l)) H0 A L) : SO E G i (⟨some d, .fieldAddr s x f, ty, ps, af, gd⟩ :: r) Q (fr n t l) H0 A L :=
 dG hw rfl hdn rfl (fun H => by simp only [aop, bF hx, jQ, hu, hf, hi, hz, cond_false, cH, ho]) h
theorem nF {kk : IntKind} {a : Addr} {m c j s : Nat} {e : TypeId} {ii : TI} {ta : TypeId} (hw : gok G.ops l gd = true) (hdn : Nat.ble (d + 1) n = true) (hx : opv l x = some (.slice (some a) m c)) (hy : opv l y = some (.int kk ((j : Nat) : Int))) (hu : E.und ta = some (.slice e)) (hi : E.inf e = some ii) (hs : ii.size = s)
 (hj : j < m) (h : SO E G (i + 1) r Q (fr n t ((d, .pointer (some (a.add (j * s)))) :: l)) H0 A L) : SO E G i (⟨some d, .indexAddr ta x y, ty, ps, af, gd⟩ :: r) Q (fr n t l) H0 A L :=
 dG hw rfl hdn rfl (fun H => by
  have : oE (.int kk ((j : Nat) : Int)) m = some j := by simp only [oE]; rw [if_pos ⟨by omega, by omega⟩]; simp
  simp only [aop, bF hx, bF hy, iS, hu, hi, this, cH, hs]) h
theorem iB {kk : IntKind} {b off m c j s o' : Nat} {e : TypeId} {ii : TI} {ta : TypeId} (hw : gok G.ops l gd = true) (hdn : Nat.ble (d + 1) n = true) (hx : opv l x = some (.slice (some ⟨b, off, none⟩) m c)) (hy : opv l y = some (.int kk ((j : Nat) : Int))) (hu : E.und ta = some (.slice e)) (hi : E.inf e = some ii) (hs : ii.size = s)
 (hj : j < m) (ho : off + j * s = o') (h : SO E G (i + 1) r Q (fr n t ((d, .pointer (some ⟨b, o', none⟩)) :: l)) H0 A L) : SO E G i (⟨some d, .indexAddr ta x y, ty, ps, af, gd⟩ :: r) Q (fr n t l) H0 A L :=
 dG hw rfl hdn rfl (fun H => by
  have : oE (.int kk ((j : Nat) : Int)) m = some j := by simp only [oE]; rw [if_pos ⟨by omega, by omega⟩]; simp
  simp only [aop, bF hx, bF hy, iS, hu, hi, this, cH, hs, uO, ho]) h
theorem eE {kk : IntKind} {s : ByteArray} {j : Nat} {b : UInt8} {ta : TypeId} (hw : gok G.ops l gd = true) (hdn : Nat.ble (d + 1) n = true) (hx : opv l x = some (.string s)) (hy : opv l y = some (.int kk ((j : Nat) : Int))) (hu : E.und ta = some .string) (hb : s.data.toList[j]? = some b)
 (h : SO E G (i + 1) r Q (fr n t ((d, .int .u8 b.toNat) :: l)) H0 A L) : SO E G i (⟨some d, .index ta x y, ty, ps, af, gd⟩ :: r) Q (fr n t l) H0 A L :=
 dG hw rfl hdn rfl (fun H => by
  have hj := lt_of_getElem? hb
  have : oE (.int kk ((j : Nat) : Int)) s.data.toList.length = some j := by simp only [oE]; rw [if_pos ⟨by omega, by omega⟩]; simp
  simp only [aop, bF hx, bF hy, aAc, hu, this, cH, hb]) h
theorem iH {c : Call} {ta e : TypeId} {a : Option Addr} {m k : Nat} (hw : gok G.ops l gd = true) (hdn : Nat.ble (d + 1) n = true) (hc : c.callee = .builtin .len) (ha : c.args.toList = [x]) (ht : c.argTypes.toList = [ta]) (hx : opv l x = some (.slice a m k)) (hu : E.und ta = some (.slice e))
 (h : SO E G (i + 1) r Q (fr n t ((d, .int .i64 ((m : Nat) : Int)) :: l)) H0 A L) : SO E G i (⟨some d, .call c, ty, ps, af, gd⟩ :: r) Q (fr n t l) H0 A L :=
 dG hw rfl hdn (by simp only [hP, hc, ht, hu]) (fun H => by simp only [aop, hc, ha, ht, bF hx, aBg, hu, cH]) h
theorem eC {c : Call} {ta : TypeId} {s : ByteArray} (hw : gok G.ops l gd = true) (hdn : Nat.ble (d + 1) n = true) (hc : c.callee = .builtin .len) (ha : c.args.toList = [x]) (ht : c.argTypes.toList = [ta]) (hx : opv l x = some (.string s)) (hu : E.und ta = some .string)
 (h : SO E G (i + 1) r Q (fr n t ((d, .int .i64 ((s.data.toList.length : Nat) : Int)) :: l)) H0 A L) : SO E G i (⟨some d, .call c, ty, ps, af, gd⟩ :: r) Q (fr n t l) H0 A L :=
 dG hw rfl hdn (by simp only [hP, hc, ht, hu]) (fun H => by simp only [aop, hc, ha, ht, bF hx, aBg, hu, cH]) h
theorem iY {parts : Array (Nat × Operand)} {vs : List (Nat × Value)} {ta : TypeId} (hw : gok G.ops l gd = true) (hdn : Nat.ble (d + 1) n = true) (hp : Opps l parts.toList vs) (hb : aAo E ta vs = some v) (h : SO E G (i + 1) r Q (fr n t ((d, v) :: l)) H0 A L) :
 SO E G i (⟨some d, .build ta parts, ty, ps, af, gd⟩ :: r) Q (fr n t l) H0 A L :=
 dG hw rfl hdn rfl (fun H => by simp only [aop, hp.ok, hb, cH]) h
theorem qO {sT dT : TypeId} {ds : TypeDesc} {k k' : IntKind} {a b : Int} (hw : gok G.ops l gd = true) (hdn : Nat.ble (d + 1) n = true) (hx : opv l x = some (.int k' a)) (hs : E.und sT = some ds) (hd : E.und dT = some (.int k)) (hb : k.wrap a = b) (h : SO E G (i + 1) r Q (fr n t ((d, .int k b) :: l)) H0 A L) :
 SO E G i (⟨some d, .convert sT dT x, ty, ps, af, gd⟩ :: r) Q (fr n t l) H0 A L :=
 dG hw rfl hdn (by simp only [hP, hd]) (fun H => by simp only [aop, bF hx, mH, hs, hd, hb]) h
def rL (E : Env P) (S H0 : AH) (A0 A : Nat → Prop) (L : OL) (ty : TypeId) (a : Addr) (v : Value) : Prop := ∀ H, HS S H0 A0 A L H → iI E ty a H = some v
theorem cS {N off sz : Nat} {cs : List Value} {ex : Bool} {dd : TypeDesc} (hu : E.und ty = some dd) (hd : kO dd = false) (hm : (N, AObj.cells cs sz ex) ∈ L) (hv : cs[off]? = some v) : rL E S H0 A0 A L ty ⟨2 * N + 1, off, none⟩ v := fun H hH => by
 simp only [iI, hu, hd, cond_false]
 rw [aHz (hH.own _ hm).1, hv]
theorem cM {N off sz s : Nat} {cs xs : List Value} {ex : Bool} {dd : TypeDesc} {ii : TI} (hu : E.und ty = some dd) (hd : kO dd = true) (hi : E.inf ty = some ii) (hs : ii.size = s) (hm : (N, AObj.cells cs sz ex) ∈ L) (hle : off + s ≤ cs.length) (hv : (cs.drop off).take s = xs) : rL E S H0 A0 A L ty ⟨2 * N + 1, off, none⟩ (.agg ⟨xs⟩) := fun H hH => by
 simp only [iI, hu, hd, cond_true, hi, hs]
 rw [fC (hH.own _ hm).1 off s none hle, hv]
theorem cG {a : Addr} {dd : TypeDesc} (hu : E.und ty = some dd) (hd : kO dd = false) (hA : InA A a.block) (hl : aload H0 a = some v) : rL E S H0 A0 A L ty a v := fun H hH => by
 simp only [iI, hu, hd, cond_false]
 rw [hH.gr.aload hA, hl]
theorem cF {a : Addr} {dd : TypeDesc} {ii : TI} {s : Nat} {xs : List Value} (hu : E.und ty = some dd) (hd : kO dd = true) (hi : E.inf ty = some ii) (hs : ii.size = s) (hA : InA A a.block) (hl : aloads H0 a s = some xs) : rL E S H0 A0 A L ty a (.agg ⟨xs⟩) := fun H hH => by
 simp only [iI, hu, hd, cond_true, hi, hs]
 rw [hH.gr.aloads hA, hl]
theorem bL {a : Addr} {ta : TypeId} (hw : gok G.ops l gd = true) (hdn : Nat.ble (d + 1) n = true) (hx : opv l x = some (.pointer (some a))) (hl : rL E G.S (qH G H0) G.A0 (qA G A) (qL G L) ta a v) (h : SO E G (i + 1) r Q (fr n t ((d, v) :: l)) H0 A L) :
 SO E G i (⟨some d, .load ta x, ty, ps, af, gd⟩ :: r) Q (fr n t l) H0 A L :=
 nP rfl hw rfl hdn (fun H hH => by simp only [aop, bF hx, hl H hH, cH]) h
theorem aHp {ta : TypeId} {lo hi mx : Option Operand} {s : ByteArray} {p q m : Nat} (hw : gok G.ops l gd = true) (hdn : Nat.ble (d + 1) n = true) (hx : opv l x = some (.string s)) (hu : E.und ta = some .string) (hmx : mx = none)
 (hb : gH s.data.toList.length s.data.toList.length (lo.map (bS (fr n t l))) (hi.map (bS (fr n t l))) none = some (p, q, m))
 (h : SO E G (i + 1) r Q (fr n t ((d, .string ⟨⟨(s.data.toList.take q).drop p⟩⟩) :: l)) H0 A L) : SO E G i (⟨some d, .slice ta x lo hi mx, ty, ps, af, gd⟩ :: r) Q (fr n t l) H0 A L :=
 nP rfl hw rfl hdn (fun H hH => by subst hmx; simp only [aop, bF hx, xE, hu, Option.map_none, hb, cH]) h
theorem oB {o : Oper} {f : Nat → Value} {ob : AObj} (hw : gok G.ops l o.guard = true) (hd : o.dst = some d) (hdn : Nat.ble (d + 1) n = true) (hm : G.D = true → i ∈ G.ms) (hop : ∀ H, HS G.S H0 G.A0 A L H → aop E (bS (fr n t l)) o.op H = some (f H.nx, fT H ob))
 (h : ∀ N, SO E G (i + 1) r Q (fr n t ((d, f N) :: l)) H0 A ((N, ob) :: L)) : SO E G i (o :: r) Q (fr n t l) H0 A L :=
 mP hw hd hdn hm fun hD H hH => ⟨_, _, H0, A, (H.nx, ob) :: L, .inl (hop H hH), hH.push ob, hD.push _, h H.nx⟩
theorem aRp {ta : TypeId} {cs : List Value} (hw : gok G.ops l gd = true) (hdn : Nat.ble (d + 1) n = true) (hm : G.D = true → i ∈ G.ms) (hx : opv l x = some v) (hc : v.cells.toList = cs) (h : ∀ N, SO E G (i + 1) r Q (fr n t ((d, .pointer (some ⟨2 * N + 1, 0, none⟩)) :: l)) H0 A ((N, .cells cs (fN E ta) true) :: L)) :
 SO E G i (⟨some d, .box ta x, ty, ps, af, gd⟩ :: r) Q (fr n t l) H0 A L :=
 oB (f := fun N => .pointer (some ⟨2 * N + 1, 0, none⟩)) hw rfl hdn hm (fun H hH => by simp only [aop, bF hx, aEb, aEj, hc]) h
theorem qJ {ta : TypeId} {cs : List Value} (hw : gok G.ops l gd = true) (hdn : Nat.ble (d + 1) n = true) (hm : G.D = true → i ∈ G.ms) (hx : opv l x = some (.agg ⟨cs⟩)) (h : ∀ N, SO E G (i + 1) r Q (fr n t ((d, .pointer (some ⟨2 * N + 1, 0, none⟩)) :: l)) H0 A ((N, .cells cs (fN E ta) true) :: L)) :
 SO E G i (⟨some d, .box ta x, ty, ps, af, gd⟩ :: r) Q (fr n t l) H0 A L := aRp hw hdn hm hx rfl h
theorem cZ {ta : TypeId} {ii : TI} {zv : Value} {cs : List Value} (hw : gok G.ops l gd = true) (hdn : Nat.ble (d + 1) n = true) (hm : G.D = true → i ∈ G.ms) (hi : E.inf ta = some ii) (hz : ii.zero = some zv) (hc : (ext zv).cells.toList = cs) (h : ∀ N, SO E G (i + 1) r Q (fr n t ((d, .pointer (some ⟨2 * N + 1, 0, none⟩)) :: l)) H0 A ((N, .cells cs (fN E ta) true) :: L)) :
 SO E G i (⟨some d, .alloc ta, ty, ps, af, gd⟩ :: r) Q (fr n t l) H0 A L :=
 oB (f := fun N => .pointer (some ⟨2 * N + 1, 0, none⟩)) hw rfl hdn hm (fun H hH => by simp only [aop, wT, hi, hz, aEb, aEj, hc]) h
theorem aDl {ta : TypeId} (hw : gok G.ops l gd = true) (hdn : Nat.ble (d + 1) n = true) (hm : G.D = true → i ∈ G.ms) (h : ∀ N, SO E G (i + 1) r Q (fr n t ((d, .map (some (2 * N + 1))) :: l)) H0 A ((N, .map [] 0) :: L)) :
 SO E G i (⟨some d, .makeMap ta none, ty, ps, af, gd⟩ :: r) Q (fr n t l) H0 A L :=
 oB (f := fun N => .map (some (2 * N + 1))) hw rfl hdn hm (fun H hH => by simp only [aop, qG]) h
theorem dN {ta e : TypeId} {len : Nat} {parts : Array (Nat × Operand)} {vs : List (Nat × Value)} {ii : TI} {zv : Value} {out : List Value} (hw : gok G.ops l gd = true) (hdn : Nat.ble (d + 1) n = true) (hm : G.D = true → i ∈ G.ms) (hp : Opps l parts.toList vs) (hu : E.und ta = some (.slice e)) (hi : E.inf e = some ii)
 (hb : (Nat.ble (len * ii.size) 16777216 && !(Nat.beq ii.size 0)) = true) (hz : ii.zero = some zv) (hf : uA (fun j => some (j * ii.size, ii.size)) (dJ (jV (if len * ii.size = 0 then #[] else zv.cells) (len * ii.size))) vs = some out) (hl : Nat.beq out.length (len * ii.size) = true) {s : Nat} (hs : ii.size = s)
 (h : ∀ N, SO E G (i + 1) r Q (fr n t ((d, .slice (some ⟨2 * N + 1, 0, none⟩) len len) :: l)) H0 A ((N, .cells out s true) :: L)) : SO E G i (⟨some d, .buildSlice ta len parts, ty, ps, af, gd⟩ :: r) Q (fr n t l) H0 A L :=
 oB (f := fun N => .slice (some ⟨2 * N + 1, 0, none⟩) len len) hw rfl hdn hm (fun H hH => by subst hs; simp only [aop, hp.ok, fZ, hu, hi, hb, cond_true, hz, hf, hl, eD]) h
theorem aCk {ta : TypeId} {N off sz : Nat} {cs cs' vs : List Value} {ex : Bool} {ii : TI} (hw : gok G.ops l gd = true) (hm : G.D = true → i ∈ G.ms) (hx : opv l x = some (.pointer (some ⟨2 * N + 1, off, none⟩))) (hy : opv l y = some v) (hi : E.inf ta = some ii) (hc : v.cells.toList = vs) (hs : vs.length = ii.size)
 (h1 : cO vs = true) (hu : Upd N (.cells cs sz ex) (.cells cs' sz ex) L L') (hcs : cs.take off ++ (vs ++ cs.drop (off + vs.length)) = cs') (hle : off + vs.length ≤ cs.length) (hD : G.D = true → G.Lw.Sublist L')
 (h : SO E G (i + 1) r Q (fr n t l) H0 A L') : SO E G i (⟨none, .store ta x y, ty, ps, af, gd⟩ :: r) Q (fr n t l) H0 A L :=
 aFu hw rfl hm fun hDs H hH => by
  refine ⟨undef, _, H0, A, L', .inl ?_, hH.set hu, hDs.list hD, h⟩
  have hg := (hH.own _ hu.mem).1
  have hb : Nat.beq vs.length ii.size = true := by rw [hs]; simp
  simp only [aop, bF hx, bF hy, jG, hi, hc, hb, cond_true]
  rw [aCi hg off none hle h1, hcs]
theorem aGu (h : v.oneCell' = true) : v.cells.toList = [v] := by
 cases v <;> first | rfl | (simp [Value.oneCell'] at h)
theorem cD {cs vs : List Value} (h : vs.length = cs.length) : cs.take 0 ++ (vs ++ cs.drop (0 + vs.length)) = vs := by
 rw [Nat.zero_add, h]; simp
theorem cQ {ta : TypeId} {N off sz : Nat} {cs cs' vs : List Value} {ex : Bool} {ii : TI} (hw : gok G.ops l gd = true) (hm : G.D = true → i ∈ G.ms) (hx : opv l x = some (.pointer (some ⟨2 * N + 1, off, none⟩))) (hy : opv l y = some (.agg ⟨vs⟩)) (hi : E.inf ta = some ii) (hs : vs.length = ii.size)
 (h1 : cO vs = true) (hu : Upd N (.cells cs sz ex) (.cells cs' sz ex) L L') (hcs : cs.take off ++ (vs ++ cs.drop (off + vs.length)) = cs') (hle : off + vs.length ≤ cs.length) (hD : G.D = true → G.Lw.Sublist L')
 (h : SO E G (i + 1) r Q (fr n t l) H0 A L') : SO E G i (⟨none, .store ta x y, ty, ps, af, gd⟩ :: r) Q (fr n t l) H0 A L :=
 aCk hw hm hx hy hi rfl hs h1 hu hcs hle hD h
theorem jL {ta : TypeId} {N off sz : Nat} {cs cs' : List Value} {ex : Bool} {ii : TI} (hw : gok G.ops l gd = true) (hm : G.D = true → i ∈ G.ms) (hx : opv l x = some (.pointer (some ⟨2 * N + 1, off, none⟩))) (hy : opv l y = some v) (hi : E.inf ta = some ii) (hs : ii.size = 1)
 (h1 : v.oneCell' = true) (hu : Upd N (.cells cs sz ex) (.cells cs' sz ex) L L') (hcs : cs.take off ++ ([v] ++ cs.drop (off + 1)) = cs') (hle : off + 1 ≤ cs.length) (hD : G.D = true → G.Lw.Sublist L')
 (h : SO E G (i + 1) r Q (fr n t l) H0 A L') : SO E G i (⟨none, .store ta x y, ty, ps, af, gd⟩ :: r) Q (fr n t l) H0 A L :=
 aCk hw hm hx hy hi (aGu h1) (by rw [hs]; rfl) (by simp [cO, h1]) hu hcs hle hD h
theorem bO {c : Call} {g : FuncId} {vs : List Value} (hw : gok G.ops l gd = true) (hdn : Nat.ble (d + 1) n = true) (hm : G.D = true → i ∈ G.ms) (hc : c.callee = .value (.func g)) (hg : ∃ fn, E.fn g = some fn) (ha : Opvs l c.args.toList vs) (hk : ∀ H, HS G.S H0 G.A0 A L H → XCall P g vs H fun u H' => u = v ∧ Kept H.nx H H')
 (h : SO E G (i + 1) r Q (fr n t ((d, v) :: l)) H0 A L) : SO E G i (⟨some d, .call c, ty, ps, af, gd⟩ :: r) Q (fr n t l) H0 A L :=
 mP hw rfl hdn hm fun hD H hH => by
  obtain ⟨fn, hg⟩ := hg
  obtain ⟨u, H', ⟨rfl, hkept⟩, hw0, hcall⟩ := hk H hH
  refine ⟨u, H', H0, A, L, .inr ⟨hw0, g, vs, ?_, hcall⟩, hH.later hkept, hD, h⟩
  simp only [dE, hc, oC, hg, ha.ok, List.append_nil, List.nil_append]
end
section
variable {P : Program} {E : Env P} {n : Nat} {t : Tr Value} {l : List (Nat × Value)} {S H0 : AH} {A0 A : Nat → Prop} {L : OL} {R : Value → AH → Prop} {rs : List ResultVar}
theorem aV {names : ∀ (f : Nat) (F : Func), P.funcs[f]? = some F → (F.name == "runtime.NumGoroutine") = false} {eqT : Nat → Bool} {h : ∀ t, eqT t = true → P.stoodInHeld t = false ∧ P.eqGuardType P.depth t = false} {g : Nat} {F : Func} {c : Code} {n : Nat} {rs : List ResultVar} (hF : P.funcs[g]? = some F) (hb : F.body = some c) (hn : F.ntmps = n) (hr : F.results.toList = rs) :
 (Env.own P names eqT h).fn g = some ⟨n, rs, c⟩ := by
 simp only [Env.own, hF, hb, hn, hr]
theorem fD {g : FuncId} {c : Code} {args : List Value} (hg : E.fn g = some ⟨n, rs, c⟩) (hA : ∀ j, A0 j → j < S.nx) (hf : mB args n = fr n .nil l) (h : SX P c (aLo E rs R) (fr n .nil l) S A0 S A0 []) : XCall P g args S R :=
 XCall.body E hg (by rw [hf]; exact h S (HS.start hA))
inductive ResOk (E : Env P) (S H0 : AH) (A0 A : Nat → Prop) (L : OL) (l : List (Nat × Value)) : List ResultVar → List Value → Prop
 | nil : ResOk E S H0 A0 A L l [] []
 | tmp {s : Nat} {v : Value} {rs : List ResultVar} {vs : List Value} (h : look s l = some v) (k : ResOk E S H0 A0 A L l rs vs) : ResOk E S H0 A0 A L l (.tmp s :: rs) (v :: vs)
 | cell {s : Nat} {ty : TypeId} {a : Addr} {v : Value} {rs : List ResultVar} {vs : List Value} (h : look s l = some (.pointer (some a))) (hl : rL E S H0 A0 A L ty a v) (k : ResOk E S H0 A0 A L l rs vs) : ResOk E S H0 A0 A L l (.cell s ty :: rs) (v :: vs)
theorem ResOk.ok {vs : List Value} (h : ResOk E S H0 A0 A L l rs vs) {H : AH} (hH : HS S H0 A0 A L H) : cJ E (fr n t l) H rs = some vs := by
 induction h with
 | nil => rfl
 | tmp h k ih => simp only [cJ, rA, wY, h, ih]
 | cell h hl k ih => simp only [cJ, rA, wY, h, hl H hH, ih]
theorem eS {vs : List Value} (hr : ResOk E S H0 A0 A L l rs vs) {v : Value} (hv : dX vs = v) (h : ∀ H, HS S H0 A0 A L H → R v H) : SK (aLo E rs R) .ret (fr n t l) S A0 H0 A L := fun H hH => ⟨.inr rfl, vs, hr.ok hH, by rw [hv]; exact h H hH⟩
theorem bH {r : ResultVar} {v : Value} (hr : ResOk E S H0 A0 A L l [r] [v]) (h : ∀ H, HS S H0 A0 A L H → R v H) : SK (aLo E [r] R) .ret (fr n t l) S A0 H0 A L := eS hr rfl h
end
end Go.AM
namespace Go.AM
open Go.RowKit
variable [σ : Sg]
section
variable {A : Nat → Prop} {H : AH}
structure RowD (A : Nat → Prop) (H : AH) (b : Nat) (ks : List Kd) (l : List (List CT)) (a : Option Addr) (cap : Nat) : Prop where
 len : l.length ≤ 140737488351232
 bytes : l.length * b ≤ 140737488351232
 le : l.length ≤ cap
 nil : a = none → cap = 0
 inA : ∀ p, a = some p → InA A p.block
 sz : ∀ p, a = some p → SzA H p ks.length
 at' : ∀ (i : Nat), i < l.length → ∃ p xs c, a = some p ∧ InA A p.block ∧ l[i]? = some c ∧ aloads H (p.add (i * ks.length)) ks.length = some xs ∧ CellsA A H ks xs c
theorem RowD.gr {A' : Nat → Prop} {H' : AH} {b : Nat} {ks : List Kd} {l : List (List CT)} {a : Option Addr} {cap : Nat} (h : RowD A H b ks l a cap) (g : Gr A H A' H') : RowD A' H' b ks l a cap :=
 ⟨h.len, h.bytes, h.le, h.nil, fun p hp => g.inA (h.inA p hp), fun p hp => g.szA (h.inA p hp) (h.sz p hp), fun i hi => by
  obtain ⟨p, xs, c, h1, h2, h3, h4, h5⟩ := h.at' i hi
  exact ⟨p, xs, c, h1, g.inA h2, h3, by rw [g.aloads (by rw [gC]; exact h2)]; exact h4, h5.gr g⟩⟩
theorem RowD.cell {b : Nat} {ks : List Kd} {l : List (List CT)} {a : Option Addr} {cap : Nat} (h : RowD A H b ks l a cap) : CellA A H (.row b ks) (.slice a l.length cap) (.row l) := by
 simp only [CellA]
 refine ⟨h.len, h.bytes, ?_⟩
 cases a with
 | none =>
  left
  have : l.length = 0 := by
   cases e : l.length with
   | zero => rfl
   | succ n =>
    obtain ⟨p, xs, c, h1, _⟩ := h.at' 0 (by omega)
    cases h1
  have hl : l = [] := List.eq_nil_of_length_eq_zero this
  rw [h.nil rfl, this]; exact ⟨rfl, hl⟩
 | some p =>
  right
  refine ⟨p, cap, rfl, h.le, ⟨h.inA p rfl, h.sz p rfl⟩, fun i c hc => ?_⟩
  obtain ⟨p', xs, c', h1, h2, h3, h4, h5⟩ := h.at' i (lt_of_getElem? hc)
  cases h1
  rw [h3] at hc; cases hc
  exact ⟨xs, h4, h5⟩
end
theorem aT {off n m : Nat} {x : Nat → Value} {cs : List Value} (h : Nat.ble (off + n) m = true) (hc : cs.length = m) : off + (cellsOf n x).length ≤ cs.length := by
 rw [aI, hc]; exact Nat.le_of_ble_eq_true h
def nJ (n : Nat) (c : Nat → CT) : List CT := (List.range n).map c
theorem aNd {cs : List CT} {n : Nat} (h : cs.length = n) : ∃ c : Nat → CT, cs = nJ n c := by
 refine ⟨fun i => cs.getD i (.row []), ?_⟩
 apply List.ext_getElem
 ·simp [nJ, h]
 ·intro i h1 h2
  simp [nJ, h1]
theorem yD {n i : Nat} {c : Nat → CT} (h : i < n) : (nJ n c)[i]? = some (c i) := by simp [nJ, h]
theorem zT (n : Nat) (c : Nat → CT) : (nJ n c).length = n := by simp [nJ]
section
variable {A A' : Nat → Prop} {H H' : AH}
def Pts (A : Nat → Prop) (H : AH) (ks : List Kd) (x : Nat → Value) (c : Nat → CT) : Prop := ∀ i k, ks[i]? = some k → CellA A H k (x i) (c i)
theorem Pts.gr {ks : List Kd} {x : Nat → Value} {c : Nat → CT} (h : Pts A H ks x c) (g : Gr A H A' H') : Pts A' H' ks x c := fun i k hk => CellA.gr g _ _ _ (h i k hk)
theorem CellsA.pts {ks : List Kd} {x : Nat → Value} {c : Nat → CT} {n : Nat} (h : CellsA A H ks (cellsOf n x) (nJ n c)) : Pts A H ks x c := fun i k hk => by
 have hi := lt_of_getElem? hk
 have hn := h.len.1
 rw [aI] at hn
 exact h.at hk (aL (by simp [Nat.blt]; omega)) (yD (by omega))
theorem Pts.cells {ks : List Kd} {x : Nat → Value} {c : Nat → CT} {n : Nat} (h : Pts A H ks x c) (hn : ks.length = n) : CellsA A H ks (cellsOf n x) (nJ n c) := by
 refine CellsA.mk (by rw [aI, hn]) (by rw [zT, hn]) fun i k y d h1 h2 h3 => ?_
 have hi := lt_of_getElem? h1
 rw [aL (by simp [Nat.blt]; omega)] at h2
 rw [yD (by omega)] at h3
 cases h2; cases h3
 exact h i k h1
theorem CellsA.fn {ks : List Kd} {xs : List Value} {cs : List CT} {n : Nat} (h : CellsA A H ks xs cs) (hn : ks.length = n) : ∃ x c, xs = cellsOf n x ∧ cs = nJ n c ∧ Pts A H ks x c := by
 obtain ⟨x, rfl⟩ := aDw (h.len.1.trans hn)
 obtain ⟨c, rfl⟩ := aNd (h.len.2.trans hn)
 exact ⟨x, c, rfl, rfl, h.pts⟩
theorem Pts.part {ks : List Kd} {x : Nat → Value} {c : Nat → CT} (h : Pts A H ks x c) (off m : Nat) (hm : Nat.ble (off + m) ks.length = true) : CellsA A H ((ks.drop off).take m) (cellsOf m fun i => x (off + i)) (nJ m fun i => c (off + i)) := by
 have hm' := Nat.le_of_ble_eq_true hm
 refine Pts.cells (fun i k hk => ?_) (by simp; omega)
 rw [List.getElem?_take] at hk
 split at hk
 ·rw [List.getElem?_drop] at hk
  exact h _ k hk
 ·cases hk
end
section
variable {A : Nat → Prop} {H : AH}
theorem aQn {N sz : Nat} {cs : List Value} {ex : Bool} (hg : H.tr.get N = some (.cells cs sz ex)) (hA : A N) {b : Nat} {ks : List Kd} (hk : ks.length = sz) {l : List (List CT)} {m cap : Nat} (hm : m = l.length) (hlen : l.length * sz ≤ cs.length)
 (h : ∀ (i : Nat) c, l[i]? = some c → CellsA A H ks ((cs.drop (i * sz)).take sz) c) (hcap : l.length ≤ cap) (h1 : l.length ≤ 140737488351232) (h2 : l.length * b ≤ 140737488351232) : CellA A H (.row b ks) (.slice (some ⟨2 * N + 1, 0, none⟩) m cap) (.row l) := by
 subst hm
 simp only [CellA]
 refine ⟨h1, h2, .inr ⟨_, cap, rfl, hcap, ⟨InA.own hA, fun _ => ⟨cs, ex, by rw [cR, hk]; exact hg⟩⟩, fun i c hc => ?_⟩⟩
 have hi := lt_of_getElem? hc
 refine ⟨_, ?_, h i c hc⟩
 rw [nG _ rfl, hk, fC hg]
 ·simp only [Nat.zero_add]
 ·simp only [Nat.zero_add]
  have : (i + 1) * sz ≤ l.length * sz := Nat.mul_le_mul_right _ hi
  rw [Nat.add_mul, Nat.one_mul] at this
  omega
end
def CT.str : CT → List UInt8
 | .v (.string s) => s.data.toList
 | _ => []
inductive OpO (l : List (Nat × Value)) : Option Operand → Option Value → Prop
 | none : OpO l none none
 | some {x : Operand} {v : Value} (h : opv l x = some v) : OpO l (some x) (some v)
theorem OpO.ok {n : Nat} {t : Tr Value} {l : List (Nat × Value)} {x : Option Operand} {v : Option Value} (h : OpO l x v) : x.map (bS (fr n t l)) = v := by
 cases h with
 | none => rfl
 | some h => rw [Option.map_some, bF h]
theorem hU {len cap a b : Nat} {k k' : IntKind} (h1 : a ≤ b) (h2 : b ≤ cap) : gH len cap (some (.int k (a : Int))) (some (.int k' (b : Int))) none = some (a, b, cap) := by
 have e1 : fQ none cap cap = some cap := rfl
 have e2 : fQ (some (Value.int k' (b : Int))) 0 cap = some b := by simp only [fQ]; rw [if_pos ⟨by omega, by omega⟩]; simp
 have e3 : fQ (some (Value.int k (a : Int))) 0 b = some a := by simp only [fQ]; rw [if_pos ⟨by omega, by omega⟩]; simp
 simp only [gH, e1, e2, e3]
theorem xY {len cap b : Nat} {k' : IntKind} (h2 : b ≤ cap) : gH len cap none (some (.int k' (b : Int))) none = some (0, b, cap) := by
 have e1 : fQ none cap cap = some cap := rfl
 have e2 : fQ (some (Value.int k' (b : Int))) 0 cap = some b := by simp only [fQ]; rw [if_pos ⟨by omega, by omega⟩]; simp
 have e3 : fQ none 0 b = some 0 := rfl
 simp only [gH, e1, e2, e3]
section
variable {P : Program} {E : Env P} {G : RG} {i n d : Nat} {r : List Oper} {Q : Fr → AH → Prop} {t : Tr Value} {l : List (Nat × Value)} {S H0 : AH} {A0 A : Nat → Prop} {L L' : OL} {v u : Value}
 {ty : TypeId} {ps : String} {af : Array Edge} {gd : Option (Nat × Bool)} {x y z : Operand}
theorem lP {ta : TypeId} {lo hi : Option Operand} {vl vh : Option Value} {s : ByteArray} {p q m : Nat} (hw : gok G.ops l gd = true) (hdn : Nat.ble (d + 1) n = true) (hx : opv l x = some (.string s)) (hu : E.und ta = some .string) (h1 : OpO l lo vl) (h2 : OpO l hi vh)
 (hb : gH s.data.toList.length s.data.toList.length vl vh none = some (p, q, m))
 (h : SO E G (i + 1) r Q (fr n t ((d, .string ⟨⟨(s.data.toList.take q).drop p⟩⟩) :: l)) H0 A L) : SO E G i (⟨some d, .slice ta x lo hi none, ty, ps, af, gd⟩ :: r) Q (fr n t l) H0 A L :=
 aHp hw hdn hx hu rfl (by rw [h1.ok, h2.ok]; exact hb) h
end
end Go.AM
namespace Go.AM
open Go.RowKit
variable [σ : Sg]
theorem aHl [Pins] {P : Program} (E : Env P) {φ : List Place} {H H' : AH} {w : World} (R : Rel φ H w) {ρ ρ' : Operand → Value} (hρ : ∀ x, VR φ (ρ x) (ρ' x)) {o : Oper} {v : Value} (hq : dI E o.op = true) (h : aop E ρ o.op H = some (v, H')) :
 ∃ v', VR φ v v' ∧ (execOp ρ' o).run P w = .ok (.value v') w := by
 have here : ∀ {v v' : Value}, VR φ v v' → (execOp ρ' o).run P w = .ok (.value v') w → ∃ v', VR φ v v' ∧ (execOp ρ' o).run P w = .ok (.value v') w := fun hv hr => ⟨_, hv, hr⟩
 unfold aop at h
 split at h <;> rename_i hop <;> first | (rw [hop] at hq; simp only [dI] at hq; cases hq; done) | (cases h; done) | rw [hop] at hq
 ·cases h; exact here (hρ _) (by simp [execOp, hop])
 ·cases h; exact here (hρ _) (by simp [execOp, hop])
 ·rename_i c a b
  split at h
  ·rename_i hc
   cases h
   have := hρ c; rw [hc] at this
   generalize hcc : ρ' c = cc at this
   cases this
   exact here (hρ _) (by simp [execOp, hop, hcc, asBool])
  ·rename_i hc
   cases h
   have := hρ c; rw [hc] at this
   generalize hcc : ρ' c = cc at this
   cases this
   exact here (hρ _) (by simp [execOp, hop, hcc, asBool])
  ·cases h
 ·rename_i t ps
  obtain ⟨hh, rfl⟩ := aJ h
  replace h := hh
  obtain ⟨v', h1, h2⟩ := yI E (parts' := ps.toList.map fun x => (x.1, ρ' x.2)) (by simp) (vU hρ ps.toList) h w
  refine here h1 ?_
  have : (ps.map fun (x : Nat × Operand) => (x.1, ρ' x.2)) = ⟨ps.toList.map fun x => (x.1, ρ' x.2)⟩ := by rw [← Array.toList_inj]; simp
  simp only [execOp, hop, Sem.run_bind, this, h2, Result.andThen_ok, Sem.run_pure]
 ·rename_i t x
  split at h
  ·rename_i a ha
   obtain ⟨hh, rfl⟩ := aJ h
   replace h := hh
   have := hρ x; rw [ha] at this
   generalize hcc : ρ' x = cc at this
   cases this with
   | ptr hA =>
    obtain ⟨v', h1, h2⟩ := nA E R hA h
    exact here h2 (by simp [execOp, hop, hcc, Instr.loadAt, Instr.sureAddr, h1])
  ·cases h
 ·rename_i x
  split at h
  ·rename_i a ha
   cases h
   have := hρ x; rw [ha] at this
   generalize hcc : ρ' x = cc at this
   cases this with
   | ptr hA => exact here (.ptr hA) (by simp [execOp, hop, hcc])
  ·rename_i g a b ha
   cases h
   have := hρ x; rw [ha] at this
   generalize hcc : ρ' x = cc at this
   cases this with
   | func fn q1 q2 q3 q4 => exact here (.func _ q1 q2 q3 q4) (by simp [execOp, hop, hcc])
  ·cases h
 ·rename_i op t x y yt
  obtain ⟨hh, rfl⟩ := aJ h
  replace h := hh
  obtain ⟨v', h1, h2⟩ := aAk E (hρ x) (hρ y) h x y w
  refine here h1 ?_
  simp only [execOp, hop]
  rw [Sem.run_bind, h2]; rfl
 ·rename_i op t x
  obtain ⟨hh, rfl⟩ := aJ h
  replace h := hh
  obtain ⟨v', h1, h2⟩ := aFx E (hρ x) h w
  exact here h1 (by simp [execOp, hop, h2])
 ·rename_i s d x
  simp only [dI] at hq
  split at hq
  ·rename_i kk hd
   have hx := hρ x
   unfold mH at h
   split at h
   ·rename_i dd k k2 n hs hd2 hxx
    cases h
    rw [hxx] at hx
    generalize hcc : ρ' x = cc at hx
    cases hx
    refine here (.int _ _) ?_
    simp only [execOp, hop, hcc]
    cases dd <;> simp [convert, aO E hs, aO E hd2, Conv.intToInt]
   ·rename_i hd2 _ ; rw [hd] at hd2; cases hd2
   ·rename_i hd2 _ ; rw [hd] at hd2; cases hd2
   ·rename_i hd2 _ ; rw [hd] at hd2; cases hd2
   ·rename_i hd2 _; rw [hd] at hd2; cases hd2
   ·first | (rename_i hd2 _; rw [hd] at hd2; cases hd2; done) | (rename_i hd2; rw [hd] at hd2; cases hd2; done)
   ·first | (rename_i hd2 _; rw [hd] at hd2; cases hd2; done) | (rename_i hd2; rw [hd] at hd2; cases hd2; done)
   ·cases h
  ·rename_i hd
   have hx := hρ x
   have back : ∀ {v' : Value}, VR φ v v' → (convert s d (ρ' x)).run P w = .ok v' w → ∃ v', VR φ v v' ∧ (execOp ρ' o).run P w = .ok (.value v') w := fun hv hr => here hv (by simp only [execOp, hop]; rw [Sem.run_bind, hr]; rfl)
   generalize ρ x = x0 at h hx
   generalize ρ' x = x1 at hx back
   unfold mH at h
   split at h
   ·first | (rename_i hd2; rw [hd] at hd2; cases hd2; done) | (rename_i hd2 _; rw [hd] at hd2; cases hd2; done)
   ·rename_i dd s2 hs hd2
    cases h; cases hx
    refine back (.string _) ?_
    cases dd <;> simp [convert, aO E hs, aO E hd]
   ·first | (rename_i hd2; rw [hd] at hd2; cases hd2; done) | (rename_i hd2 _; rw [hd] at hd2; cases hd2; done)
   ·rename_i e base l c hs hd2
    split at h
    ·rename_i he
     split at h
     ·cases h; cases hx
      refine back (.string _) ?_
      rw [run_convert_bytes_string w s d e _ _ _ (E.und_ok _ _ hs) (E.und_ok _ _ he) (E.und_ok _ _ hd)]
      rfl
     ·rename_i a
      split at h
      ·rename_i cs hcs
       split at h
       ·rename_i bs hbs
        cases h
        cases hx with
        | @slc _ a' _ _ c' hsl =>
         have hA : l = 0 ∨ ARel φ a a' := by
          rcases hsl with ⟨_, _, hA⟩ | ⟨_, h1, h2, h3 | ⟨hA, _⟩⟩
          ·exact .inr hA
          ·left; omega
          ·exact .inr hA
         obtain ⟨l', h1, h2, h3⟩ := lE R hA hcs
         obtain ⟨ns, rfl, rfl⟩ := nU h1 hbs
         have hrun := run_loadCells_list (P := P) w a' _ h3
         rw [h2] at hrun
         refine back (.string _) ?_
         rw [run_convert_bytes_string w s d e _ _ _ (E.und_ok _ _ hs) (E.und_ok _ _ he) (E.und_ok _ _ hd), run_bytesToString w a' l c' ns hrun, vJ]
         first | rfl | simp
       ·cases h
      ·cases h
    ·cases h
   ·first | (rename_i hd2; rw [hd] at hd2; cases hd2; done) | (rename_i hd2 _; rw [hd] at hd2; cases hd2; done)
   ·first | (rename_i hd2 _; rw [hd] at hd2; cases hd2; done) | (rename_i hd2; rw [hd] at hd2; cases hd2; done)
   ·first | (rename_i hd2 _; rw [hd] at hd2; cases hd2; done) | (rename_i hd2; rw [hd] at hd2; cases hd2; done)
   ·cases h
  ·cases hq
 ·rename_i fn a b
  cases h
  have va := iE hρ a.toList
  have vb := iE hρ b.toList
  refine here (.func fn va.1 vb.1 va.2 vb.2) ?_
  have e1 : a.map ρ' = ⟨a.toList.map ρ'⟩ := by rw [← Array.toList_inj]; simp
  have e2 : b.map ρ' = ⟨b.toList.map ρ'⟩ := by rw [← Array.toList_inj]; simp
  simp only [execOp, hop, Instr.makeFunc, e1, e2, Sem.run_bind, Sem.run_pure, Result.andThen_ok]
 ·rename_i t x lo hi mx
  obtain ⟨hh, rfl⟩ := aJ h
  replace h := hh
  obtain ⟨v', h1, h2⟩ := yN E R (hρ x) (rP hρ lo) (rP hρ hi) (rP hρ mx) h
  exact here h1 (by simp [execOp, hop, h2])
 ·rename_i s x f
  obtain ⟨hh, rfl⟩ := aJ h
  replace h := hh
  obtain ⟨v', h1, h2⟩ := oR E (hρ x) h w
  exact here h1 (by simp [execOp, hop, h2])
 ·rename_i s x f
  obtain ⟨hh, rfl⟩ := aJ h
  replace h := hh
  obtain ⟨v', h1, h2⟩ := yH E (hρ x) h w
  exact here h1 (by simp [execOp, hop, h2])
 ·rename_i t x ix
  obtain ⟨hh, rfl⟩ := aJ h
  replace h := hh
  obtain ⟨v', h1, h2⟩ := oN E (hρ x) (hρ ix) h w
  exact here h1 (by simp [execOp, hop, h2])
 ·rename_i t x ix
  obtain ⟨hh, rfl⟩ := aJ h
  replace h := hh
  obtain ⟨v', h1, h2⟩ := yB E (hρ x) (hρ ix) h w
  exact here h1 (by simp [execOp, hop, h2])
 ·rename_i t x ix ok
  obtain ⟨hh, rfl⟩ := aJ h
  replace h := hh
  obtain ⟨v', h1, h2⟩ := tY E R (hρ x) (hρ ix) h
  exact here h1 (by simp [execOp, hop, h2])
 ·rename_i x i
  obtain ⟨hh, rfl⟩ := aJ h
  replace h := hh
  obtain ⟨v', h1, h2⟩ := tR (P := P) (hρ x) h w
  exact here h1 (by simp [execOp, hop, h2])
 ·rename_i c
  simp only [dI] at hq
  split at h <;> rename_i hcal <;> first | (rw [hcal] at hq; simp only at hq; cases hq; done) | (cases h; done) | skip
  ·split at h
   ·rename_i x t hargs htys
    obtain ⟨hh, rfl⟩ := aJ h
    replace h := hh
    obtain ⟨v', h1, h2⟩ := aFn E R (ty := o.type) (hρ x) h
    have e1 : c.args = #[x] := by rw [← Array.toList_inj, hargs]
    have e2 : c.argTypes = #[t] := by rw [← Array.toList_inj, htys]
    refine here h1 ?_
    simp [execOp, hop, resolve, hcal, invoke, builtin, e1, e2, h2]
   ·cases h
  ·split at h
   ·rename_i x t hargs htys
    obtain ⟨hh, rfl⟩ := aJ h
    replace h := hh
    obtain ⟨v', h1, h2⟩ := aFj E R (ty := o.type) (hρ x) h
    have e1 : c.args = #[x] := by rw [← Array.toList_inj, hargs]
    have e2 : c.argTypes = #[t] := by rw [← Array.toList_inj, htys]
    refine here h1 ?_
    simp [execOp, hop, resolve, hcal, invoke, builtin, e1, e2, h2]
   ·cases h
  ·split at h
   ·rename_i x r hargs
    obtain ⟨hh, rfl⟩ := aJ h
    replace h := hh
    obtain ⟨v', h1, h2⟩ := uJ (P := P) false (r.map ρ) (r.map ρ') _ _ v (hρ x) (iE hρ r) h w
    refine here h1 ?_
    simp only [Bool.false_eq_true, if_false] at h2
    simp [execOp, hop, resolve, hcal, invoke, builtin, Builtin.min_, hargs, h2]
   ·cases h
  ·split at h
   ·rename_i x r hargs
    obtain ⟨hh, rfl⟩ := aJ h
    replace h := hh
    obtain ⟨v', h1, h2⟩ := uJ (P := P) true (r.map ρ) (r.map ρ') _ _ v (hρ x) (iE hρ r) h w
    refine here h1 ?_
    simp only [if_true] at h2
    simp [execOp, hop, resolve, hcal, invoke, builtin, Builtin.max_, hargs, h2]
   ·cases h
end Go.AM
namespace Go.AM
open Go.RowKit
variable [σ : Sg]
def mkV : Option Nat → Nat → Value
 | none, b => .pointer (some ⟨b, 0, none⟩)
 | some n, b => .slice (some ⟨b, 0, none⟩) n n
def aLv [π : Pins] (w : World) (N0 : Nat) (φ : List Place) (H : AH) (k : Option Nat) (o : AObj) (b : Nat) : Prop :=
 N0 ≤ b ∧ (∃ x tot sz, w.heap[b]? = some x ∧ (∀ n, k = some n → n * esz sz ≤ tot) ∧ ∀ ψ, φ <+: ψ → ORel ψ ⟨b, 0, tot, sz⟩ o (some x)) ∧ (∀ (i : Nat) p, φ[i]? = some p → p.blk ≠ b) ∧ ∀ b' x, π.pin b' = some x → b' ≠ b
theorem Rel.pushOld [Pins] {φ : List Place} {H : AH} {w : World} {k : Option Nat} {o : AObj} {b : Nat} (R : Rel φ H w) (h : aLv w H.w0.heap.size φ H k o b) : ∃ p : Place, p.blk = b ∧ p.base = 0 ∧ (∀ n, k = some n → n * esz p.sz ≤ p.tot) ∧ Rel (φ ++ [p]) (fT H o) w := by
 obtain ⟨hN, ⟨x, tot, sz, hx, hk, hO⟩, hd, hpn⟩ := h
 have hpre : φ <+: φ ++ [⟨b, 0, tot, sz⟩] := ⟨_, rfl⟩
 refine ⟨⟨b, 0, tot, sz⟩, rfl, rfl, hk, R.below, by simp [fT, R.len], fun i o' hi => ?_, fun i j o1 o2 p q hi hj hp hq e => ?_, fun b' y hb' => ⟨(R.pin b' y hb').1, pI R b' y hb' (fun e => hpn b' y hb' e.symm)⟩, rQ R.lt (Nat.le_refl _) (alt_of_getElem? hx)⟩
 ·by_cases hin : i = H.nx
  ·subst hin
   simp only [fT, Tr.get_set_same] at hi
   cases hi
   refine ⟨⟨b, 0, tot, sz⟩, by rw [← R.len]; simp, hN, ?_⟩
   rw [hx]; exact hO _ hpre
  ·simp only [fT, Tr.get_set_ne _ _ hin] at hi
   obtain ⟨p, hp, hN, hO⟩ := R.obj i o' hi
   exact ⟨p, getElem?_prefix hpre hp, hN, hO.mono hpre⟩
 ·have hi_lt : ∀ i o, H.tr.get i = some o → i < H.nx := by
   intro i o hi
   obtain ⟨q, hq, _⟩ := R.obj i o hi
   rw [← R.len]; exact lt_of_getElem? hq
  have back : ∀ i o', (H.tr.set H.nx (some o)).get i = some o' → i ≠ H.nx → H.tr.get i = some o' := fun i o' h hne => by rwa [Tr.get_set_ne _ _ hne] at h
  have pl : ∀ i p, i < H.nx → (φ ++ [(⟨b, 0, tot, sz⟩ : Place)])[i]? = some p → φ[i]? = some p := by
   intro i p hl hp
   rwa [List.getElem?_append_left (by rw [R.len]; exact hl)] at hp
  have pn : ∀ p, (φ ++ [(⟨b, 0, tot, sz⟩ : Place)])[H.nx]? = some p → p.blk = b := by
   intro p hp
   rw [← R.len] at hp; simp at hp; subst hp; rfl
  by_cases h1 : i = H.nx <;> by_cases h2 : j = H.nx
  ·omega
  ·have hj' := back j o2 hj h2
   subst h1
   exact absurd (e.symm.trans (pn p hp)) (hd j q (pl j q (hi_lt j o2 hj') hq))
  ·have hi' := back i o1 hi h1
   subst h2
   exact absurd (e.trans (pn q hq)) (hd i p (pl i p (hi_lt i o1 hi') hp))
  ·have hi' := back i o1 hi h1
   have hj' := back j o2 hj h2
   exact R.inj i j o1 o2 p q hi' hj' (pl i p (hi_lt i o1 hi') hp) (pl j q (hi_lt j o2 hj') hq) e
theorem aGw {P : Program} (E : Env P) {ty : TypeId} {ii : TI} {z : Value} (hi : E.inf ty = some ii) (hz : ii.zero = some z) {o : Oper} (hop : o.op = .alloc ty) (ρ : Operand → Value) (w : World) :
 ∃ x, (execOp ρ o).run P w = .ok (.value (.pointer (some ⟨w.heap.size, 0, none⟩))) (w.alloc x) ∧ ∃ tot, ∀ ψ, ORel ψ ⟨w.heap.size, 0, tot, fN E ty⟩ (.cells (ext z).cells.toList (fN E ty) true) (some x) := by
 refine ⟨.cells z.cells ty, ?_, z.cells.size, fun ψ => ?_⟩
 ·simp [execOp, hop, Instr.alloc, cL E hi hz, newVar, newRow]
 ·have hc := (VR.ext ψ z).cells
  refine ⟨z.cells, ty, 0, 0, rfl, fun k _ => by omega, rfl, ⟨rfl, aGg E ty, fun _ => rfl⟩, ?_, fun _ => ?_, ?_⟩
  ·rw [hc.1]; simp
  ·rw [hc.1]; simp
  ·have e : ((z.cells.toList.drop 0).take (ext z).cells.toList.length) = z.cells.toList := by rw [hc.1, List.drop_zero, List.take_length]
   rw [e]; exact hc
theorem aQl {φ : List Place} {n : Nat} (hn : φ.length = n) (p : Place) (hp : p.base = 0) {k : Option Nat} (hk : ∀ m, k = some m → m * esz p.sz ≤ p.tot) : VR (φ ++ [p]) (mkV k (2 * n + 1)) (mkV k p.blk) := by
 cases k with
 | none => exact .ptr (ARel.new φ n hn p hp)
 | some m => exact .slc (SRel.new hn p hp (Nat.le_refl _) (Nat.le_refl _) (hk m rfl))
def vX (P : Program) (o : Oper) (ρ : Operand → Value) (k : Option Nat) (ob : AObj) : Prop :=
 ∀ (ρ' : Operand → Value) (w : World) (φ : List Place), (∀ x ∈ o.op.operands, VR φ (ρ x) (ρ' x)) → ∃ x tot sz, (execOp ρ' o).run P w = .ok (.value (mkV k w.heap.size)) (w.alloc x) ∧ (∀ n, k = some n → n * esz sz ≤ tot) ∧ ∀ ψ, φ <+: ψ → ORel ψ ⟨w.heap.size, 0, tot, sz⟩ ob (some x)
theorem aGp {P : Program} (E : Env P) {ty : TypeId} {ii : TI} {z : Value} (hi : E.inf ty = some ii) (hz : ii.zero = some z) {o : Oper} (hop : o.op = .alloc ty) (ρ : Operand → Value) : vX P o ρ none (.cells (ext z).cells.toList (fN E ty) true) := fun ρ' w φ _ => by
 obtain ⟨x, h1, tot, h2⟩ := aGw E hi hz hop ρ' w
 exact ⟨x, tot, fN E ty, h1, (fun n h => by cases h), fun ψ _ => h2 ψ⟩
structure TraceF {P : Program} (E : Env P) (ops : Array Oper) (F : Nat → Fr) (HH : Nat → AH) (V : Nat → Value) (M Fl : Nat → Bool) : Prop extends Trace0 ops F V where
 step : ∀ (i : Nat) o, ops[i]? = some o → Fl i = false →
  (bZ ops (dA (F i)) o = false ∧ V i = undef ∧ M i = false) ∨
  (bZ ops (dA (F i)) o = true ∧ M i = false ∧ dI E o.op = true ∧ ∀ t, t ≤ ops.size → (∀ j, j < ops.size → M j = true → ((bef ops).getD i 0).testBit j = true → j < t) →
   (∀ j, j < ops.size → M j = true → ((bef ops).getD j 0).testBit i = true → t ≤ j) → aop E (bS (F i)) o.op (HH t) = some (V i, HH t)) ∨
  (bZ ops (dA (F i)) o = true ∧ M i = true ∧ aop E (bS (F i)) o.op (HH i) = some (V i, HH (i + 1))) ∨
  (bZ ops (dA (F i)) o = true ∧ M i = true ∧ ∃ g args, dE E (bS (F i)) o.op = some (g, args) ∧ ACalls P g args (HH i) fun v H' => v = V i ∧ H' = HH (i + 1))
 flop : ∀ (i : Nat) o, ops[i]? = some o → Fl i = true → M i = true ∧ bZ ops (dA (F i)) o = true ∧ ∃ d k ob, o.dst = some d ∧ V i = mkV k (2 * (HH i).nx + 1) ∧ HH (i + 1) = fT (HH i) ob ∧ vX P o (bS (F i)) k ob
 still : ∀ i, i < ops.size → M i = false → HH (i + 1) = HH i
 mains : ∀ i j, i < j → j < ops.size → M i = true → M j = true → ((bef ops).getD j 0).testBit i = true ∨ Fl j = true
 all : ∀ k i j, k < ops.size → i < ops.size → j < i → Fl k = false → Fl i = true → M j = true → ((bef ops).getD k 0).testBit i = true → ((bef ops).getD k 0).testBit j = true
 nofl : ∀ i j, i < ops.size → j < ops.size → Fl i = true → Fl j = true → ((bef ops).getD i 0).testBit j = false
section
variable {P : Program} {E : Env P} {ops : Array Oper} {F : Nat → Fr} {HH : Nat → AH} {V : Nat → Value} {M Fl : Nat → Bool}
def Pd (Fl : Nat → Bool) (S : Nat → Bool) (t j : Nat) : Prop := Fl j = true ∧ S j = true ∧ t ≤ j
structure InvC [Pins] (ops : Array Oper) (F : Nat → Fr) (HH : Nat → AH) (V : Nat → Value) (M Fl S : Nat → Bool) (φ' : List Place) (t : Nat) (bl : Nat → Nat) (a : Act) (w : World) : Prop where
 le : t ≤ ops.size
 rel : Rel φ' (HH t) w
 pre : ∀ j, j < ops.size → M j = true → j < t → S j = true
 post : ∀ j, j < ops.size → M j = true → t ≤ j → S j = true → Fl j = true
 slots : ∀ d, (∀ j o, ops[j]? = some o → Pd Fl S t j → o.dst ≠ some d) → VR φ' (jT (F 0) ops V S ops.size d) (a.tmps.getD d undef)
 pend : ∀ j o, ops[j]? = some o → Pd Fl S t j → ∃ ob k, HH (j + 1) = fT (HH j) ob ∧ V j = mkV k (2 * (HH j).nx + 1) ∧ aLv w (HH 0).w0.heap.size φ' (HH t) k ob (bl j) ∧ ∃ d, o.dst = some d ∧ a.tmps.getD d undef = mkV k (bl j)
 inj : ∀ i j, i < ops.size → j < ops.size → Pd Fl S t i → Pd Fl S t j → bl i = bl j → i = j
 dep : ∀ k j, k < ops.size → j < ops.size → S k = true → Pd Fl S t j → ((bef ops).getD k 0).testBit j = false
theorem InvC.normal [Pins] (T : TraceF E ops F HH V M Fl) (hw0 : ∀ i, i < ops.size → (HH (i + 1)).w0 = (HH i).w0) {S : Nat → Bool} (hS : fX ops S) {a : Act} {w : World} : ∀ (n t : Nat) (φ' : List Place) (bl : Nat → Nat), ops.size - t = n → InvC ops F HH V M Fl S φ' t bl a w →
 ∃ φ2 t2, φ' <+: φ2 ∧ InvC ops F HH V M Fl S φ2 t2 bl a w ∧ (t2 = ops.size ∨ (t2 < ops.size ∧ M t2 = true ∧ S t2 = false)) := by
 intro n
 induction n with
 | zero => intro t φ' bl hn hI; have := hI.le; exact ⟨φ', t, List.prefix_refl _, hI, .inl (by omega)⟩
 | succ n ih =>
  intro t φ' bl hn hI
  have hlt : t < ops.size := by omega
  have ho : ops[t]? = some ops[t] := Array.getElem?_eq_getElem hlt
  cases hM : M t with
  | false =>
   have hne : ∀ j, Fl j = true → j < ops.size → j ≠ t := by
    intro j hF hj e; subst e
    have := (T.flop j _ ho hF).1; rw [hM] at this; cases this
   have hpd : ∀ j, j < ops.size → (Pd Fl S (t + 1) j ↔ Pd Fl S t j) := by
    intro j hj
    constructor
    ·rintro ⟨h1, h2, h3⟩; exact ⟨h1, h2, by omega⟩
    ·rintro ⟨h1, h2, h3⟩; have := hne j h1 hj; exact ⟨h1, h2, by omega⟩
   have hH := T.still t hlt hM
   refine ih (t + 1) φ' bl (by omega) ⟨by omega, by rw [hH]; exact hI.rel, fun j hj hMj hjt => ?_, fun j hj hMj hjt => hI.post j hj hMj (by omega), fun d hd => hI.slots d fun j o hj hp => hd j o hj ((hpd j (alt_of_getElem? hj)).2 hp), fun j o hj hp => ?_,
    fun i j hi hj h1 h2 => hI.inj i j hi hj ((hpd i hi).1 h1) ((hpd j hj).1 h2), fun k j hk hj h1 h2 => hI.dep k j hk hj h1 ((hpd j hj).1 h2)⟩
   ·by_cases e : j = t
    ·subst e; rw [hM] at hMj; cases hMj
    ·exact hI.pre j hj hMj (by omega)
   ·rw [hH]; exact hI.pend j o hj ((hpd j (alt_of_getElem? hj)).1 hp)
  | true =>
   cases hSt : S t with
   | false => exact ⟨φ', t, List.prefix_refl _, hI, .inr ⟨hlt, hM, hSt⟩⟩
   | true =>
    have hF := hI.post t hlt hM (Nat.le_refl _) hSt
    obtain ⟨ob, kk, h1, hV, h2, d, hd, h3⟩ := hI.pend t _ ho ⟨hF, hSt, Nat.le_refl _⟩
    have hww : (HH t).w0 = (HH 0).w0 := qR hw0 t (by omega)
    obtain ⟨p, hpb, hp0, hpk, hR⟩ := hI.rel.pushOld (by rw [hww]; exact h2)
    have hpd : ∀ j, Pd Fl S (t + 1) j → Pd Fl S t j ∧ j ≠ t := fun j ⟨a1, a2, a3⟩ => ⟨⟨a1, a2, by omega⟩, by omega⟩
    have hpre : φ' <+: φ' ++ [p] := ⟨_, rfl⟩
    have hI2 : InvC ops F HH V M Fl S (φ' ++ [p]) (t + 1) bl a w := by
     refine ⟨by omega, by rw [h1]; exact hR, fun j hj hMj hjt => ?_, fun j hj hMj hjt => hI.post j hj hMj (by omega), fun d' hd' => ?_, fun j o hj hp => ?_, fun i j hi hj a1 a2 => hI.inj i j hi hj (hpd i a1).1 (hpd j a2).1, fun k j hk hj a1 a2 => hI.dep k j hk hj a1 (hpd j a2).1⟩
     ·by_cases e : j = t
      ·subst e; exact hSt
      ·exact hI.pre j hj hMj (by omega)
     ·by_cases e : d' = d
      ·subst e
       have hsv : jT (F 0) ops V S ops.size d' = V t := by
        rw [lH (i := t + 1) ops.size (by omega) ?_]
        ·simp [jT, ho, hd, hSt]
        ·intro k hk hkn hdk
         have hkk : ops[k]? = some ops[k] := Array.getElem?_eq_getElem hkn
         rw [hkk] at hdk
         simp only [Option.bind_some] at hdk
         cases hSk : S k with
         | false => rfl
         | true =>
          rcases eH T.order (show t < k by omega) ho hkk with hap | hb
          ·exact absurd hdk ((Oper.apart_spec hap).2.1 d' hd)
          ·rw [hI.dep k t hkn hlt hSk ⟨hF, hSt, Nat.le_refl _⟩] at hb; cases hb
       rw [hsv, h3, hV, ← hpb]
       exact aQl hI.rel.len p hp0 hpk
      ·refine (hI.slots d' fun j o hj hp => ?_).mono hpre
       by_cases ejt : j = t
       ·subst ejt
        rw [ho] at hj; cases hj
        rw [hd]; intro e2; exact e (Option.some.inj e2).symm
       ·exact hd' j o hj ⟨hp.1, hp.2.1, by have := hp.2.2; omega⟩
     ·obtain ⟨ob', k', q1, qV, ⟨q2, q3, q4, q4'⟩, q5⟩ := hI.pend j o hj (hpd j hp).1
      refine ⟨ob', k', q1, qV, ⟨q2, (let ⟨y, c1, c2, c3, c4, c5⟩ := q3; ⟨y, c1, c2, c3, c4, fun ψ h => c5 ψ (hpre.trans h)⟩), fun i p' hp' => ?_, q4'⟩, q5⟩
      rcases Nat.lt_or_ge i φ'.length with hil | hil
      ·rw [List.getElem?_append_left hil] at hp'
       exact q4 i p' hp'
      ·rw [List.getElem?_append_right hil] at hp'
       have h0 : i - φ'.length = 0 := by have := lt_of_getElem? hp'; simp at this; omega
       rw [h0] at hp'
       simp at hp'
       subst hp'
       rw [hpb]
       intro e
       exact (hpd j hp).2 (hI.inj t j hlt (alt_of_getElem? hj) ⟨hF, hSt, Nat.le_refl _⟩ (hpd j hp).1 e).symm
    obtain ⟨φ2, t2, r1, r2, r3⟩ := ih (t + 1) (φ' ++ [p]) bl (by omega) hI2
    exact ⟨φ2, t2, hpre.trans r1, r2, r3⟩
theorem TraceF.any [π : Pins] (T : TraceF E ops F HH V M Fl) (hw0 : ∀ i, i < ops.size → (HH (i + 1)).w0 = (HH i).w0) {Q : AQ} (hQ : Q .normal (F ops.size) (HH ops.size)) (φ : List Place) :
 ∀ (fuel : Nat) (listed : Array Bool) (a : Act) (w : World) (φ' : List Place) (t : Nat) (bl : Nat → Nat), listed.size = ops.size → fX ops (fun i => listed.getD i false) → a.defers = π.ds → a.tmps.size = (F 0).n → φ <+: φ' →
  InvC ops F HH V M Fl (fun i => listed.getD i false) φ' t bl a w → (t = ops.size ∨ (t < ops.size ∧ M t = true ∧ listed.getD t false = false)) → listed.toList.countP id + fuel = ops.size → wpAny P .any ops (iN φ (HH 0).w0 Q) fuel listed a w := by
 have fin : ∀ (listed : Array Bool) (a : Act) (w : World) (φ' : List Place) (t : Nat) (bl : Nat → Nat), a.defers = π.ds → a.tmps.size = (F 0).n → φ <+: φ' → InvC ops F HH V M Fl (fun i => listed.getD i false) φ' t bl a w → (t = ops.size ∨ (t < ops.size ∧ M t = true ∧ listed.getD t false = false)) →
  (∀ i, i < ops.size → listed.getD i false = true) → iN φ (HH 0).w0 Q .normal a w := by
  intro listed a w φ' t bl had hat hφ hI hn hall
  obtain rfl : t = ops.size := by
   rcases hn with h | ⟨h1, _, h3⟩
   ·exact h
   ·rw [hall t h1] at h3; cases h3
  refine ⟨φ', F ops.size, HH ops.size, hφ, ⟨had, by rw [hat, T.size _ (Nat.le_refl _)], fun d => ?_⟩, hI.rel, qR hw0 _ (Nat.le_refl _), hQ⟩
  have := hI.slots d fun j o hj hp => by have := alt_of_getElem? hj; have := hp.2.2; omega
  rw [rE (S' := fun _ => true) ops.size (fun k hk _ => by simp [hall k hk]), ← T.slots d _ (Nat.le_refl _)] at this
  exact this
 intro fuel
 induction fuel with
 | zero =>
  intro listed a w φ' t bl hsz hS had hat hφ hI hn hc
  have hall : ∀ i, i < ops.size → listed.getD i false = true := by
   have : listed.toList.countP id = listed.toList.length := by rw [Array.length_toList, hsz]; omega
   rw [List.countP_eq_length] at this
   intro i hi
   have hm : listed[i]'(by omega) ∈ listed.toList := by simp
   have := this _ hm
   simp only [id] at this
   simp [Array.getD_eq_getD_getElem?, hsz, hi, this]
  refine ⟨?_, fin listed a w φ' t bl had hat hφ hI hn hall⟩
  rw [List.eq_nil_iff_forall_not_mem]
  intro i hi
  unfold Region.ready at hi
  rw [List.mem_filter] at hi
  obtain ⟨h1, h2⟩ := hi
  have hlt := List.mem_range.1 h1
  simp only [Bool.and_eq_true] at h2
  have h3 := hall i hlt
  have h4 := h2.1
  simp [Array.getD_eq_getD_getElem?, hsz, hlt] at h3 h4
  rw [h3] at h4; cases h4
 | succ fuel ih =>
  intro listed a w φ' t bl hsz hS had hat hφ hI hn hc
  refine ⟨fun hr => fin listed a w φ' t bl had hat hφ hI hn ?_, fun i hi => ?_⟩
  ·intro i
   induction i using Nat.strongRecOn with
   | _ i ihi =>
    intro hlt
    cases hl : listed.getD i false with
    | true => rfl
    | false =>
     exfalso
     have hmem : i ∈ Region.ready .any ops listed := by
      unfold Region.ready
      rw [List.mem_filter]
      refine ⟨List.mem_range.2 hlt, ?_⟩
      have ho : ops[i]? = some ops[i] := Array.getElem?_eq_getElem hlt
      simp only [Bool.and_eq_true, ho, Option.map_some, Option.getD_some]
      refine ⟨?_, ?_⟩
      ·simp [Array.getD_eq_getD_getElem?, hsz, hlt] at hl ⊢
       exact hl
      ·rw [Array.all_eq_true']
       intro e he
       cases hb : Region.binds .any e with
       | false => rfl
       | true =>
        have hlt' := gD T.order ho he hb
        simp [ihi e.on hlt' (by omega)]
     rw [hr] at hmem
     cases hmem
  ·have hi' := hi
   unfold Region.ready at hi'
   rw [List.mem_filter] at hi'
   have hlt := List.mem_range.1 hi'.1
   have hunl : listed.getD i false = false := by
    have h4 := hi'.2
    simp only [Bool.and_eq_true] at h4
    have h4 := h4.1
    simp [Array.getD_eq_getD_getElem?, hsz, hlt] at h4 ⊢
    exact h4
   have ho : ops[i]? = some ops[i] := Array.getElem?_eq_getElem hlt
   generalize ops[i] = o at ho
   have hS' := iO hS hi
   have hcount : (listed.setIfInBounds i true).toList.countP id + fuel = ops.size := by
    rw [Array.toList_setIfInBounds, List.countP_set (by simp; omega)]
    have hget : (listed.toList[i]'(by simp; omega)) = false := by
     simp [Array.getD_eq_getD_getElem?, hsz, hlt] at hunl
     simpa using hunl
    rw [hget]
    simp only [id, Bool.false_eq_true, if_false, if_true]
    omega
   have hgd : (fun j => (listed.setIfInBounds i true).getD j false) = fun j => if j = i then true else listed.getD j false := funext fun j => kL (by omega)
   -- what lies before the operation has run
   have hbef : ∀ j, j < ops.size → ((bef ops).getD i 0).testBit j = true → j ≠ i → listed.getD j false = true := by
    intro j hj hb hne
    have := fH hS' hb (by simp)
    rwa [if_neg hne] at this
   have hpart : ∀ j, j < ops.size → Pd Fl (fun i => listed.getD i false) t j → t < ops.size ∧ M t = true ∧ listed.getD t false = false ∧ t < j := by
    intro j hj hp
    rcases hn with h | ⟨h1, h2, h3⟩
    ·have := hp.2.2; omega
    ·have hne : t ≠ j := by intro e; subst e; have h4 := hp.2.1; simp only at h4; rw [h3] at h4; cases h4
     exact ⟨h1, h2, h3, by have := hp.2.2; omega⟩
   have hback : ∀ j, ((bef ops).getD i 0).testBit j = true → j ≤ i := by
    intro j hb
    have hcl : fX ops (fun k => decide (k ≤ i)) := fun k o' ho' hk e he hbd => by
     have := gD T.order ho' he hbd
     simp only [decide_eq_true_eq] at hk ⊢
     omega
    have := fH hcl hb (by simp)
    simpa using this
   have hdep : Fl i = false → ∀ j, j < ops.size → Pd Fl (fun i => listed.getD i false) t j → ((bef ops).getD i 0).testBit j = false := by
    intro hFi j hj hp
    cases hb : ((bef ops).getD i 0).testBit j with
    | false => rfl
    | true =>
     exfalso
     obtain ⟨q1, q2, q3, q4⟩ := hpart j hj hp
     have hbt := T.all i j t hlt hj q4 hFi hp.1 q2 hb
     have := hbef t q1 hbt (fun e => by have := hback j hb; omega)
     rw [q3] at this; cases this
   have hdep2 : ∀ j, j < ops.size → listed.getD j false = true → ((bef ops).getD j 0).testBit i = false := by
    intro j hj hl
    cases hb : ((bef ops).getD j 0).testBit i with
    | false => rfl
    | true => have := fH hS hb hl; rw [hunl] at this; cases this
   have hfree : ∀ j oj, ops[j]? = some oj → Pd Fl (fun i => listed.getD i false) t j → (∀ d, oj.dst = some d → d ∉ o.looksAt ops) ∧ (∀ d, oj.dst = some d → o.dst ≠ some d) := by
    intro j oj hoj hp
    have hj := alt_of_getElem? hoj
    have hne : j ≠ i := by intro e; subst e; have h4 := hp.2.1; simp only at h4; rw [hunl] at h4; cases h4
    have hdp : ((bef ops).getD i 0).testBit j = false := by
     cases hFi : Fl i with
     | false => exact hdep hFi j hj hp
     | true => exact T.nofl i j hlt hj hFi hp.1
    rcases Nat.lt_or_gt_of_ne hne with h | h
    ·rcases eH T.order h hoj ho with hap | hb
     ·exact ⟨(Oper.apart_spec hap).1, (Oper.apart_spec hap).2.1⟩
     ·rw [hdp] at hb; cases hb
    ·rcases eH T.order h ho hoj with hap | hb
     ·exact ⟨(Oper.apart_spec hap).2.2, fun d hd hd2 => (Oper.apart_spec hap).2.1 d hd2 hd⟩
     ·rw [hdep2 j hj hp.2.1] at hb; cases hb
   have put_get : ∀ (v' : Value) (d : Nat), (a.put o.dst v').tmps.getD d undef = if o.dst = some d then v' else a.tmps.getD d undef := by
    intro v' d
    cases hd : o.dst with
    | none => simp [Act.put]
    | some d' =>
     have hlt' := T.dst_lt ho hd
     simp only [Act.put, Option.some.injEq]
     by_cases e : d' = d
     ·subst e; simp [Array.getD_eq_getD_getElem?, hat, hlt']
     ·rw [if_neg e]; simp [Array.getD_eq_getD_getElem?, e]
   have put_size : ∀ v', (a.put o.dst v').tmps.size = (F 0).n := by
    intro v'; cases hd : o.dst <;> simp [Act.put, hat]
   have put_def : ∀ v', (a.put o.dst v').defers = π.ds := by
    intro v'; cases hd : o.dst <;> simp [Act.put, had]
   have hsv : ∀ d, jT (F 0) ops V (fun j => if j = i then true else listed.getD j false) ops.size d = if o.dst = some d then V i else jT (F 0) ops V (fun i => listed.getD i false) ops.size d := fun d => T.sees_dst hS ho hunl d
   -- go on
   have go : ∀ (φ2 : List Place) (t2 : Nat) (bl2 : Nat → Nat) (v' : Value) (w' : World), φ' <+: φ2 → InvC ops F HH V M Fl (fun j => if j = i then true else listed.getD j false) φ2 t2 bl2 (a.put o.dst v') w' →
    wpAny P .any ops (iN φ (HH 0).w0 Q) fuel (listed.setIfInBounds i true) (a.put o.dst v') w' := by
    intro φ2 t2 bl2 v' w' h1 h2
    obtain ⟨φ3, t3, r1, r2, r3⟩ := h2.normal T hw0 hS' _ t2 φ2 bl2 rfl
    refine ih _ _ _ φ3 t3 bl2 (by simp [hsz]) (by rw [hgd]; exact hS') (put_def v') (put_size v') (hφ.trans (h1.trans r1)) (by rw [hgd]; exact r2) ?_ hcount
    rcases r3 with r3 | ⟨q1, q2, q3⟩
    ·exact .inl r3
    ·exact .inr ⟨q1, q2, by rw [show (listed.setIfInBounds i true).getD t3 false = if t3 = i then true else listed.getD t3 false from congrFun hgd t3]; exact q3⟩
   unfold wpOp
   rw [ho]
   simp only
   cases hFi : Fl i with
   | true =>
    obtain ⟨hMi, haw, d, kk, ob, hdst, hV, hHH, hmk⟩ := T.flop i o ho hFi
    have hsee : ∀ d ∈ o.looksAt ops, VR φ' (dA (F i) d) (a.tmps.getD d undef) := by
     intro d hd
     rw [← T.sees hS hS' ho hunl hd]
     exact hI.slots d fun j oj hj hp e => (hfree j oj hj hp).1 d e hd
    have hwant := fV (φ := φ') (sv := dA (F i)) ops o hsee
    rw [hwant, haw, if_pos rfl]
    left
    obtain ⟨x, tot, sz0, hrun, hkn, hO⟩ := hmk a.eval w φ' (fun x hx => by
     cases x with
     | tmp d => exact hsee d (by simp only [Oper.looksAt, List.mem_append, List.mem_filterMap]; exact .inl ⟨.tmp d, by simpa using hx, rfl⟩)
     | const v => exact VR.ext φ' v
     | global g => exact .ptr (.inl ⟨by simp, by simp, rfl, rfl⟩)
     | func g => exact .func _ rfl rfl (fun i v v' h => by simp at h) (fun i v v' h => by simp at h))
    unfold Oper.wp
    rw [hrun]
    have hti : t ≤ i := by
     rcases Nat.lt_or_ge i t with h | h
     ·have h5 : listed.getD i false = true := hI.pre i hlt hMi h
      rw [hunl] at h5; cases h5
     ·exact h
    have hww : (HH t).w0 = (HH 0).w0 := qR hw0 t hI.le
    have hbel : Below w.heap.size w (w.alloc x) := (Below.refl _ _).alloc (Nat.le_refl _) x
    refine go φ' t (fun j => if j = i then w.heap.size else bl j) _ _ (List.prefix_refl _) ⟨hI.le, hI.rel.later hbel, fun j hj hM hjt => ?_, fun j hj hM hjt hs => ?_, fun d' hd' => ?_, fun j oj hj hp => ?_, fun j k hj hk hpj hpk e => ?_, fun k j hk hj hs hp => ?_⟩
    ·by_cases e : j = i
     ·simp [e]
     ·simp only [e, if_false]; exact hI.pre j hj hM hjt
    ·by_cases e : j = i
     ·rw [e]; exact hFi
     ·simp only [e, if_false] at hs; exact hI.post j hj hM hjt hs
    ·have hne : o.dst ≠ some d' := hd' i o ho ⟨hFi, by simp, hti⟩
     rw [hsv d', if_neg hne, put_get, if_neg hne]
     refine hI.slots d' fun j oj hj hp => hd' j oj hj ⟨hp.1, ?_, hp.2.2⟩
     by_cases e : j = i
     ·simp [e]
     ·simp only [e, if_false]; exact hp.2.1
    ·by_cases e : j = i
     ·subst e
      rw [ho] at hj; cases hj
      refine ⟨_, kk, hHH, hV, ⟨by rw [← hww]; simp only [if_true]; exact hI.rel.below.size, ⟨x, tot, sz0, ?_, hkn, by simp only [if_true]; exact hO⟩, fun k p hp' => ?_, fun b' y hb' => ?_⟩, d, hdst, ?_⟩
      ·simp only [if_true]; exact heap_alloc_new w x
      ·simp only [if_true]
       have := hI.rel.lt k p hp'
       omega
      ·simp only [if_true]
       have := alt_of_getElem? (hI.rel.pin b' y hb').1
       omega
      ·rw [put_get, if_pos hdst]; simp
     ·have hpj : Pd Fl (fun i => listed.getD i false) t j := ⟨hp.1, by have := hp.2.1; simpa [e] using this, hp.2.2⟩
      obtain ⟨ob', k', q1, qV, ⟨q2, ⟨y, tot', sz', q3, qk, q4⟩, q5, q5'⟩, d2, q6, q7⟩ := hI.pend j oj hj hpj
      refine ⟨ob', k', q1, qV, ⟨?_, ⟨y, tot', sz', ?_, qk, ?_⟩, ?_, ?_⟩, d2, q6, ?_⟩
      ·simp only [e, if_false]; exact q2
      ·simp only [e, if_false]
       rw [show (w.alloc x).heap[bl j]? = w.heap[bl j]? from Below.heap_alloc w x _ (alt_of_getElem? q3)]
       exact q3
      ·simp only [e, if_false]; exact q4
      ·simp only [e, if_false]; exact q5
      ·simp only [e, if_false]; exact q5'
      ·have hne : o.dst ≠ some d2 := by
        rcases Nat.lt_or_gt_of_ne e with h | h
        ·rcases eH T.order h hj ho with hap | hb
         ·exact (Oper.apart_spec hap).2.1 d2 q6
         ·rw [T.nofl i j hlt (alt_of_getElem? hj) hFi hp.1] at hb; cases hb
        ·rcases eH T.order h ho hj with hap | hb
         ·intro h2; exact (Oper.apart_spec hap).2.1 d2 h2 q6
         ·rw [T.nofl j i (alt_of_getElem? hj) hlt hp.1 hFi] at hb; cases hb
       rw [put_get, if_neg hne, q7]
       simp only [e, if_false]
    ·have blt : ∀ j, j < ops.size → j ≠ i → Pd Fl (fun j => if j = i then true else listed.getD j false) t j → bl j < w.heap.size := by
      intro j hj e hp
      have hpj : Pd Fl (fun i => listed.getD i false) t j := ⟨hp.1, by have := hp.2.1; simpa [e] using this, hp.2.2⟩
      obtain ⟨ob', k', q1, qV, ⟨q2, ⟨y, tot', sz', q3, qk, q4⟩, q5⟩, _⟩ := hI.pend j _ (Array.getElem?_eq_getElem hj) hpj
      exact alt_of_getElem? q3
     by_cases e1 : j = i <;> by_cases e2 : k = i
     ·rw [e1, e2]
     ·have := blt k hk e2 hpk
      simp only [e1, e2, if_true, if_false] at e; omega
     ·have := blt j hj e1 hpj
      simp only [e1, e2, if_true, if_false] at e; omega
     ·simp only [e1, e2, if_false] at e
      exact hI.inj j k hj hk ⟨hpj.1, by have := hpj.2.1; simpa [e1] using this, hpj.2.2⟩ ⟨hpk.1, by have := hpk.2.1; simpa [e2] using this, hpk.2.2⟩ e
    ·by_cases e1 : k = i
     ·subst e1; exact T.nofl k j hk hj hFi hp.1
     ·have hs' : listed.getD k false = true := by simpa [e1] using hs
      by_cases e2 : j = i
      ·subst e2; exact hdep2 k hk hs'
      ·exact hI.dep k j hk hj hs' ⟨hp.1, by have := hp.2.1; simpa [e2] using this, hp.2.2⟩
   | false =>
    have hsee : ∀ d ∈ o.looksAt ops, VR φ' (dA (F i) d) (a.tmps.getD d undef) := by
     intro d hd
     rw [← T.sees hS hS' ho hunl hd]
     exact hI.slots d fun j oj hj hp e => (hfree j oj hj hp).1 d e hd
    have hwant := fV (φ := φ') (sv := dA (F i)) ops o hsee
    rw [hwant]
    have hpd : ∀ j, Pd Fl (fun j => if j = i then true else listed.getD j false) t j → Pd Fl (fun i => listed.getD i false) t j := by
     rintro j ⟨h1, h2, h3⟩
     have hne : j ≠ i := by intro e; subst e; rw [hFi] at h1; cases h1
     exact ⟨h1, by simpa [hne] using h2, h3⟩
    have hpd' : ∀ j, Pd Fl (fun i => listed.getD i false) t j → Pd Fl (fun j => if j = i then true else listed.getD j false) t j := by
     rintro j ⟨h1, h2, h3⟩
     have hne : j ≠ i := by intro e; subst e; rw [hFi] at h1; cases h1
     exact ⟨h1, by simpa [hne] using h2, h3⟩
    -- an operation that turns nothing
    have still : M i = false → ∀ v', VR φ' (V i) v' → wpAny P .any ops (iN φ (HH 0).w0 Q) fuel (listed.setIfInBounds i true) (a.put o.dst v') w := by
     intro hMi v' hv
     refine go φ' t bl v' w (List.prefix_refl _) ⟨hI.le, hI.rel, fun j hj hM hjt => ?_, fun j hj hM hjt hs => ?_, fun d hd => ?_, fun j oj hj hp => ?_, fun j k hj hk h1 h2 => hI.inj j k hj hk (hpd j h1) (hpd k h2), fun k j hk hj hs hp => ?_⟩
     ·by_cases e : j = i
      ·simp [e]
      ·simp only [e, if_false]; exact hI.pre j hj hM hjt
     ·by_cases e : j = i
      ·subst e; rw [hMi] at hM; cases hM
      ·simp only [e, if_false] at hs; exact hI.post j hj hM hjt hs
     ·rw [hsv d, put_get]
      by_cases e : o.dst = some d
      ·rw [if_pos e, if_pos e]; exact hv
      ·rw [if_neg e, if_neg e]
       exact hI.slots d fun j oj hj hp => hd j oj hj (hpd' j hp)
     ·obtain ⟨ob, k', q1, qV, q2, d2, q6, q7⟩ := hI.pend j oj hj (hpd j hp)
      refine ⟨ob, k', q1, qV, q2, d2, q6, ?_⟩
      rw [put_get, if_neg ((hfree j oj hj (hpd j hp)).2 d2 q6)]
      exact q7
     ·by_cases e : k = i
      ·subst e; exact hdep hFi j hj (hpd j hp)
      ·simp only [e, if_false] at hs
       exact hI.dep k j hk hj hs (hpd j hp)
    have hρ : ∃ ρ2 : Operand → Value, (∀ x, VR φ' (ρ2 x) (a.eval x)) ∧ ∀ x ∈ o.op.operands, ρ2 x = bS (F i) x := by
     open Classical in
     refine ⟨fun x => if x ∈ o.op.operands then bS (F i) x else ext (a.eval x), fun x => ?_, fun x hx => by simp [hx]⟩
     by_cases hx : x ∈ o.op.operands
     ·simp only [hx, if_true]
      cases x with
      | tmp d => exact hsee d (by simp only [Oper.looksAt, List.mem_append, List.mem_filterMap]; exact .inl ⟨.tmp d, by simpa using hx, rfl⟩)
      | const v => exact VR.ext φ' v
      | global g => exact .ptr (.inl ⟨by simp, by simp, rfl, rfl⟩)
      | func g => exact .func _ rfl rfl (fun i v v' h => by simp at h) (fun i v v' h => by simp at h)
     ·simp only [hx, if_false]
      exact VR.ext φ' _
    obtain ⟨ρ2, hρ2, hρe⟩ := hρ
    -- a main operation
    have hmain : M i = true → t = i ∧ (∀ j, j < ops.size → M j = true → j < i → listed.getD j false = true) ∧ (∀ j, j < ops.size → M j = true → i < j → listed.getD j false = true → Fl j = true) := by
     intro hMi
     have hlow : ∀ j, j < ops.size → M j = true → j < i → listed.getD j false = true := by
      intro j hj hM hji
      rcases T.mains j i hji hlt hM hMi with hb | hb
      ·exact hbef j hj hb (by omega)
      ·rw [hFi] at hb; cases hb
     have hti : t ≤ i := by
      rcases Nat.lt_or_ge i t with h | h
      ·have h5 : listed.getD i false = true := hI.pre i hlt hMi h
       rw [hunl] at h5; cases h5
      ·exact h
     have hit : t = i := by
      rcases hn with h | ⟨h1, h2, h3⟩
      ·omega
      ·rcases Nat.lt_or_ge t i with h | h
       ·rw [hlow t h1 h2 h] at h3; cases h3
       ·omega
     refine ⟨hit, hlow, fun j hj hM hij hl => ?_⟩
     rcases T.mains i j hij hj hMi hM with hb | hb
     ·rw [hdep2 j hj hl] at hb; cases hb
     ·exact hb
    -- what waits is pinned
    open Classical in
    let p2 : Nat → Option Obj := fun b => if ∃ j, j < ops.size ∧ Pd Fl (fun i => listed.getD i false) t j ∧ bl j = b then w.heap[b]? else π.pin b
    have hrel2 : @Rel σ ⟨⟨p2, π.ds⟩⟩ φ' (HH t) w := by
     refine @Rel.mk σ ⟨⟨p2, π.ds⟩⟩ _ _ _ hI.rel.below hI.rel.len hI.rel.obj hI.rel.inj (fun b x hb => ?_) hI.rel.lt
     simp only [Pins.pin, p2] at hb
     split at hb
     ·rename_i hx
      obtain ⟨j, hj, hp, rfl⟩ := hx
      obtain ⟨ob, k', q1, qV, ⟨q2, q3, q4, q5⟩, _⟩ := hI.pend j _ (Array.getElem?_eq_getElem hj) hp
      exact ⟨hb, q4⟩
     ·exact hI.rel.pin b x hb
    have back2 : ∀ {φ2 : List Place} {H2 : AH} {w' : World}, @Rel σ ⟨⟨p2, π.ds⟩⟩ φ2 H2 w' → Rel φ2 H2 w' ∧ ∀ j, j < ops.size → Pd Fl (fun i => listed.getD i false) t j → w'.heap[bl j]? = w.heap[bl j]? ∧ ∀ (k : Nat) p, φ2[k]? = some p → p.blk ≠ bl j := by
     intro φ2 H2 w' hR2
     refine ⟨⟨@Rel.below σ ⟨⟨p2, π.ds⟩⟩ _ _ _ hR2, @Rel.len σ ⟨⟨p2, π.ds⟩⟩ _ _ _ hR2, @Rel.obj σ ⟨⟨p2, π.ds⟩⟩ _ _ _ hR2, @Rel.inj σ ⟨⟨p2, π.ds⟩⟩ _ _ _ hR2, fun b x hb => @Rel.pin σ ⟨⟨p2, π.ds⟩⟩ _ _ _ hR2 b x ?_, @Rel.lt σ ⟨⟨p2, π.ds⟩⟩ _ _ _ hR2⟩, fun j hj hp => ?_⟩
     ·simp only [Pins.pin, p2]
      rw [if_neg]
      ·exact hb
      ·rintro ⟨j, hj, hp, rfl⟩
       obtain ⟨ob, k', q1, qV, ⟨q2, q3, q4, q5⟩, _⟩ := hI.pend j _ (Array.getElem?_eq_getElem hj) hp
       exact q5 _ x hb rfl
     ·obtain ⟨ob, k', q1, qV, ⟨q2, ⟨x, tot, sz, q3, _⟩, q4, q5⟩, _⟩ := hI.pend j _ (Array.getElem?_eq_getElem hj) hp
      have := @Rel.pin σ ⟨⟨p2, π.ds⟩⟩ _ _ _ hR2 (bl j) x (by simp only [Pins.pin, p2]; rw [if_pos ⟨j, hj, hp, rfl⟩]; exact q3)
      exact ⟨this.1.trans q3.symm, this.2⟩
    have mnext : M i = true → ∀ (φ2 : List Place) (v' : Value) (w' : World), φ' <+: φ2 → VR φ2 (V i) v' → @Rel σ ⟨⟨p2, π.ds⟩⟩ φ2 (HH (i + 1)) w' → wpAny P .any ops (iN φ (HH 0).w0 Q) fuel (listed.setIfInBounds i true) (a.put o.dst v') w' := by
     intro hMi φ2 v' w' h1 h2 h3
     obtain ⟨hit, hlow, hup⟩ := hmain hMi
     obtain ⟨hR, hpp⟩ := back2 h3
     have hpd1 : ∀ j, j < ops.size → Pd Fl (fun j => if j = i then true else listed.getD j false) (i + 1) j → Pd Fl (fun i => listed.getD i false) t j := by
      rintro j hj ⟨p1, p2, p3⟩
      have hne : j ≠ i := by omega
      exact ⟨p1, by simpa [hne] using p2, by omega⟩
     have hpd2 : ∀ j, j < ops.size → Pd Fl (fun i => listed.getD i false) t j → Pd Fl (fun j => if j = i then true else listed.getD j false) (i + 1) j := by
      rintro j hj hp
      have hne : j ≠ i := by intro e; subst e; have h4 := hp.1; rw [hFi] at h4; cases h4
      exact ⟨hp.1, by simpa [hne] using hp.2.1, by have := hp.2.2; omega⟩
     refine go φ2 (i + 1) bl v' w' h1 ⟨by omega, hR, fun j hj hM hjt => ?_, fun j hj hM hjt hs => ?_, fun d hd => ?_, fun j oj hj hp => ?_, fun j k hj hk p1 p2 => hI.inj j k hj hk (hpd1 j hj p1) (hpd1 k hk p2), fun k j hk hj hs hp => ?_⟩
     ·by_cases e : j = i
      ·simp [e]
      ·simp only [e, if_false]; exact hlow j hj hM (by omega)
     ·have e : j ≠ i := by omega
      simp only [e, if_false] at hs
      exact hup j hj hM (by omega) hs
     ·rw [hsv d, put_get]
      by_cases e : o.dst = some d
      ·rw [if_pos e, if_pos e]; exact h2
      ·rw [if_neg e, if_neg e]
       exact (hI.slots d fun j oj hj hp => hd j oj hj (hpd2 j (alt_of_getElem? hj) hp)).mono h1
     ·have hjl := alt_of_getElem? hj
      have hp0 := hpd1 j hjl hp
      obtain ⟨ob, k', q1, qV, ⟨q2, ⟨y, tot', sz', q3, qk, q4⟩, q5, q5'⟩, d2, q6, q7⟩ := hI.pend j oj hj hp0
      obtain ⟨r1, r2⟩ := hpp j hjl hp0
      refine ⟨ob, k', q1, qV, ⟨q2, ⟨y, tot', sz', r1.trans q3, qk, fun ψ h => q4 ψ (h1.trans h)⟩, r2, q5'⟩, d2, q6, ?_⟩
      rw [put_get, if_neg ((hfree j oj hj hp0).2 d2 q6)]
      exact q7
     ·by_cases e : k = i
      ·subst e; exact hdep hFi j hj (hpd1 j hj hp)
      ·simp only [e, if_false] at hs
       exact hI.dep k j hk hj hs (hpd1 j hj hp)
    rcases T.step i o ho hFi with ⟨h1, h2, h3⟩ | ⟨h1, h2, hqt, h3⟩ | ⟨h1, h2, h3⟩ | ⟨h1, h2, g, args, h3, h4⟩
    ·rw [h1]
     simp only [Bool.false_eq_true, if_false]
     exact still h3 undef (by rw [h2]; exact VR.undef φ')
    ·rw [h1, if_pos rfl]
     left
     have hop := h3 t hI.le (fun j hj hM hb => ?_) (fun j hj hM hb => ?_)
     ·rw [← sZ E o.op _ hρe] at hop
      obtain ⟨v', q1, q2⟩ := aHl E hI.rel hρ2 hqt hop
      unfold Oper.wp
      rw [q2]
      exact still h2 v' q1
     ·have hne : j ≠ i := by intro e; subst e; rw [h2] at hM; cases hM
      have hl := hbef j hj hb hne
      rcases Nat.lt_or_ge j t with h | h
      ·exact h
      ·exfalso
       have := hdep hFi j hj ⟨hI.post j hj hM h hl, hl, h⟩
       rw [this] at hb; cases hb
     ·rcases Nat.lt_or_ge j t with h | h
      ·have hl := hI.pre j hj hM h
       rw [hdep2 j hj hl] at hb; cases hb
      ·exact h
    ·rw [h1, if_pos rfl]
     left
     obtain ⟨m1, _⟩ := hmain h2
     rw [← sZ E o.op _ hρe] at h3
     obtain ⟨φ2, v', w', q1, q2, q3, q4⟩ := @sF σ ⟨⟨p2, π.ds⟩⟩ _ E _ _ _ _ (m1 ▸ hrel2) _ _ hρ2 _ _ h3
     unfold Oper.wp
     rcases q4 with q4 | ⟨q4, rfl⟩
     ·rw [q4]; exact mnext h2 φ2 v' w' q1 q3 q2
     ·rw [q4]; exact mnext h2 φ2 undef w' q1 q3 q2
    ·rw [h1, if_pos rfl]
     left
     obtain ⟨m1, _⟩ := hmain h2
     rw [← oO E o.op hρe] at h3
     obtain ⟨args', q1, q2⟩ := pO E hρ2 h3 w
     unfold Oper.wp
     rw [q2]
     refine (h4 ⟨⟨p2, π.ds⟩⟩ φ' args' w q1 (m1 ▸ hrel2)).mono ?_
     rintro e w' ⟨φ2, v, v', H', r1, rfl, r2, r3, r4, rfl, rfl⟩
     exact mnext h2 φ2 v' w' r1 r2 r3
theorem TraceF.anyAll (T : TraceF E ops F HH V M Fl) (hw0 : ∀ i, i < ops.size → (HH (i + 1)).w0 = (HH i).w0) {Q : AQ} (hQ : Q .normal (F ops.size) (HH ops.size)) (π : Pins) (φ : List Place) (a : Act) (w : World) (hf : FRel φ (F 0) a) (hR : Rel φ (HH 0) w) :
 wpAny P .any ops (iN φ (HH 0).w0 Q) ops.size (Array.replicate ops.size false) a w.drew := by
 have hno : ∀ j, (Array.replicate ops.size false).getD j false = false := by
  intro j
  simp only [Array.getD_eq_getD_getElem?, Array.getElem?_replicate]
  split <;> rfl
 have hcl : fX ops (fun i => (Array.replicate ops.size false).getD i false) := by
  intro i o ho hi
  simp only [hno] at hi; cases hi
 have hI0 : InvC ops F HH V M Fl (fun i => (Array.replicate ops.size false).getD i false) φ 0 (fun _ => 0) a w.drew := by
  refine ⟨Nat.zero_le _, hR.drew, (fun j _ _ h => by omega), (fun j _ _ _ h => by cases (hno j).symm.trans h), fun d _ => ?_, (fun j o hj hp => by cases (hno j).symm.trans hp.2.1), (fun i j _ _ hp => by cases (hno i).symm.trans hp.2.1), (fun k j _ _ h => by cases (hno k).symm.trans h)⟩
  have hS : jT (F 0) ops V (fun i => (Array.replicate ops.size false).getD i false) ops.size d = dA (F 0) d := by
   rw [lH (i := 0) ops.size (Nat.zero_le _)]
   ·rfl
   ·intro k _ hk _
    exact hno k
  rw [hS]
  exact hf.2.2 d
 obtain ⟨φ2, t2, r1, r2, r3⟩ := hI0.normal T hw0 hcl _ 0 φ _ rfl
 refine T.any hw0 hQ φ ops.size (Array.replicate ops.size false) a _ φ2 t2 _ (by simp) hcl hf.1 hf.2.1 r1 r2 r3 ?_
 simp [Array.toList_replicate]
theorem TraceF.region (T : TraceF E ops F HH V M Fl) (hm : P.follows .mixedOrders = true) (hw0 : ∀ i, i < ops.size → (HH (i + 1)).w0 = (HH i).w0) {Q : AQ} (hQ : Q .normal (F ops.size) (HH ops.size)) (id : Nat) :
 ACode P (.region id ops true) Q (F 0) (HH 0) := fun π φ a w hf hR => wp_region_any hm (T.anyAll hw0 hQ π φ a w hf hR)
def mO (bs fl : List Nat) : List Nat → Bool
 | [] => true
 | i :: r => (r.all fun j => (bs.getD j 0).testBit i || fl.contains j) && mO bs fl r
theorem aDe {bs fl : List Nat} : ∀ {ms : List Nat}, mO bs fl ms = true → ms.Pairwise (· < ·) → ∀ i j, i ∈ ms → j ∈ ms → i < j → (bs.getD j 0).testBit i = true ∨ fl.contains j = true := by
 intro ms
 induction ms with
 | nil => intro _ _ i j h; cases h
 | cons m r ih =>
  intro h hs i j hi hj hij
  simp only [mO, Bool.and_eq_true, List.all_eq_true] at h
  rw [List.pairwise_cons] at hs
  rcases List.mem_cons.1 hi with rfl | hi2
  ·rcases List.mem_cons.1 hj with rfl | hj2
   ·omega
   ·have := h.1 j hj2
    simp only [Bool.or_eq_true] at this
    exact this
  ·rcases List.mem_cons.1 hj with rfl | hj2
   ·have := hs.1 i hi2; omega
   ·exact ih h.2 hs.2 i j hi2 hj2 hij
end
section
variable {P : Program} {E : Env P} {S H0 : AH} {A0 A : Nat → Prop} {L : OL} {K : AQ}
end
theorem XCall.b {P : Program} {g : FuncId} {args : List Value} {H : AH} {b b' : Bool} {K : AH → Prop} (h : XCall P g args H fun v H' => v = .bool b ∧ K H') (hb : b = b') : XCall P g args H fun v H' => v = .bool b' ∧ K H' := by rw [← hb]; exact h
theorem XCall.i {P : Program} {g : FuncId} {args : List Value} {H : AH} {k : IntKind} {b b' : Int} {K : AH → Prop} (h : XCall P g args H fun v H' => v = .int k b ∧ K H') (hb : b = b') : XCall P g args H fun v H' => v = .int k b' ∧ K H' := by rw [← hb]; exact h
end Go.AM
namespace Go.AM
open Go.RowKit
variable [σ : Sg]
section
variable {A : Nat → Prop} {H : AH}
end
section
variable {P : Program} {E : Env P} {G : RG} {i n d : Nat} {r : List Oper} {Q : Fr → AH → Prop} {t : Tr Value} {l : List (Nat × Value)} {S H0 : AH} {A0 A : Nat → Prop} {L L' : OL} {v u : Value}
 {ty : TypeId} {ps : String} {af : Array Edge} {gd : Option (Nat × Bool)} {x y z : Operand}
def kH (S H0 : AH) (A0 A : Nat → Prop) (L : OL) (sz m : Nat) (x : Value) (new : List Value) : Prop := jB x = some m ∧ new.length = m * sz ∧ (∀ H, HS S H0 A0 A L H → eM sz m x H = some new) ∧ aJq x = false
theorem iP {K sz sz' m cap : Nat} {cs : List Value} {ex : Bool} (hm : (K, AObj.cells cs sz' ex) ∈ L) (hl : cs.length = m * sz) : kH S H0 A0 A L sz m (.slice (some ⟨2 * K + 1, 0, none⟩) m cap) cs :=
 ⟨rfl, hl, fun H hH => by
  simp only [eM]
  rw [fC (hH.own _ hm).1 0 (m * sz) none (by omega)]
  simp [← hl], rfl⟩
theorem aCx {sz m cap : Nat} {p : Addr} {cs : List Value} (hA : InA A p.block) (hl : aloads H0 p (m * sz) = some cs) : kH S H0 A0 A L sz m (.slice (some p) m cap) cs :=
 ⟨rfl, aDd hl, fun H hH => by simp only [eM]; rw [hH.gr.aloads hA]; exact hl, rfl⟩
theorem yG {m : Nat} {s : ByteArray} {cs : List Value} (hm : s.data.toList.length = m) (hc : (s.data.toList.map fun b => Value.int .u8 b.toNat) = cs) (H : AH) : jB (.string s) = some m ∧ cs.length = m * 1 ∧ eM 1 m (.string s) H = some cs :=
 ⟨by simp only [jB, hm], by rw [← hc, List.length_map, hm, Nat.mul_one], by simp only [eM]; rw [← hc, ← hm, List.take_length]⟩
theorem sY {c : Call} {e sT xT : TypeId} {dx : TypeDesc} {ii : TI} {zv : Value} {base : Option Addr} {sl m sz bt : Nat} {w : Value} {old new cs' : List Value} (hw : gok G.ops l gd = true) (hdn : Nat.ble (d + 1) n = true) (hm : G.D = true → i ∈ G.ms) (hc : c.callee = .builtin .append) (ha : c.args.toList = [x, y]) (ht : c.argTypes.toList = [sT, xT])
 (hx : opv l x = some (.slice base sl sl)) (hy : opv l y = some w) (hu : E.und sT = some (.slice e)) (hux : E.und xT = some dx) (hdx : gX dx = false) (hi : E.inf e = some ii) (hz : ii.zero = some zv) (hs : ii.size = sz) (hs0 : sz ≠ 0) (hbt : ii.bytes = bt) (hm0 : m ≠ 0) (hf : kH G.S H0 G.A0 A L sz m w new)
 (ho : (base = none ∧ sl = 0 ∧ old = []) ∨ ∃ N, base = some ⟨2 * N + 1, 0, none⟩ ∧ (N, AObj.cells old sz true) ∈ L ∧ old.length = sl * sz) (hbig : jC (sl + m) bt = true) (hbig2 : sl + m ≤ 140737488355328) (hcs : old ++ new = cs') {k : Nat} (hk : sl + m = k)
 (h : ∀ M, SO E G (i + 1) r Q (fr n t ((d, .slice (some ⟨2 * M + 1, 0, none⟩) k k) :: l)) H0 A ((M, .cells cs' sz false) :: L)) : SO E G i (⟨some d, .call c, ty, ps, af, gd⟩ :: r) Q (fr n t l) H0 A L := by
 subst hs; subst hbt; subst hcs; subst hk
 refine oB (f := fun N => .slice (some ⟨2 * N + 1, 0, none⟩) (sl + m) (sl + m)) hw rfl hdn hm (fun H hH => ?_) h
 have e1 : (Nat.beq ii.size 0 || ii.zero.isNone) = false := by
  rw [hz]; cases hq : ii.size with
  | zero => exact absurd hq hs0
  | succ k => rfl
 have e2 : Nat.beq m 0 = false := by cases m with | zero => exact absurd rfl hm0 | succ k => rfl
 have e3 : Nat.ble (sl + m) sl = false := by
  cases hq : Nat.ble (sl + m) sl with
  | false => rfl
  | true => have := Nat.le_of_ble_eq_true hq; omega
 have hlen := hf.2.1
 rcases ho with ⟨rfl, rfl, rfl⟩ | ⟨N, rfl, hmem, hol⟩
 ·simp only [aop, hc, ha, ht, iJ, bF hx, bF hy, hu, hux, hdx, cond_false, hi, hf.1, e1, hf.2.2.1 H hH, e2]
  have e4 : (jC (0 + m) ii.bytes && (Nat.ble (0 + m) 140737488355328 && (Nat.beq ([] : List Value).length (0 * ii.size) && Nat.beq new.length (m * ii.size)))) = true := by
   simp only [Bool.and_eq_true]
   exact ⟨hbig, Nat.ble_eq_true_of_le hbig2, by simp, by rw [hlen]; simp⟩
  simp only [show (Nat.beq 0 0 && Nat.beq 0 0) = true from rfl, cond_true, fF, eM, show Nat.beq 0 0 = true from rfl, e4, eD, show pH e w ii.size = ii.size by (unfold pH; rw [hf.2.2.2]; rfl)]
  rfl
 ·have hg : H.tr.get N = some (.cells old ii.size true) := (hH.own _ hmem).1
  have e5 : Nat.ble (old.length + 1) (0 + (sl + m) * ii.size) = true := by
   refine Nat.ble_eq_true_of_le ?_
   have : (sl + m) * ii.size = sl * ii.size + m * ii.size := Nat.add_mul ..
   have h1 : 1 ≤ m * ii.size := Nat.mul_pos (Nat.pos_of_ne_zero hm0) (Nat.pos_of_ne_zero hs0)
   omega
  have e6 : aloads H ⟨2 * N + 1, 0, none⟩ (sl * ii.size) = some old := by
   rw [fC hg 0 _ none (by omega)]; simp [← hol]
  have e7 : eM ii.size sl (.slice (some ⟨2 * N + 1, 0, none⟩) sl sl) H = some old := by simp only [eM]; exact e6
  have e4 : (jC (sl + m) ii.bytes && (Nat.ble (sl + m) 140737488355328 && (Nat.beq old.length (sl * ii.size) && Nat.beq new.length (m * ii.size)))) = true := by
   simp only [Bool.and_eq_true]
   exact ⟨hbig, Nat.ble_eq_true_of_le hbig2, by rw [hol]; simp, by rw [hlen]; simp⟩
  simp only [aop, hc, ha, ht, iJ, bF hx, bF hy, hu, hux, hdx, cond_false, hi, hf.1, e1, hf.2.2.1 H hH, e2, iU, cR, hg, show lR ii.size ii.size e = true by simp [lR], cond_true, e3, e5, fF, e7, e4, eD]
theorem aHh {c : Call} {e sT xT : TypeId} {dx : TypeDesc} {ii : TI} {zv : Value} {N sl m sz bt : Nat} {w : Value} {old new cs' : List Value} (hw : gok G.ops l gd = true) (hdn : Nat.ble (d + 1) n = true) (hm : G.D = true → i ∈ G.ms) (hc : c.callee = .builtin .append) (ha : c.args.toList = [x, y]) (ht : c.argTypes.toList = [sT, xT])
 (hx : opv l x = some (.slice (some ⟨2 * N + 1, 0, none⟩) sl sl)) (hy : opv l y = some w) (hu : E.und sT = some (.slice e)) (hux : E.und xT = some dx) (hdx : gX dx = false) (hi : E.inf e = some ii) (hz : ii.zero = some zv) (hs : ii.size = sz) (hs0 : sz ≠ 0) (hbt : ii.bytes = bt) (hm0 : m ≠ 0) (hf : kH G.S H0 G.A0 A L sz m w new)
 (hr : Rem N (.cells old sz false) L L') (hol : old.length = sl * sz) (h1 : cO new = true) (hbig : jC (sl + m) bt = true) (hbig2 : sl + m ≤ 140737488355328) (hcs : old ++ new = cs') (hD' : G.D = true → G.Lw.Sublist L') {k : Nat} (hk : sl + m = k)
 (h : ∀ M, SO E G (i + 1) r Q (fr n t ((d, .slice (some ⟨2 * M + 1, 0, none⟩) k k) :: l)) H0 A ((M, .cells cs' sz false) :: L')) : SO E G i (⟨some d, .call c, ty, ps, af, gd⟩ :: r) Q (fr n t l) H0 A L := by
 subst hs; subst hbt; subst hcs; subst hk
 refine mP hw rfl hdn hm fun hD H hH => ?_
 have e1 : (Nat.beq ii.size 0 || ii.zero.isNone) = false := by
  rw [hz]; cases hq : ii.size with
  | zero => exact absurd hq hs0
  | succ k => rfl
 have e2 : Nat.beq m 0 = false := by cases m with | zero => exact absurd rfl hm0 | succ k => rfl
 have e3 : Nat.ble (sl + m) sl = false := by
  cases hq : Nat.ble (sl + m) sl with
  | false => rfl
  | true => have := Nat.le_of_ble_eq_true hq; omega
 have hg : H.tr.get N = some (.cells old ii.size false) := (hH.own _ hr.mem).1
 have hk := (hH.kill hr).push (.cells (old ++ new) ii.size false)
 refine ⟨_, _, H0, A, (H.nx, .cells (old ++ new) ii.size false) :: L', .inl ?_, hk, (hD.list hD').push _, h H.nx⟩
 have e4 : (Nat.beq (0 + sl * ii.size) old.length && (jC (sl + m) ii.bytes && (Nat.ble (sl + m) 140737488355328 && (Nat.beq new.length (m * ii.size) && cO new)))) = true := by
  simp only [Bool.and_eq_true]
  exact ⟨by rw [hol]; simp, hbig, Nat.ble_eq_true_of_le hbig2, by rw [hf.2.1]; simp, h1⟩
 simp only [aop, hc, ha, ht, iJ, bF hx, bF hy, hu, hux, hdx, cond_false, hi, hf.1, e1, hf.2.2.1 H hH, e2, iU, cR, hg, show lR ii.size ii.size e = true by simp [lR], cond_true, e3, e4, eD, List.drop_zero]
theorem tN {ta e : TypeId} {a b a' b' : Nat} (hu : E.und ta = some (.slice e)) : cT E .eql ta (.slice none a b) (.slice none a' b') = some (.bool true) := by simp [cT, hu, iL]
theorem tS {ta e : TypeId} {p : Addr} {a b a' b' : Nat} (hu : E.und ta = some (.slice e)) : cT E .eql ta (.slice (some p) a b) (.slice none a' b') = some (.bool false) := by simp [cT, hu, iL]
theorem aIe {ta kt et : TypeId} {N : Nat} {es es' : List (Value × Value × Nat)} {cl cl' : Nat} {k w : Value} {dk : TypeDesc} (hw : gok G.ops l gd = true) (hm : G.D = true → i ∈ G.ms) (hx : opv l x = some (.map (some (2 * N + 1)))) (hy : opv l y = some k) (hz : opv l z = some w) (hu : E.und ta = some (.map kt et)) (hk : E.und kt = some dk) (hki : kK dk k = true)
 (hu2 : Upd N (.map es cl) (.map es' cl') L L') (hf : (∃ j b, tT dk k es 0 = some (some (j, b)) ∧ es' = es.modify j (fun e => (k, w, e.2.2)) ∧ cl' = cl) ∨ (tT dk k es 0 = some none ∧ es' = es ++ [(k, w, cl)] ∧ cl' = cl + 1)) (hD : G.D = true → G.Lw.Sublist L')
 (h : SO E G (i + 1) r Q (fr n t l) H0 A L') : SO E G i (⟨none, .mapUpdate ta x y z, ty, ps, af, gd⟩ :: r) Q (fr n t l) H0 A L :=
 aFu hw rfl hm fun hDs H hH => by
  refine ⟨undef, _, H0, A, L', .inl ?_, hH.set hu2, hDs.list hD, h⟩
  have hg : H.tr.get N = some (.map es cl) := (hH.own _ hu2.mem).1
  rcases hf with ⟨j, b, h1, rfl, rfl⟩ | ⟨h1, rfl, rfl⟩
  ·simp only [aop, bF hx, bF hy, bF hz, hX, orE, hG, hu, iU, cond_false, hk, cR, hg, hki, cond_true, h1]
  ·simp only [aop, bF hx, bF hy, bF hz, hX, orE, hG, hu, iU, cond_false, hk, cR, hg, hki, cond_true, h1]
end
def Cloned (A : Nat → Prop) (S : AH) (ks : List Kd) (l : List (List CT)) (u : Value) (H' : AH) (N0 : Nat) : Prop :=
 (u = .slice none 0 0 ∧ l = []) ∨ ∃ M cells ex, u = .slice (some ⟨2 * M + 1, 0, none⟩) l.length l.length ∧ H'.tr.get M = some (.cells cells ks.length ex) ∧ N0 ≤ M ∧ M < H'.nx ∧ cells.length = l.length * ks.length ∧ cO cells = true ∧ ∀ (i : Nat) c, l[i]? = some c → CellsA A S ks ((cells.drop (i * ks.length)).take ks.length) c
theorem Cloned.cell {A : Nat → Prop} {S H' : AH} {b : Nat} {ks : List Kd} {l : List (List CT)} {u : Value} (h : Cloned A S ks l u H' S.nx) (hk : Kept S.nx S H') (hA : ∀ j, A j → j < S.nx) (h1 : l.length ≤ 140737488351232) (h2 : l.length * b ≤ 140737488351232) : CellA (fun j => A j ∨ (S.nx ≤ j ∧ j < H'.nx)) H' (.row b ks) u (.row l) := by
 rcases h with ⟨rfl, rfl⟩ | ⟨M, cells, ex, rfl, hg, hM, hM2, hl, _, hc⟩
 ·simp only [CellA]
  exact ⟨by simp, by simp, .inl ⟨trivial, trivial⟩⟩
 ·have g : Gr A S (fun j => A j ∨ (S.nx ≤ j ∧ j < H'.nx)) H' := ⟨fun j hj => .inl hj, fun j hj => hk.get j (hA j hj), hk.w0⟩
  exact aQn hg (.inr ⟨hM, hM2⟩) rfl rfl (by rw [hl]; exact Nat.le_refl _) (fun i c hi => CellsA.gr g _ _ _ (hc i c hi)) (Nat.le_refl _) h1 h2
theorem aGt {l : List Value} (h : ∀ v ∈ l, v.oneCell' = true) : cO l = true := by
 induction l with
 | nil => rfl
 | cons v r ih => simp only [cO, Bool.and_eq_true]; exact ⟨h v (List.mem_cons_self ..), ih fun u hu => h u (List.mem_cons_of_mem _ hu)⟩
def PtsX (A : Nat → Prop) (H : AH) (ks : List Kd) (ex : Nat → Bool) (x : Nat → Value) (c : Nat → CT) : Prop := ∀ i k, ks[i]? = some k → ex i = false → CellA A H k (x i) (c i)
section
variable {A A' : Nat → Prop} {H H' : AH} {ks : List Kd} {ex : Nat → Bool} {x y : Nat → Value} {c : Nat → CT}
theorem PtsX.gr (h : PtsX A H ks ex x c) (g : Gr A H A' H') : PtsX A' H' ks ex x c := fun i k hk he => CellA.gr g _ _ _ (h i k hk he)
theorem PtsX.one (h : PtsX A H ks ex x c) {n : Nat} (hn : ks.length = n) (he : ∀ i, ex i = true → (x i).oneCell' = true) : cO (cellsOf n x) = true := by
 refine aGt fun v hv => ?_
 simp only [cellsOf, List.mem_map, List.mem_range] at hv
 obtain ⟨i, hi, rfl⟩ := hv
 cases hx : ex i with
 | true => exact he i hx
 | false => exact (h i _ (List.getElem?_eq_getElem (by omega)) hx).one
theorem bM {n : Nat} {x : Nat → Value} : ((cellsOf n x).drop 0).take n = cellsOf n x := by
 rw [List.drop_zero, List.take_of_length_le (by rw [aI]; exact Nat.le_refl _)]
theorem bK {n : Nat} {x : Nat → Value} {cs : List Value} (h : cs.length = n) : cs.take 0 ++ (cellsOf n x ++ cs.drop (0 + (cellsOf n x).length)) = cellsOf n x := cD (by rw [aI, h])
theorem Pts.shift (h : Pts A H ks x c) (o m : Nat) : Pts A H ((ks.drop o).take m) (fun i => x (o + i)) (fun i => c (o + i)) := fun i k hk => by
 rw [List.getElem?_take] at hk
 split at hk
 ·rw [List.getElem?_drop] at hk; exact h _ k hk
 ·cases hk
theorem PtsX.back {e : Nat} {ex2 : Nat → Bool} (h : PtsX A H ks ex x c) {k : Kd} (hk : ks[e]? = some k) (hv : CellA A H k (x e) (c e)) (he : ∀ i, ex2 i = false → i ≠ e → ex i = false) : PtsX A H ks ex2 x c := fun i k' hk' h2 => by
 by_cases hi : i = e
 ·subst hi; rw [hk] at hk'; cases hk'; exact hv
 ·exact h i k' hk' (he i h2 hi)
end
end Go.AM
namespace Go.AM
open Go.RowKit
variable [σ : Sg]
def aAx (P : Program) (f : TypeId → Option (List Kd)) : List Field → Nat → Option (List Kd)
 | [], _ => some []
 | fd :: fs, off =>
  match f fd.type, aAx P f fs (off + P.cellsOf fd.type) with
  | some ks, some r => bif Nat.beq fd.offset off && Nat.beq ks.length (P.cellsOf fd.type) then some (ks ++ r) else none
  | _, _ => none
def aBz (P : Program) : Nat → TypeId → Option (List Kd)
 | 0, _ => none
 | n + 1, t =>
  match P.underlying t with
  | some (.int k) => some [.int k]
  | some .bool => some [.bool]
  | some .string => some [.str]
  | some (.slice e) => (match aBz P n e with
   | some ks => bif Nat.beq ks.length (P.cellsOf e) && Nat.ble 1 (P.bytesOf e) then some [.row (P.bytesOf e) ks] else none
   | none => none)
  | some (.struct fs) => (match aAx P (aBz P n) fs.toList 0 with
   | some ks => bif Nat.beq ks.length (P.cellsOf t) then some ks else none
   | none => none)
  | some (.array m e) => (match aBz P n e with
   | some ks => bif Nat.beq ks.length (P.cellsOf e) && Nat.beq (m * ks.length) (P.cellsOf t) then some (List.replicate m ks).flatten else none
   | none => none)
  | _ => none
theorem aCc {α : Type} {Q : Nat → α → Prop} : ∀ n, (∀ i, i < n → ∃ c, Q i c) → ∃ l : List α, l.length = n ∧ ∀ (i : Nat) c, l[i]? = some c → Q i c := by
 intro n
 induction n with
 | zero => intro _; exact ⟨[], rfl, fun i c h => by simp at h⟩
 | succ n ih =>
  intro h
  obtain ⟨l, h1, h2⟩ := ih fun i hi => h i (by omega)
  obtain ⟨c, hc⟩ := h n (by omega)
  refine ⟨l ++ [c], by simp [h1], fun i d hd => ?_⟩
  by_cases hi : i < n
  ·rw [List.getElem?_append_left (by omega)] at hd; exact h2 i d hd
  ·rw [List.getElem?_append_right (by omega)] at hd
   have h0 : i - l.length = 0 := by have := lt_of_getElem? hd; simp at this; omega
   rw [h0] at hd; simp at hd; subst hd
   rw [show i = n by omega]; exact hc
theorem aGc {α β : Type} {f : α → Option β} : ∀ {l : List α} {r : List β}, l.mapM f = some r → r.length = l.length ∧ ∀ (i : Nat) x, l[i]? = some x → ∃ y, r[i]? = some y ∧ f x = some y := by
 intro l
 induction l with
 | nil => intro r h; simp at h; subst h; exact ⟨rfl, fun i x h => by simp at h⟩
 | cons a l ih =>
  intro r h
  simp only [List.mapM_cons, Option.bind_eq_bind, Option.pure_def] at h
  cases ha : f a with
  | none => rw [ha] at h; simp at h
  | some y =>
   cases hl : l.mapM f with
   | none => rw [ha, hl] at h; simp at h
   | some r' =>
    rw [ha, hl] at h; simp at h; subst h
    obtain ⟨h1, h2⟩ := ih hl
    refine ⟨by simp [h1], fun i x hx => ?_⟩
    cases i with
    | zero => simp at hx; subst hx; exact ⟨y, rfl, ha⟩
    | succ i => exact h2 i x (by simpa using hx)
theorem aAt (a b : List Value) : dJ (a ++ b) = dJ a ++ dJ b := by
 induction a with
 | nil => simp [dJ]
 | cons x a ih => simp [dJ, ih]
section
variable {T : Type} {enc : TypeId × Value → T} {P : Program} {W : World}
theorem nR {e : TypeId} : ∀ {l : List (DataW T)} {d : DataW T}, d ∈ l → ∀ w ∈ d.weights P e, w ∈ DataW.weightsAll P e l := by
 intro l
 induction l with
 | nil => intro d h; cases h
 | cons a l ih =>
  intro d h w hw
  simp only [DataW.weightsAll, List.mem_append]
  rcases List.mem_cons.1 h with rfl | h
  ·exact .inl hw
  ·exact .inr (ih h w hw)
def Holds (enc : TypeId × Value → T) (P : Program) (W : World) (f : TypeId → Option (List Kd)) : Prop := ∀ (t : TypeId) (ks : List Kd) (fuel : Nat) (cs : List Value) (x : DataW T × List MemPlace), f t = some ks → DataW.trod enc P W 0 (fun _ => true) true fuel t cs = some x → (∀ w ∈ x.1.weights P t, w ≤ reachBytes) → ∃ c, CellsA (fun _ => False) (start W) ks (dJ cs) c
theorem aAf {f : TypeId → Option (List Kd)} (IH : Holds enc P W f) {fuel : Nat} {cs : List Value} : ∀ (fs : List Field) (off : Nat) (ks : List Kd) (r : List (DataW T × List MemPlace)), aAx P f fs off = some ks →
 (fs.mapM fun f => DataW.trod enc P W 0 (fun _ => true) true fuel f.type ((cs.drop f.offset).take (P.cellsOf f.type))) = some r → (∀ w ∈ DataW.weightsEach P (fs.map (·.type)) (r.map (·.1)), w ≤ reachBytes) →
 ∃ c, CellsA (fun _ => False) (start W) ks (dJ ((cs.drop off).take ks.length)) c := by
 intro fs
 induction fs with
 | nil => intro off ks r hk _ _; simp only [aAx] at hk; cases hk; exact ⟨[], by simp [dJ, CellsA]⟩
 | cons fd fs ih =>
  intro off ks r hk hm hw
  simp only [aAx] at hk
  split at hk
  ·rename_i k1 k2 e1 e2
   cases hb : (Nat.beq fd.offset off && Nat.beq k1.length (P.cellsOf fd.type)) with
   | false => rw [hb] at hk; cases hk
   | true =>
    rw [hb, cond_true] at hk
    cases hk
    obtain ⟨b1, b2⟩ := Bool.and_eq_true_iff.1 hb
    have b1 := Nat.eq_of_beq_eq_true b1
    have b2 := Nat.eq_of_beq_eq_true b2
    simp only [List.mapM_cons, Option.bind_eq_bind, Option.pure_def] at hm
    cases h1 : DataW.trod enc P W 0 (fun _ => true) true fuel fd.type ((cs.drop fd.offset).take (P.cellsOf fd.type)) with
    | none => rw [h1] at hm; simp at hm
    | some y =>
     cases h2 : (fs.mapM fun f => DataW.trod enc P W 0 (fun _ => true) true fuel f.type ((cs.drop f.offset).take (P.cellsOf f.type))) with
     | none => rw [h1, h2] at hm; simp at hm
     | some r' =>
      rw [h1, h2] at hm
      simp at hm
      subst hm
      simp only [List.map_cons, DataW.weightsEach, List.mem_append] at hw
      obtain ⟨c1, hc1⟩ := IH _ _ _ _ _ e1 h1 fun w h => hw w (.inl h)
      obtain ⟨c2, hc2⟩ := ih _ _ _ e2 h2 fun w h => hw w (.inr h)
      refine ⟨c1 ++ c2, ?_⟩
      rw [b1, ← b2] at hc1
      rw [← b2, ← List.drop_drop] at hc2
      rw [List.length_append, List.take_add, aAt]
      exact hc1.append hc2
  ·cases hk
theorem aCa {f : TypeId → Option (List Kd)} (IH : Holds enc P W f) {fuel e : Nat} {cs : List Value} {ks : List Kd} (he : f e = some ks) (hl : ks.length = P.cellsOf e) {m : Nat} {r : List (DataW T × List MemPlace)}
 (hm : ((List.range m).mapM fun i => DataW.trod enc P W 0 (fun _ => true) true fuel e ((cs.drop (i * P.cellsOf e)).take (P.cellsOf e))) = some r) (hw : ∀ w ∈ DataW.weightsAll P e (r.map (·.1)), w ≤ reachBytes) :
 ∀ j, j ≤ m → ∃ c, CellsA (fun _ => False) (start W) (List.replicate j ks).flatten (dJ (cs.take (j * ks.length))) c := by
 obtain ⟨q1, q2⟩ := aGc hm
 intro j
 induction j with
 | zero => intro _; exact ⟨[], by simp [dJ, CellsA]⟩
 | succ j ih =>
  intro hj
  obtain ⟨c1, h1⟩ := ih (by omega)
  obtain ⟨y, y1, y2⟩ := q2 j j (List.getElem?_range (by omega))
  obtain ⟨c2, h2⟩ := IH _ _ _ _ _ he y2 fun w hw' => hw w (nR (List.mem_map.2 ⟨y, List.mem_of_getElem? y1, rfl⟩) w hw')
  refine ⟨c1 ++ c2, ?_⟩
  rw [← hl] at h2
  rw [List.replicate_succ', List.flatten_append, List.flatten_singleton, Nat.add_mul, Nat.one_mul, List.take_add, aAt]
  exact h1.append h2
theorem vG : ∀ (n : Nat), Holds enc P W (aBz P n) := by
 intro n
 induction n with
 | zero => intro t ks fuel cs x hk; simp [aBz] at hk
 | succ n ih =>
  intro t ks fuel cs x hk h hw
  cases fuel with
  | zero => simp [DataW.trod] at h
  | succ fuel =>
   simp only [aBz] at hk
   split at hk
   ·rename_i k hu
    cases hk
    obtain ⟨m, rfl, hm⟩ := Reads.int hu ⟨_, _, h⟩
    exact ⟨[.v (.int k m)], by simp only [dJ, ext, CellsA, CellA]; exact ⟨⟨trivial, m, rfl, hm⟩, trivial⟩⟩
   ·rename_i hu
    cases hk
    obtain ⟨m, rfl⟩ := Reads.bool hu ⟨_, _, h⟩
    exact ⟨[.v (.bool m)], by simp only [dJ, ext, CellsA, CellA]; exact ⟨⟨trivial, m, rfl⟩, trivial⟩⟩
   ·rename_i hu
    cases hk
    obtain ⟨m, rfl, hm⟩ := Reads.string hu ⟨_, _, h⟩
    exact ⟨[.v (.string m)], by simp only [dJ, ext, CellsA, CellA]; exact ⟨⟨trivial, m, rfl, hm⟩, trivial⟩⟩
   ·rename_i e hu
    split at hk
    ·rename_i k1 e1
     cases hb : (Nat.beq k1.length (P.cellsOf e) && Nat.ble 1 (P.bytesOf e)) with
     | false => rw [hb] at hk; cases hk
     | true =>
      rw [hb, cond_true] at hk
      cases hk
      obtain ⟨b1, b2⟩ := Bool.and_eq_true_iff.1 hb
      have b1 := Nat.eq_of_beq_eq_true b1
      have b2 := Nat.le_of_ble_eq_true b2
      unfold DataW.trod at h
      rw [hu] at h
      split at h <;> (try (rename_i h1 _; cases h1; done)) <;> (try (rename_i h1; cases h1; done))
      ·exact ⟨[.row []], by simp only [dJ, ext, CellsA, CellA]; exact ⟨⟨Nat.zero_le _, by simp, .inl ⟨trivial, trivial⟩⟩, trivial⟩⟩
      ·rename_i e' a len cap h1
       cases h1
       split at h
       ·rename_i hc
        simp only at h
        cases hm : (List.range len).mapM (fun i => (W.cells? 0 (a.add (i * P.cellsOf e)) (P.cellsOf e)).bind (DataW.trod enc P W 0 (fun _ => true) true fuel e)) with
        | none => rw [hm] at h; cases h
        | some r =>
         rw [hm, Option.bind_some] at h
         simp only [if_true] at h
         cases hr : (List.range (cap - len)).mapM (fun j => (W.cells? 0 (a.add ((len + j) * P.cellsOf e)) (P.cellsOf e)).bind (DataW.trod enc P W 0 (fun _ => true) true fuel e)) with
         | none => rw [hr] at h; cases h
         | some r' =>
          rw [hr, Option.map_some] at h
          cases h
          simp only [DataW.weights, hu, List.mem_cons, List.mem_append] at hw
          obtain ⟨q1, q2⟩ := aGc hm
          rw [List.length_range] at q1
          have hlen : (r.length + r'.length) * P.bytesOf e ≤ 140737488351232 := by have := hw _ (.inl rfl); simpa [reachBytes] using this
          have hl1 : len * P.bytesOf e ≤ 140737488351232 := Nat.le_trans (Nat.mul_le_mul_right _ (by omega)) hlen
          have hl0 : len ≤ 140737488351232 := Nat.le_trans (Nat.le_mul_of_pos_right _ b2) hl1
          obtain ⟨l, l1, l2⟩ : ∃ l : List (List CT), l.length = len ∧ ∀ (i : Nat) c, l[i]? = some c → ∃ xs, aloads (start W) ((dC a).add (i * k1.length)) k1.length = some xs ∧ CellsA (fun _ => False) (start W) k1 xs c := by
           refine aCc len fun i hi => ?_
           obtain ⟨y, y1, y2⟩ := q2 i i (List.getElem?_range hi)
           cases hcl : W.cells? 0 (a.add (i * P.cellsOf e)) (P.cellsOf e) with
           | none => rw [hcl] at y2; cases y2
           | some lc =>
            rw [hcl, Option.bind_some] at y2
            obtain ⟨p1, p2⟩ := cells?_read hcl
            obtain ⟨c, hcc⟩ := ih _ _ _ _ _ e1 y2 fun w hw' => hw w (.inr (.inl (nR (List.mem_map.2 ⟨y, List.mem_of_getElem? y1, rfl⟩) w hw')))
            refine ⟨c, dJ lc, ?_, hcc⟩
            have h9 := aCu (H := start W) p2
            rw [p1] at h9
            rw [b1, aBa]
            exact h9
          refine ⟨[.row l], ?_⟩
          simp only [dJ, ext, CellsA, CellA]
          refine ⟨⟨by omega, by rw [l1]; exact hl1, .inr ⟨dC a, cap, by rw [l1], by omega, ⟨.inl (by simp [dC]), fun h9 => by simp [dC] at h9⟩, l2⟩⟩, trivial⟩
       ·cases h
      ·cases h
    ·cases hk
   ·rename_i fs hu
    split at hk
    ·rename_i k1 e1
     cases hb : Nat.beq k1.length (P.cellsOf t) with
     | false => rw [hb] at hk; cases hk
     | true =>
      rw [hb, cond_true] at hk
      cases hk
      have b1 := Nat.eq_of_beq_eq_true hb
      simp only [DataW.trod, hu] at h
      split at h
      ·rename_i hc
       cases hm : fs.toList.mapM (fun f => DataW.trod enc P W 0 (fun _ => true) true fuel f.type ((cs.drop f.offset).take (P.cellsOf f.type))) with
       | none => rw [hm] at h; cases h
       | some r =>
        rw [hm, Option.map_some] at h
        cases h
        simp only [DataW.weights, hu] at hw
        obtain ⟨c, hcc⟩ := aAf ih _ _ _ _ e1 hm hw
        rw [List.drop_zero, b1, ← hc, List.take_length] at hcc
        exact ⟨c, hcc⟩
      ·cases h
    ·cases hk
   ·rename_i m e hu
    split at hk
    ·rename_i k1 e1
     cases hb : (Nat.beq k1.length (P.cellsOf e) && Nat.beq (m * k1.length) (P.cellsOf t)) with
     | false => rw [hb] at hk; cases hk
     | true =>
      rw [hb, cond_true] at hk
      cases hk
      obtain ⟨b1, b2⟩ := Bool.and_eq_true_iff.1 hb
      have b1 := Nat.eq_of_beq_eq_true b1
      have b2 := Nat.eq_of_beq_eq_true b2
      simp only [DataW.trod, hu] at h
      split at h
      ·rename_i hc
       cases hm : (List.range m).mapM (fun i => DataW.trod enc P W 0 (fun _ => true) true fuel e ((cs.drop (i * P.cellsOf e)).take (P.cellsOf e))) with
       | none => rw [hm] at h; cases h
       | some r =>
        rw [hm, Option.map_some] at h
        cases h
        simp only [DataW.weights, hu] at hw
        obtain ⟨c, hcc⟩ := aCa ih e1 b1 hm hw m (Nat.le_refl _)
        rw [b2, ← hc, List.take_length] at hcc
        exact ⟨c, hcc⟩
      ·cases h
    ·cases hk
   ·cases hk
end
end Go.AM
namespace Go.AM
open Go.RowKit
variable [σ : Sg]
section
variable {P : Program} {E : Env P} {G : RG} {i n d : Nat} {r : List Oper} {Q : Fr → AH → Prop} {t : Tr Value} {l : List (Nat × Value)} {H0 : AH} {A : Nat → Prop} {L L' : OL} {v : Value}
 {ty : TypeId} {ps : String} {af : Array Edge} {gd : Option (Nat × Bool)}
theorem aMb {c : Call} {g : FuncId} {vs : List Value} {N : Nat} {o o' : AObj} (hw : gok G.ops l gd = true) (hdn : Nat.ble (d + 1) n = true) (hm : G.D = true → i ∈ G.ms) (hc : c.callee = .value (.func g)) (hg : ∃ fn, E.fn g = some fn) (ha : Opvs l c.args.toList vs) (hu : Upd N o o' L L') (hDs : G.D = true → G.Lw.Sublist L')
 (hk : ∀ H, HS G.S H0 G.A0 A L H → XCall P g vs H fun u H' => u = v ∧ H' = { H with tr := H.tr.set N (some o') })
 (h : SO E G (i + 1) r Q (fr n t ((d, v) :: l)) H0 A L') : SO E G i (⟨some d, .call c, ty, ps, af, gd⟩ :: r) Q (fr n t l) H0 A L :=
 mP hw rfl hdn hm fun hD H hH => by
  obtain ⟨fn, hg⟩ := hg
  obtain ⟨u, H', ⟨rfl, rfl⟩, hw0, hcall⟩ := hk H hH
  refine ⟨u, _, H0, A, L', .inr ⟨hw0, g, vs, ?_, hcall⟩, hH.set hu, hD.list hDs, h⟩
  simp only [dE, hc, oC, hg, ha.ok, List.append_nil, List.nil_append]
theorem HS.less {S H0 H : AH} {A0 A : Nat → Prop} {L L1 : OL} (h : HS S H0 A0 A L H) (hs : L1.Sublist L) : HS S H0 A0 A L1 H := ⟨h.kept, h.base, h.w0, h.sub, h.lt, fun p hp => h.own p (hs.subset hp), h.dist.sublist hs⟩
end
end Go.AM
namespace Go.AM
open Go.RowKit
variable [σ : Sg]
section
variable {P : Program} {E : Env P} {c : Code} {K : AQ} {f : Fr} {S H0 : AH} {A0 A : Nat → Prop} {L : OL}
end
section
variable {P : Program} {E : Env P} {G : RG} {i : Nat} {rest : List Oper} {Q : Fr → AH → Prop} {f : Fr} {H0 : AH} {A : Nat → Prop} {L L' : OL}
end
section
variable {A : Nat → Prop} {H : AH}
end
end Go.AM
namespace Go.AM
open Go.RowKit
variable [σ : Sg]
section
variable {P : Program} {E : Env P} {G : RG} {i n d : Nat} {r : List Oper} {Q : Fr → AH → Prop} {t : Tr Value} {l : List (Nat × Value)} {H0 : AH} {A : Nat → Prop} {L L' : OL} {v : Value} {x y : Operand} {gd : Option (Nat × Bool)} {af : Array Edge} {ps : String} {ty : TypeId}
end
section
variable {A : Nat → Prop} {H : AH}
end
theorem XCall.e {P : Program} {g : FuncId} {args : List Value} {H : AH} {a b : Value} {K : AH → Prop} (h : XCall P g args H fun v H' => v = a ∧ K H') (e : a = b) : XCall P g args H fun v H' => v = b ∧ K H' := e ▸ h
end Go.AM
