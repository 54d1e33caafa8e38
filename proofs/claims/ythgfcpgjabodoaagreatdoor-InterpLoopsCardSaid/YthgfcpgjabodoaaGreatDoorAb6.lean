/-
  An abstract machine that runs a program of the given form, and its soundness, part 6.
-/
import Derived.Test.YthgfcpgjabodoaaGreatDoorAb5
set_option linter.unusedVariables false
set_option linter.unusedSimpArgs false
set_option linter.unusedSectionVars false
noncomputable section
namespace Go.AM
open Go.RowKit
def Plain (v : Value) : Prop := (∃ c n, v = .int c n) ∨ ∃ s, v = .string s
theorem Plain.int (c : IntKind) (n : Int) : Plain (.int c n) := .inl ⟨_, _, rfl⟩
theorem Plain.string (s : ByteArray) : Plain (.string s) := .inr ⟨_, rfl⟩
abbrev sgOf (ρ : Nat → Value) (h : ∀ k, Plain (ρ k)) : Sg := ⟨⟨ρ, h⟩⟩
def Fits (σ σ0 : Sg) (ρ : Nat → Value) : Prop := ∀ (φ : List Place) k v', VR (σ := σ) φ (ρ k) v' ↔ v' = Sg.at σ0 k
def rnA (ι : Nat → Nat) (a : Addr) : Addr := bif Nat.beq (a.block % 2) 0 then a else { a with block := 2 * ι (a.block / 2) + 1 }
def rnB (ι : Nat → Nat) (r : Nat) : Nat := bif Nat.beq (r % 2) 0 then r else 2 * ι (r / 2) + 1
mutual
/-- other numbers for the blocks, values for the placeholders -/
def rn (ρ : Nat → Value) (ι : Nat → Nat) : Value → Value
 | .bool b => .bool b
 | .int k n => .int k n
 | .float k n => .float k n
 | .complex k n m => .complex k n m
 | .string s => .string s
 | .pointer none => .pointer none
 | .pointer (some a) => .pointer (some (rnA ι a))
 | .slice none l c => .slice none l c
 | .slice (some a) l c => .slice (some (rnA ι a)) l c
 | .map none => .map none
 | .map (some r) => .map (some (rnB ι r))
 | .chan none => .chan none
 | .chan (some r) => bif Nat.beq (r % 2) 0 then .chan (some r) else ρ (r / 2)
 | .func fn ⟨a⟩ ⟨b⟩ => .func fn ⟨rnL ρ ι a⟩ ⟨rnL ρ ι b⟩
 | .nilFunc => .nilFunc
 | .iface t v => .iface t (rn ρ ι v)
 | .nilIface => .nilIface
 | .agg ⟨cs⟩ => .agg ⟨rnL ρ ι cs⟩
 | .tuple ⟨cs⟩ => .tuple ⟨rnL ρ ι cs⟩
def rnL (ρ : Nat → Value) (ι : Nat → Nat) : List Value → List Value
 | [] => []
 | v :: r => rn ρ ι v :: rnL ρ ι r
end
theorem mC (ρ : Nat → Value) (ι : Nat → Nat) : ∀ l : List Value, rnL ρ ι l = l.map (rn ρ ι)
 | [] => by rw [rnL]; rfl
 | v :: r => by rw [rnL, mC ρ ι r]; rfl
theorem eX (ρ : Nat → Value) (ι : Nat → Nat) (l : List Value) : (rnL ρ ι l).length = l.length := by rw [mC, List.length_map]
def rnO (ρ : Nat → Value) (ι : Nat → Nat) : AObj → AObj
 | .cells cs sz ex => .cells (rnL ρ ι cs) sz ex
 | .map es clock => .map (es.map fun e => (rn ρ ι e.1, rn ρ ι e.2.1, e.2.2)) clock
 | .iter s p => .iter s p
section
variable {ρ : Nat → Value} {ι : Nat → Nat} {φ φ0 : List Place}
theorem aHo {n : Nat} (h : n % 2 = 0) : Nat.beq (n % 2) 0 = true := by rw [h]; rfl
theorem aIc {n : Nat} (h : n % 2 = 1) : Nat.beq (n % 2) 0 = false := by rw [h]; rfl
theorem uW {a : Addr} (h : a.block % 2 = 0) : rnA ι a = a := by unfold rnA; rw [aHo h]; rfl
theorem nW {a : Addr} (h : a.block % 2 = 1) : rnA ι a = { a with block := 2 * ι (a.block / 2) + 1 } := by unfold rnA; rw [aIc h]; rfl
theorem aAg (hφ : ∀ j, φ0[j]? = φ[ι j]?) (a a' : Addr) : ARel φ (rnA ι a) a' ↔ ARel φ0 a a' := by
 rcases Nat.mod_two_eq_zero_or_one a.block with h | h
 ·rw [uW h]
  constructor
  ·rintro (q | ⟨q, _⟩)
   ·exact .inl q
   ·omega
  ·rintro (q | ⟨q, _⟩)
   ·exact .inl q
   ·omega
 ·rw [nW h]
  have e1 : (2 * ι (a.block / 2) + 1) % 2 = 1 := by omega
  have e2 : (2 * ι (a.block / 2) + 1) / 2 = ι (a.block / 2) := by omega
  constructor
  ·rintro (⟨q, _⟩ | ⟨_, q2, q3, p, q4, q5, q6⟩)
   ·simp only at q; omega
   ·simp only [e2] at q4
    exact .inr ⟨h, q2, q3, p, by rw [hφ]; exact q4, q5, q6⟩
  ·rintro (⟨q, _⟩ | ⟨_, q2, q3, p, q4, q5, q6⟩)
   ·omega
   ·exact .inr ⟨e1, q2, q3, p, by simp only [e2]; rw [← hφ]; exact q4, q5, q6⟩
theorem aFw (hφ : ∀ j, φ0[j]? = φ[ι j]?) (a a' : Addr) (l c c' : Nat) : SRel φ (rnA ι a) a' l c c' ↔ SRel φ0 a a' l c c' := by
 have key := aAg hφ a a'
 rcases Nat.mod_two_eq_zero_or_one a.block with h | h
 ·have e := uW (ι := ι) h
  unfold SRel
  rw [key, e]
  constructor
  ·rintro (q | ⟨q, _⟩)
   ·exact .inl q
   ·omega
  ·rintro (q | ⟨q, _⟩)
   ·exact .inl q
   ·omega
 ·have e := nW (ι := ι) h
  have e1 : (2 * ι (a.block / 2) + 1) % 2 = 1 := by omega
  have e2 : (2 * ι (a.block / 2) + 1) / 2 = ι (a.block / 2) := by omega
  unfold SRel
  rw [key, e]
  simp only [e1, e2, h, ← hφ]
theorem aFl (hφ : ∀ j, φ0[j]? = φ[ι j]?) (r r' : Nat) : BRel φ (rnB ι r) r' ↔ BRel φ0 r r' := by
 unfold BRel rnB
 rcases Nat.mod_two_eq_zero_or_one r with h | h
 ·rw [aHo h, cond_true]
  constructor <;> (rintro (q | ⟨q, _⟩) <;> first | exact .inl q | omega)
 ·rw [aIc h, cond_false]
  have e1 : (2 * ι (r / 2) + 1) % 2 = 1 := by omega
  have e2 : (2 * ι (r / 2) + 1) / 2 = ι (r / 2) := by omega
  simp only [e1, e2, h, ← hφ]
  constructor <;> (rintro (⟨q, _⟩ | q) <;> first | omega | exact .inr q)
theorem aNs {σ : Sg} {v v' : Value} (hp : Plain v) (h : VR φ v v') : v' = v := by
 rcases hp with ⟨c, n, rfl⟩ | ⟨s, rfl⟩ <;> cases h <;> rfl
theorem aDp {σ : Sg} {v : Value} (hp : Plain v) : VR φ v v := by
 rcases hp with ⟨c, n, rfl⟩ | ⟨s, rfl⟩
 ·exact .int _ _
 ·exact .string _
theorem Fits.plain {σ : Sg} {ρ : Nat → Value} (h : ∀ k, Plain (ρ k)) : Fits σ (sgOf ρ h) ρ := fun φ k v' => ⟨fun q => aNs (h k) q, fun q => by subst q; exact aDp (h k)⟩
def phs (k : Nat) : Value := .chan (some (2 * k + 1))
theorem Fits.same {σ : Sg} : Fits σ σ phs := fun φ k v' => ⟨fun q => by
 unfold phs at q
 generalize hr : 2 * k + 1 = r at q
 cases q with
 | ch h => omega
 | ph j => obtain rfl : j = k := by omega
           rfl, fun q => by subst q; exact VR.ph k⟩
theorem aFs {σ0 σ : Sg} (hρ : Fits σ σ0 ρ) (hφ : ∀ j, φ0[j]? = φ[ι j]?) {v v' : Value} (h : VR (σ := σ0) φ0 v v') : VR (σ := σ) φ (rn ρ ι v) v' := by
 induction h with
 | bool b => rw [rn]; exact .bool b
 | int k n => rw [rn]; exact .int k n
 | float k n => rw [rn]; exact .float k n
 | complex k n m => rw [rn]; exact .complex k n m
 | string s => rw [rn]; exact .string s
 | pnil => rw [rn]; exact .pnil
 | ptr h => rw [rn]; exact .ptr ((aAg hφ _ _).2 h)
 | snil l c => rw [rn]; exact .snil l c
 | slc h => rw [rn]; exact .slc ((aFw hφ _ _ _ _ _).2 h)
 | mnil => rw [rn]; exact .mnil
 | mp h => rw [rn]; exact .mp ((aFl hφ _ _).2 h)
 | cnil => rw [rn]; exact .cnil
 | ch h => rw [rn, aHo h.1, cond_true]; exact .ch h
 | ph k =>
  rw [rn, aIc (show (2 * k + 1) % 2 = 1 by omega), cond_false, show (2 * k + 1) / 2 = k by omega]
  exact (hρ φ k _).2 rfl
 | func fn ha hb _ _ iha ihb =>
  rw [rn]
  refine .func fn (by rw [eX]; exact ha) (by rw [eX]; exact hb) (fun i v v' h1 h2 => ?_) (fun i v v' h1 h2 => ?_)
  ·rw [mC, List.getElem?_map] at h1
   obtain ⟨u, hu, rfl⟩ := Option.map_eq_some_iff.1 h1
   exact iha i u v' hu h2
  ·rw [mC, List.getElem?_map] at h1
   obtain ⟨u, hu, rfl⟩ := Option.map_eq_some_iff.1 h1
   exact ihb i u v' hu h2
 | nilFunc => rw [rn]; exact .nilFunc
 | iface t _ ih => rw [rn]; exact .iface t ih
 | nilIface => rw [rn]; exact .nilIface
 | agg ha _ ih =>
  rw [rn]
  refine .agg (by rw [eX]; exact ha) (fun i v v' h1 h2 => ?_)
  rw [mC, List.getElem?_map] at h1
  obtain ⟨u, hu, rfl⟩ := Option.map_eq_some_iff.1 h1
  exact ih i u v' hu h2
 | tuple ha _ ih =>
  rw [rn]
  refine .tuple (by rw [eX]; exact ha) (fun i v v' h1 h2 => ?_)
  rw [mC, List.getElem?_map] at h1
  obtain ⟨u, hu, rfl⟩ := Option.map_eq_some_iff.1 h1
  exact ih i u v' hu h2
mutual
/-- and back -/
theorem aBb {σ0 σ : Sg} (hρ : Fits σ σ0 ρ) (hφ : ∀ j, φ0[j]? = φ[ι j]?) : ∀ (v v' : Value), VR (σ := σ) φ (rn ρ ι v) v' → VR (σ := σ0) φ0 v v'
 | .bool b, v', h => by rw [rn] at h; cases h; exact VR.bool (σ := σ0) b
 | .int k n, v', h => by rw [rn] at h; cases h; exact VR.int (σ := σ0) k n
 | .float k n, v', h => by rw [rn] at h; cases h; exact VR.float (σ := σ0) k n
 | .complex k n m, v', h => by rw [rn] at h; cases h; exact VR.complex (σ := σ0) k n m
 | .string s, v', h => by rw [rn] at h; cases h; exact VR.string (σ := σ0) s
 | .pointer none, v', h => by rw [rn] at h; cases h; exact VR.pnil (σ := σ0)
 | .pointer (some a), v', h => by
  rw [rn] at h
  generalize he : rnA ι a = b at h
  cases h with
  | ptr h => subst he; exact VR.ptr (σ := σ0) ((aAg hφ _ _).1 h)
 | .slice none l c, v', h => by rw [rn] at h; cases h; exact VR.snil (σ := σ0) l c
 | .slice (some a) l c, v', h => by
  rw [rn] at h
  generalize he : rnA ι a = b at h
  cases h with
  | slc h => subst he; exact VR.slc (σ := σ0) ((aFw hφ _ _ _ _ _).1 h)
 | .map none, v', h => by rw [rn] at h; cases h; exact VR.mnil (σ := σ0)
 | .map (some r), v', h => by
  rw [rn] at h
  generalize he : rnB ι r = b at h
  cases h with
  | mp h => subst he; exact VR.mp (σ := σ0) ((aFl hφ _ _).1 h)
 | .chan none, v', h => by rw [rn] at h; cases h; exact VR.cnil (σ := σ0)
 | .chan (some r), v', h => by
  rw [rn] at h
  rcases Nat.mod_two_eq_zero_or_one r with e | e
  ·rw [aHo e, cond_true] at h
   cases h with
   | ch h => exact VR.ch (σ := σ0) h
   | ph k => omega
  ·rw [aIc e, cond_false] at h
   have e2 := (hρ φ _ _).1 h
   subst e2
   obtain ⟨k, rfl⟩ : ∃ k, r = 2 * k + 1 := ⟨r / 2, by omega⟩
   rw [show (2 * k + 1) / 2 = k by omega]
   exact VR.ph (σ := σ0) k
 | .func fn ⟨a⟩ ⟨b⟩, v', h => by
  rw [rn] at h
  cases h with
  | func _ ha hb va vb =>
   have h1 := pU (σ := σ) (σ0 := σ0) hρ hφ a _ ⟨ha, va⟩
   have h2 := pU (σ := σ) (σ0 := σ0) hρ hφ b _ ⟨hb, vb⟩
   exact VR.func (σ := σ0) fn h1.1 h2.1 h1.2 h2.2
 | .nilFunc, v', h => by rw [rn] at h; cases h; exact VR.nilFunc (σ := σ0)
 | .iface t v, v', h => by
  rw [rn] at h
  cases h with
  | iface _ h => exact VR.iface (σ := σ0) t (aBb (σ := σ) (σ0 := σ0) hρ hφ v _ h)
 | .nilIface, v', h => by rw [rn] at h; cases h; exact VR.nilIface (σ := σ0)
 | .agg ⟨a⟩, v', h => by
  rw [rn] at h
  cases h with
  | agg ha va =>
   have h1 := pU (σ := σ) (σ0 := σ0) hρ hφ a _ ⟨ha, va⟩
   exact VR.agg (σ := σ0) h1.1 h1.2
 | .tuple ⟨a⟩, v', h => by
  rw [rn] at h
  cases h with
  | tuple ha va =>
   have h1 := pU (σ := σ) (σ0 := σ0) hρ hφ a _ ⟨ha, va⟩
   exact VR.tuple (σ := σ0) h1.1 h1.2
theorem pU {σ0 σ : Sg} (hρ : Fits σ σ0 ρ) (hφ : ∀ j, φ0[j]? = φ[ι j]?) : ∀ (l l' : List Value), VRs (σ := σ) φ (rnL ρ ι l) l' → VRs (σ := σ0) φ0 l l'
 | [], l', h => by
  rw [rnL] at h
  have : l' = [] := List.eq_nil_of_length_eq_zero h.1.symm
  subst this
  exact VRs.nil (σ := σ0) _
 | v :: r, [], h => by rw [rnL] at h; have := h.1; simp at this
 | v :: r, v' :: r', h => by
  rw [rnL] at h
  exact VRs.cons (σ := σ0) (aBb (σ := σ) (σ0 := σ0) hρ hφ v v' (VRs.head (σ := σ) h)) (pU (σ := σ) (σ0 := σ0) hρ hφ r r' (VRs.tail (σ := σ) h))
end
theorem aIz {σ0 σ : Sg} (hρ : Fits σ σ0 ρ) (hφ : ∀ j, φ0[j]? = φ[ι j]?) {l l' : List Value} (h : VRs (σ := σ0) φ0 l l') : VRs (σ := σ) φ (rnL ρ ι l) l' :=
 ⟨by rw [eX]; exact h.1, fun i v v' h1 h2 => by
  rw [mC, List.getElem?_map] at h1
  obtain ⟨u, hu, rfl⟩ := Option.map_eq_some_iff.1 h1
  exact aFs (σ := σ) (σ0 := σ0) hρ hφ (h.2 i u v' hu h2)⟩
theorem aGn {σ0 σ : Sg} (hρ : Fits σ σ0 ρ) (hφ : ∀ j, φ0[j]? = φ[ι j]?) {p : Place} {o : AObj} {x : Option Obj} (h : ORel (σ := σ0) φ0 p o x) : ORel (σ := σ) φ p (rnO ρ ι o) x := by
 cases o with
 | cells cs sz ex =>
  obtain ⟨C, e, lo, hi, h1, h2, h3, h4, h5, h6, h7⟩ := h
  exact ⟨C, e, lo, hi, h1, h2, h3, h4, by rw [eX]; exact h5, by rw [eX]; exact h6, by rw [eX]; exact aIz (σ := σ) (σ0 := σ0) hρ hφ h7⟩
 | map es clock =>
  obtain ⟨es', h1, h2, h3⟩ := h
  refine ⟨es', h1, by rw [List.length_map]; exact h2, fun i k v b e q1 q2 => ?_⟩
  rw [List.getElem?_map] at q1
  obtain ⟨⟨k0, v0, b0⟩, hu, hh⟩ := Option.map_eq_some_iff.1 q1
  cases hh
  obtain ⟨r1, r2, r3⟩ := h3 i _ _ _ e hu q2
  exact ⟨aFs (σ := σ) (σ0 := σ0) hρ hφ r1, aFs (σ := σ) (σ0 := σ0) hρ hφ r2, r3⟩
 | iter s p => exact h
theorem aFe {σ0 σ : Sg} (hρ : Fits σ σ0 ρ) (hφ : ∀ j, φ0[j]? = φ[ι j]?) {p : Place} {o : AObj} {x : Option Obj} (h : ORel (σ := σ) φ p (rnO ρ ι o) x) : ORel (σ := σ0) φ0 p o x := by
 cases o with
 | cells cs sz ex =>
  obtain ⟨C, e, lo, hi, h1, h2, h3, h4, h5, h6, h7⟩ := h
  rw [eX] at h5 h6 h7
  exact ⟨C, e, lo, hi, h1, h2, h3, h4, h5, h6, pU (σ := σ) (σ0 := σ0) hρ hφ _ _ h7⟩
 | map es clock =>
  obtain ⟨es', h1, h2, h3⟩ := h
  rw [List.length_map] at h2
  refine ⟨es', h1, h2, fun i k v b e q1 q2 => ?_⟩
  obtain ⟨r1, r2, r3⟩ := h3 i (rn ρ ι k) (rn ρ ι v) b e (by rw [List.getElem?_map, q1]; rfl) q2
  exact ⟨aBb (σ := σ) (σ0 := σ0) hρ hφ _ _ r1, aBb (σ := σ) (σ0 := σ0) hρ hφ _ _ r2, r3⟩
 | iter s p => exact h
end
def fJ (ids : List Nat) (N : Nat) (j : Nat) : Nat := match ids[j]? with
 | some i => i
 | none => N + (j - ids.length)
def mrg (ρ : Nat → Value) (ι : Nat → Nat) (t1 : Tr AObj) (n : Nat) (t : Tr AObj) : Tr AObj := Nat.rec (motive := fun _ => Tr AObj) t (fun j r => r.set (ι j) ((t1.get j).map (rnO ρ ι))) n
theorem aEi (ρ : Nat → Value) (ι : Nat → Nat) (t1 t : Tr AObj) (i : Nat) : ∀ n, (∀ j, j < n → ι j ≠ i) → (mrg ρ ι t1 n t).get i = t.get i
 | 0, _ => rfl
 | n + 1, h => by
  show ((mrg ρ ι t1 n t).set (ι n) _).get i = _
  rw [Tr.get_set_ne _ _ (fun e => h n (Nat.lt_succ_self n) e.symm)]
  exact aEi ρ ι t1 t i n fun j hj => h j (by omega)
theorem yY (ρ : Nat → Value) (ι : Nat → Nat) (t1 t : Tr AObj) : ∀ n, (∀ i j, i < n → j < n → ι i = ι j → i = j) → ∀ j, j < n → (mrg ρ ι t1 n t).get (ι j) = (t1.get j).map (rnO ρ ι)
 | 0, _, j, hj => by omega
 | n + 1, h, j, hj => by
  show ((mrg ρ ι t1 n t).set (ι n) _).get (ι j) = _
  by_cases e : j = n
  ·subst e; rw [Tr.get_set_same]
  ·rw [Tr.get_set_ne _ _ (fun q => e (h j n hj (Nat.lt_succ_self n) q))]
   exact yY ρ ι t1 t n (fun a b ha hb => h a b (by omega) (by omega)) j (by omega)
section
variable {P : Program} {σ0 σ : Sg}
theorem fL {ids : List Nat} {N j : Nat} (h : j < ids.length) : fJ ids N j = ids[j] := by unfold fJ; rw [List.getElem?_eq_getElem h]
theorem iV {ids : List Nat} {N j : Nat} (h : ids.length ≤ j) : fJ ids N j = N + (j - ids.length) := by unfold fJ; rw [List.getElem?_eq_none h]
theorem aAv {ids : List Nat} {N : Nat} (hd : ids.Nodup) (hlt : ∀ i ∈ ids, i < N) {i j : Nat} (h : fJ ids N i = fJ ids N j) : i = j := by
 rcases Nat.lt_or_ge i ids.length with hi | hi <;> rcases Nat.lt_or_ge j ids.length with hj | hj
 ·rw [fL hi, fL hj] at h
  exact (List.getElem_inj hd).1 h
 ·rw [fL hi, iV hj] at h
  have := hlt _ (List.getElem_mem hi); omega
 ·rw [iV hi, fL hj] at h
  have := hlt _ (List.getElem_mem hj); omega
 ·rw [iV hi, iV hj] at h; omega
theorem ACalls.frame {g : FuncId} {args0 : List Value} {ids : List Nat} {t0 t1 : Tr AObj} {n1 : Nat} {v0 : Value} (ρ : Nat → Value) (hρ : Fits σ σ0 ρ) (S : AH)
 (run : ACalls (σ := σ0) P g args0 ⟨S.w0, ids.length, t0⟩ fun u K => u = v0 ∧ K = ⟨S.w0, n1, t1⟩)
 (hd : ids.Nodup) (hlt : ∀ i ∈ ids, i < S.nx) (hn : ids.length ≤ n1) (h0 : ∀ j o, t0.get j = some o → j < ids.length) (hobj : ∀ j (h : j < ids.length), ∃ o, t0.get j = some o ∧ S.tr.get ids[j] = some (rnO ρ (fJ ids S.nx) o)) :
 ACalls (σ := σ) P g (rnL ρ (fJ ids S.nx) args0) S fun u K => u = rn ρ (fJ ids S.nx) v0 ∧ K = ⟨S.w0, S.nx + (n1 - ids.length), mrg ρ (fJ ids S.nx) t1 n1 S.tr⟩ := by
 intro π φ args' w hv hR
 obtain ⟨rbelow, rlen, robj, rinj, rpin, rlt⟩ := hR
 let ι := fJ ids S.nx
 have hlen : φ.length = S.nx := rlen
 have hget : ∀ i ∈ ids, ∃ p, φ[i]? = some p := fun i hi => ⟨φ[i]'(by rw [hlen]; exact hlt i hi), by rw [List.getElem?_eq_getElem]⟩
 let φ0 : List Place := ids.map fun i => φ.getD i ⟨0, 0, 0, 0⟩
 have hφ0 : ∀ j, φ0[j]? = φ[ι j]? := by
  intro j
  rcases Nat.lt_or_ge j ids.length with hj | hj
  ·show (ids.map _)[j]? = φ[fJ ids S.nx j]?
   rw [List.getElem?_map, List.getElem?_eq_getElem hj, fL hj]
   obtain ⟨p, hp⟩ := hget _ (List.getElem_mem hj)
   simp [List.getD_eq_getElem?_getD, hp]
  ·show (ids.map _)[j]? = φ[fJ ids S.nx j]?
   rw [iV hj, List.getElem?_eq_none (by simpa using hj), List.getElem?_eq_none (by rw [hlen]; omega)]
 have inj : ∀ i j, ι i = ι j → i = j := fun i j h => aAv hd hlt h
 -- the blocks of the others are pinned
 let bad : Nat → Bool := fun b => φ0.any fun p => p.blk == b
 have bad_f : ∀ b, bad b = false → ∀ (i : Nat) p, φ0[i]? = some p → p.blk ≠ b := by
  intro b hb i p hp e
  have : bad b = true := List.any_eq_true.2 ⟨p, List.mem_of_getElem? hp, by simp [e]⟩
  rw [hb] at this; cases this
 have bad_t : ∀ b, bad b = true → ∃ (i : Nat) (p : Place), φ0[i]? = some p ∧ p.blk = b := by
  intro b hb
  obtain ⟨p, hp, he⟩ := List.any_eq_true.1 hb
  obtain ⟨i, hi⟩ := List.getElem?_of_mem hp
  exact ⟨i, p, hi, by simpa using he⟩
 let π' : Pins := ⟨⟨fun b => if bad b then none else w.heap[b]?, π.ds⟩⟩
 have R0 : Rel (σ := σ0) (π := π') φ0 ⟨S.w0, ids.length, t0⟩ w := by
  refine @Rel.mk (σ0) π' _ _ _ rbelow (by simp [φ0]) ?_ ?_ ?_ ?_
  ·intro j o hj
   have hjl := h0 j o hj
   obtain ⟨o', q1, q2⟩ := hobj j hjl
   rw [hj] at q1; cases q1
   obtain ⟨p, r1, r2, r3⟩ := robj _ _ q2
   refine ⟨p, ?_, r2, aFe (σ := σ) (σ0 := σ0) hρ hφ0 r3⟩
   rw [hφ0]; show φ[fJ ids S.nx j]? = _; rw [fL hjl]; exact r1
  ·intro i j o o' p q h1 h2 h3 h4 he
   have hi := h0 i o h1
   have hj := h0 j o' h2
   obtain ⟨_, _, q2⟩ := hobj i hi
   obtain ⟨_, _, q4⟩ := hobj j hj
   rw [hφ0] at h3 h4
   have := rinj _ _ _ _ p q q2 q4 (by rw [← fL (N := S.nx) hi]; exact h3) (by rw [← fL (N := S.nx) hj]; exact h4) he
   exact (List.getElem_inj hd).1 this
  ·intro b x hb
   have hb : (if bad b then none else w.heap[b]?) = some x := hb
   cases hbad : bad b with
   | true => rw [hbad] at hb; simp at hb
   | false =>
    rw [hbad] at hb
    exact ⟨by simpa using hb, bad_f b hbad⟩
  ·intro i p hp
   rw [hφ0] at hp
   exact rlt _ _ hp
 have V0 : VRs (σ := σ0) φ0 args0 args' := pU (σ := σ) (σ0 := σ0) hρ hφ0 _ _ hv
 refine (run π' φ0 args' w V0 R0).mono ?_
 rintro e w' ⟨φ1, u, v', K, p1, rfl, hvr, R1, hw, rfl, rfl⟩
 have hlen1 : φ1.length = n1 := @Rel.len (σ0) π' _ _ _ R1
 have hlen0 : φ0.length = ids.length := by simp [φ0]
 let φ' := φ ++ φ1.drop ids.length
 have hφ1 : ∀ j, φ1[j]? = φ'[ι j]? := by
  intro j
  rcases Nat.lt_or_ge j ids.length with hj | hj
  ·have e1 : φ1[j]? = φ0[j]? := by
    obtain ⟨t, rfl⟩ := p1
    rw [List.getElem?_append_left (by rw [hlen0]; exact hj)]
   rw [e1, hφ0]
   have : ι j < φ.length := by rw [hlen]; show fJ ids S.nx j < _; rw [fL hj]; exact hlt _ (List.getElem_mem hj)
   show φ[ι j]? = (φ ++ φ1.drop ids.length)[ι j]?
   rw [List.getElem?_append_left this]
  ·show φ1[j]? = (φ ++ φ1.drop ids.length)[fJ ids S.nx j]?
   rw [iV hj, List.getElem?_append_right (by rw [hlen]; omega), List.getElem?_drop, hlen]
   congr 1
   omega
 have same : ∀ b, bad b = false → b < w.heap.size → w'.heap[b]? = w.heap[b]? ∧ ∀ (i : Nat) p, φ1[i]? = some p → p.blk ≠ b := by
  intro b hb hlt
  have hx : π'.pin b = some w.heap[b] := by
   show (if bad b then none else w.heap[b]?) = _
   rw [hb]
   simp [hlt]
  obtain ⟨q1, q2⟩ := @Rel.pin (σ0) π' _ _ _ R1 b _ hx
  exact ⟨by rw [q1]; simp [hlt], q2⟩
 have old_good : ∀ i p o, S.tr.get i = some o → φ[i]? = some p → (∀ j, j < n1 → ι j ≠ i) → bad p.blk = false := by
  intro i p o ho hp hne
  cases hb : bad p.blk with
  | false => rfl
  | true =>
   exfalso
   obtain ⟨j, q, hq, he⟩ := bad_t _ hb
   have hj : j < ids.length := by rw [← hlen0]; exact lt_of_getElem? hq
   rw [hφ0] at hq
   obtain ⟨_, _, q2⟩ := hobj j hj
   have hq' : φ[ids[j]]? = some q := by rw [← fL (N := S.nx) hj]; exact hq
   have := rinj _ _ _ _ q p q2 ho hq' hp he
   exact hne j (by omega) ((fL hj).trans this)
 have old_get : ∀ i, (∀ j, j < n1 → ι j ≠ i) → (mrg ρ ι t1 n1 S.tr).get i = S.tr.get i := fun i h => aEi ρ ι t1 S.tr i n1 h
 have zM : ∀ j, j < n1 → (mrg ρ ι t1 n1 S.tr).get (ι j) = (t1.get j).map (rnO ρ ι) := fun j h => yY ρ ι t1 S.tr n1 (fun a b _ _ => inj a b) j h
 have kind : ∀ i o, (mrg ρ ι t1 n1 S.tr).get i = some o → (∃ j o1, j < n1 ∧ i = ι j ∧ t1.get j = some o1 ∧ o = rnO ρ ι o1) ∨ ((∀ j, j < n1 → ι j ≠ i) ∧ S.tr.get i = some o) := by
  intro i o ho
  by_cases hex : ∃ j, j < n1 ∧ ι j = i
  ·obtain ⟨j, hj, rfl⟩ := hex
   rw [zM j hj] at ho
   obtain ⟨o1, h1, rfl⟩ := Option.map_eq_some_iff.1 ho
   exact .inl ⟨j, o1, hj, rfl, h1, rfl⟩
  ·have hne : ∀ j, j < n1 → ι j ≠ i := fun j hj he => hex ⟨j, hj, he⟩
   rw [old_get i hne] at ho
   exact .inr ⟨hne, ho⟩
 have pre : φ <+: φ' := ⟨_, rfl⟩
 have bel : Below S.w0.heap.size S.w0 w' := @Rel.below (σ0) π' φ1 ⟨S.w0, n1, t1⟩ w' R1
 refine ⟨φ', rn ρ ι _, v', ⟨S.w0, S.nx + (n1 - ids.length), mrg ρ ι t1 n1 S.tr⟩, pre, rfl, aFs (σ := σ) (σ0 := σ0) hρ hφ1 hvr, ?_, rfl, rfl, rfl⟩
 refine @Rel.mk σ π _ _ _ bel ?_ ?_ ?_ ?_ ?_
 ·simp [φ', hlen, hlen1]
 ·intro i o ho
  rcases kind i o ho with ⟨j, o1, hj, rfl, q1, rfl⟩ | ⟨hne, q1⟩
  ·obtain ⟨p, r1, r2, r3⟩ := @Rel.obj (σ0) π' _ _ _ R1 _ _ q1
   exact ⟨p, by rw [← hφ1]; exact r1, r2, aGn (σ := σ) (σ0 := σ0) hρ hφ1 r3⟩
  ·obtain ⟨p, r1, r2, r3⟩ := robj _ _ q1
   have hg := old_good i p o q1 r1 hne
   refine ⟨p, getElem?_prefix pre r1, r2, ?_⟩
   rw [(same p.blk hg (rlt _ _ r1)).1]
   exact r3.mono pre
 ·intro i j o o' p q h1 h2 h3 h4 he
  rcases kind i o h1 with ⟨i0, o1, hi, rfl, q1, rfl⟩ | ⟨hnei, q1⟩ <;> rcases kind j o' h2 with ⟨j0, o2, hj, rfl, q2, rfl⟩ | ⟨hnej, q2⟩
  ·rw [← hφ1] at h3 h4
   rw [@Rel.inj (σ0) π' _ _ _ R1 _ _ _ _ p q q1 q2 h3 h4 he]
  ·exfalso
   obtain ⟨q', r1, _⟩ := robj _ _ q2
   have : q' = q := by have := getElem?_prefix pre r1; rw [h4] at this; exact (Option.some.inj this).symm
   subst this
   rw [← hφ1] at h3
   exact (same q'.blk (old_good j q' o' q2 r1 hnej) (rlt _ _ r1)).2 _ _ h3 he
  ·exfalso
   obtain ⟨p', r1, _⟩ := robj _ _ q1
   have : p' = p := by have := getElem?_prefix pre r1; rw [h3] at this; exact (Option.some.inj this).symm
   subst this
   rw [← hφ1] at h4
   exact (same p'.blk (old_good i p' o q1 r1 hnei) (rlt _ _ r1)).2 _ _ h4 he.symm
  ·obtain ⟨p', r1, _⟩ := robj _ _ q1
   obtain ⟨q', r2, _⟩ := robj _ _ q2
   have e1 : p' = p := by have := getElem?_prefix pre r1; rw [h3] at this; exact (Option.some.inj this).symm
   have e2 : q' = q := by have := getElem?_prefix pre r2; rw [h4] at this; exact (Option.some.inj this).symm
   subst e1 e2
   exact rinj _ _ _ _ p' q' q1 q2 r1 r2 he
 ·intro b x hb
  obtain ⟨q1, q2⟩ := rpin b x hb
  have hbad : bad b = false := by
   cases hbb : bad b with
   | false => rfl
   | true =>
    obtain ⟨i, p, hp, he⟩ := bad_t _ hbb
    rw [hφ0] at hp
    exact absurd he (q2 _ p hp)
  have hbl : b < w.heap.size := by
   rcases Nat.lt_or_ge b w.heap.size with h | h
   ·exact h
   ·rw [Array.getElem?_eq_none h] at q1; cases q1
  obtain ⟨r1, r2⟩ := same b hbad hbl
  refine ⟨r1.trans q1, fun i p hp => ?_⟩
  rcases Nat.lt_or_ge i φ.length with hi | hi
  ·rw [List.getElem?_append_left hi] at hp; exact q2 i p hp
  ·rw [List.getElem?_append_right hi, List.getElem?_drop] at hp
   exact r2 _ p hp
 ·intro i p hp
  rcases Nat.lt_or_ge i φ.length with hi | hi
  ·rw [List.getElem?_append_left hi] at hp
   have hl := rlt i p hp
   cases hbb : bad p.blk with
   | false =>
    have := (same p.blk hbb hl).1
    rcases Nat.lt_or_ge p.blk w'.heap.size with h | h
    ·exact h
    ·rw [Array.getElem?_eq_none h] at this
     rw [Array.getElem?_eq_getElem hl] at this; cases this
   | true =>
    obtain ⟨j, q, hq, he⟩ := bad_t _ hbb
    have := @Rel.lt (σ0) π' _ _ _ R1 j q (getElem?_prefix p1 hq)
    rw [he] at this; exact this
  ·rw [List.getElem?_append_right hi, List.getElem?_drop] at hp
   exact @Rel.lt (σ0) π' _ _ _ R1 _ p hp
end
end Go.AM
namespace Go.AM
open Go.RowKit
def oH : List AObj → Nat → Tr AObj → Tr AObj
 | [], _, t => t
 | o :: r, k, t => oH r (k + 1) (t.set k (some o))
theorem vB : ∀ (os : List AObj) (k : Nat) (t : Tr AObj) (j : Nat), (oH os k t).get j = if j < k then t.get j else (match os[j - k]? with | some o => some o | none => t.get j)
 | [], k, t, j => by simp [oH]
 | o :: r, k, t, j => by
  rw [oH, vB r (k + 1) _ j]
  by_cases h1 : j < k
  ·rw [if_pos (by omega), if_pos h1, Tr.get_set_ne _ _ (by omega)]
  ·rw [if_neg h1]
   by_cases h2 : j = k
   ·subst h2
    rw [if_pos (by omega), Tr.get_set_same]; simp
   ·rw [if_neg (by omega), show j - k = (j - (k + 1)) + 1 by omega, List.getElem?_cons_succ, Tr.get_set_ne _ _ h2]
def zE (H : AH) : List Nat → Option (List AObj)
 | [] => some []
 | j :: r => bif Nat.blt j H.nx then (match H.tr.get j, zE H r with
  | some o, some l => some (o :: l)
  | _, _ => none) else none
theorem vW {H : AH} : ∀ {js : List Nat} {l : List AObj}, zE H js = some l → js.length = l.length ∧ ∀ (k : Nat) j o, js[k]? = some j → l[k]? = some o → H.tr.get j = some o ∧ j < H.nx
 | [], l, h => by cases h; exact ⟨rfl, fun k j o h => by simp at h⟩
 | j :: r, l, h => by
  unfold zE at h
  cases hb : Nat.blt j H.nx with
  | false => rw [hb] at h; cases h
  | true =>
   rw [hb, cond_true] at h
   split at h
   ·rename_i o l' h1 h2
    cases h
    obtain ⟨q1, q2⟩ := vW h2
    refine ⟨by simp [q1], fun k j' o' h3 h4 => ?_⟩
    cases k with
    | zero => simp at h3 h4; subst h3 h4; exact ⟨h1, Nat.le_of_ble_eq_true hb⟩
    | succ k => simp at h3 h4; exact q2 k j' o' h3 h4
   ·cases h
def dK (ρ : Nat → Value) (ι : Nat → Nat) : List Nat → List AObj → OL
 | j :: js, o :: os => (ι j, rnO ρ ι o) :: dK ρ ι js os
 | _, _ => []
theorem pT {ρ : Nat → Value} {ι : Nat → Nat} : ∀ {js : List Nat} {os : List AObj} {p : Nat × AObj}, p ∈ dK ρ ι js os → ∃ (k j : Nat) (o : AObj), js[k]? = some j ∧ os[k]? = some o ∧ p = (ι j, rnO ρ ι o)
 | j :: js, o :: os, p, h => by
  rcases List.mem_cons.1 h with rfl | h
  ·exact ⟨0, j, o, rfl, rfl, rfl⟩
  ·obtain ⟨k, j', o', h1, h2, h3⟩ := pT h
   exact ⟨k + 1, j', o', h1, h2, h3⟩
 | [], _, p, h => by cases h
 | _ :: _, [], p, h => by cases h
theorem tO {ρ : Nat → Value} {ι : Nat → Nat} (hi : ∀ i j, ι i = ι j → i = j) : ∀ {js : List Nat} {os : List AObj}, js.Nodup → (dK ρ ι js os).Pairwise fun p q => p.1 ≠ q.1
 | j :: js, o :: os, h => by
  rw [List.nodup_cons] at h
  refine List.Pairwise.cons (fun q hq e => ?_) (tO hi h.2)
  obtain ⟨k, j', o', h1, _, rfl⟩ := pT hq
  have := hi _ _ e
  subst this
  exact h.1 (List.mem_of_getElem? h1)
 | [], _, _ => List.Pairwise.nil
 | _ :: _, [], _ => List.Pairwise.nil
end Go.AM
