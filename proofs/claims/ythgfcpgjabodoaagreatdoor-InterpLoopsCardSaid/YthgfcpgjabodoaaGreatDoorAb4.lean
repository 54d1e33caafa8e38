/-
  An abstract machine that runs a program of the given form, and its soundness, part 4.
-/
import Derived.Test.YthgfcpgjabodoaaGreatDoorAb3
import Derived.LaidByTextLater
import Derived.JoinedOf
import Derived.Laws.BitsLemmas
set_option linter.unusedVariables false
set_option linter.unusedSimpArgs false
set_option linter.unusedSectionVars false
noncomputable section
namespace Go.AM
open Go.RowKit
variable [σ : Sg]
section
variable {P : Program} (E : Env P)
theorem aHw {t : TypeId} {len : Nat} {ps : Array (Nat × Operand)} {o : Oper} (hop : o.op = .buildSlice t len ps) {ρ : Operand → Value} {H H' : AH} {v : Value} (h : fZ E t len (ps.toList.map fun x => (x.1, ρ x.2)) H = some (v, H')) :
 ∃ ob, v = mkV (some len) (2 * H.nx + 1) ∧ H' = fT H ob ∧ vX P o ρ (some len) ob := by
 unfold fZ at h
 split at h
 ·rename_i e hu
  split at h
  ·rename_i i hi
   cases hb : (Nat.ble (len * i.size) 16777216 && !(Nat.beq i.size 0)) with
   | false => rw [hb] at h; cases h
   | true =>
    rw [hb, cond_true] at h
    simp only [Bool.and_eq_true] at hb
    have hle := Nat.le_of_ble_eq_true hb.1
    split at h
    ·rename_i z hz
     split at h
     ·rename_i out hf
      cases hlen : Nat.beq out.length (len * i.size) with
      | false => rw [hlen] at h; cases h
      | true =>
       rw [hlen, cond_true] at h
       cases h
       have hlen' := Nat.eq_of_beq_eq_true hlen
       refine ⟨_, rfl, rfl, fun ρ' w φ hρ => ?_⟩
       have hv : ∀ x ∈ ps.toList, ∀ ψ, φ <+: ψ → VR ψ (ρ x.2) (ρ' x.2) := fun x hx ψ hψ =>
        (hρ x.2 (by rw [hop]; show x.2 ∈ (ps.toList.map (·.2)).toArray; exact List.mem_toArray.2 (List.mem_map.2 ⟨x, hx, rfl⟩))).mono hψ
       have hpp : ∀ (ψ : List Place), φ <+: ψ → ∀ (i n : Nat) (v : Value) (n' : Nat) (v' : Value), (ps.toList.map fun x => (x.1, ρ x.2))[i]? = some (n, v) → (ps.toList.map fun x => (x.1, ρ' x.2))[i]? = some (n', v') → n = n' ∧ VR ψ v v' := by
        intro ψ hψ i n v n' v' h1 h2
        rw [List.getElem?_map] at h1 h2
        cases hl : ps.toList[i]? with
        | none => rw [hl] at h1; simp at h1
        | some x =>
         rw [hl] at h1 h2
         simp at h1 h2
         obtain ⟨rfl, rfl⟩ := h1
         obtain ⟨rfl, rfl⟩ := h2
         exact ⟨rfl, hv x (List.mem_of_getElem? hl) ψ hψ⟩
       obtain ⟨out', h1, h2⟩ := mV _ _ _ _ _ out (VRs.ext φ (jV (if len * i.size = 0 then #[] else z.cells) (len * i.size))) (by simp) (hpp φ (List.prefix_refl _)) hf
       have hall : ∀ ψ, φ <+: ψ → VRs ψ out out' := fun ψ hψ => by
        obtain ⟨out2, q1, q2⟩ := mV _ _ _ _ _ out (VRs.ext ψ (jV (if len * i.size = 0 then #[] else z.cells) (len * i.size))) (by simp) (hpp ψ hψ) hf
        rw [h1] at q1
        cases q1
        exact q2
       refine ⟨.cells out'.toArray e, out'.length, i.size, ?_, fun n hn => ?_, fun ψ hψ => ?_⟩
       ·have hps : (ps.map fun (x : Nat × Operand) => (x.1, ρ' x.2)) = ⟨ps.toList.map fun x => (x.1, ρ' x.2)⟩ := by rw [← Array.toList_inj]; simp
        have hne : ¬ (16777216 < len * i.size) := by omega
        simp only [jV, Array.toArray_toList] at h1
        have run : (Instr.buildSlice t len ⟨ps.toList.map fun x => (x.1, ρ' x.2)⟩).run P w = .ok (.slice (some ⟨w.heap.size, 0, none⟩) len len) (w.alloc (.cells out'.toArray e)) := by
         by_cases hz0 : len * i.size = 0
         ·rw [if_pos hz0] at h1
          simp [Instr.buildSlice, aO E hu, aZ E hi, hz0, newRow] at h1 ⊢
          simp [h1]
         ·rw [if_neg hz0] at h1
          simp [Instr.buildSlice, aO E hu, aZ E hi, hne, hz0, cL E hi hz, h1, newRow]
        simp only [execOp, hop, hps, Sem.run_bind, run, Result.andThen_ok, Sem.run_pure, mkV]
       ·cases hn; rw [← (h2.1), hlen', eB (E.sz_lt _ _ hi)]; exact Nat.le_refl _
       ·have hc := hall ψ hψ
        refine ⟨out'.toArray, e, 0, 0, rfl, fun k _ => by omega, by simp, ⟨rfl, SzE.small (E.sz_lt _ _ hi), fun _ => rfl⟩, by simp [hc.1], fun _ => by simp [hc.1], ?_⟩
        rw [hc.1]
        simpa using hc
     ·cases h
    ·cases h
  ·cases h
 ·cases h
def lI (bs ms : List Nat) : List Nat := ms.filter fun j => ms.any fun i => Nat.blt i j && !((bs.getD j 0).testBit i)
def uG (f : Fr) (o : Oper) : Bool :=
 match o.op with
 | .alloc _ => o.dst.isSome
 | .buildSlice _ _ _ => o.dst.isSome
 | _ => false
def aDk (ops : Array Oper) (L : List iM) (fl : List Nat) : Bool := fl.all fun i => match ops[i]?, L[i]? with
 | some o, some s => uG s.1 o
 | _, _ => false
def xB (n : Nat) (bs ms fl : List Nat) : Bool :=
 ((List.range n).all fun k => fl.contains k || fl.all fun i => !((bs.getD k 0).testBit i) || ms.all fun j => Nat.ble i j || (bs.getD k 0).testBit j) &&
 (fl.all fun i => fl.all fun j => !((bs.getD i 0).testBit j))
def pZ (ops : Array Oper) (L : List iM) (bs ms fl : List Nat) : Bool := mO bs fl ms && (aDk ops L fl && xB ops.size bs ms fl)
def gF (call : dM) (ops : Array Oper) (f : Fr) (H : AH) : Option (Fr × AH) :=
 bif dH ops (bef ops) then
  (match fO E call ops ops.toList f H with
  | some (l, g, H') =>
   (match eW 0 l with
   | [] => some (g, H')
   | m :: r => bif (eO (bef ops) (m :: r) || pZ ops l (bef ops) (m :: r) (lI (bef ops) (m :: r))) && iF E ops (bef ops) (m :: r) ((0, H) :: gI l H' (m :: r)) 0 l then some (g, H') else none)
  | none => none)
 else none
theorem vQ (bs : List Nat) : ∀ ms : List Nat, mO bs [] ms = eO bs ms
 | [] => rfl
 | i :: r => by simp [mO, eO, vQ bs r]
theorem aBo {ops : Array Oper} {L : List iM} {ms : List Nat} (h : (eO (bef ops) ms || pZ ops L (bef ops) ms (lI (bef ops) ms)) = true) : ∃ fl, (∀ i ∈ fl, i ∈ ms) ∧ mO (bef ops) fl ms = true ∧ aDk ops L fl = true ∧ xB ops.size (bef ops) ms fl = true := by
 rcases Bool.or_eq_true_iff.1 h with h | h
 ·exact ⟨[], (fun i hi => by cases hi), by rw [vQ]; exact h, rfl, by simp [xB]⟩
 ·simp only [pZ, Bool.and_eq_true] at h
  exact ⟨_, fun i hi => (List.mem_filter.1 hi).1, h.1, h.2.1, h.2.2⟩
theorem aEr {n : Nat} {bs ms fl : List Nat} (h : xB n bs ms fl = true) :
 (∀ k i j, k < n → k ∉ fl → i ∈ fl → j ∈ ms → j < i → (bs.getD k 0).testBit i = true → (bs.getD k 0).testBit j = true) ∧ (∀ i j, i ∈ fl → j ∈ fl → (bs.getD i 0).testBit j = false) := by
 simp only [xB, Bool.and_eq_true, List.all_eq_true] at h
 obtain ⟨h2, h3⟩ := h
 refine ⟨fun k i j hk hnk hi hj hji hb => ?_, fun i j hi hj => ?_⟩
 ·have := h2 k (List.mem_range.2 hk)
  simp only [Bool.or_eq_true, List.all_eq_true] at this
  rcases this with q | q
  ·exact absurd (by simpa using q) hnk
  ·rcases q i hi with q | q
   ·rw [hb] at q; cases q
   ·rcases q j hj with q | q
    ·have := Nat.le_of_ble_eq_true q; omega
    ·exact q
 ·have := h3 i hi j hj
  simpa using this
theorem qC {call : dM} (hcall : eR P call) {ops : Array Oper} {f g : Fr} {H K : AH} (h : gF E call ops f H = some (g, K)) : ∃ F HH V M Fl, TraceF E ops F HH V M Fl ∧ (∀ i, i < ops.size → (HH (i + 1)).w0 = (HH i).w0) ∧ F 0 = f ∧ HH 0 = H ∧ F ops.size = g ∧ HH ops.size = K := by
 unfold gF at h
 cases hord : dH ops (bef ops) with
 | false => rw [hord] at h; cases h
 | true =>
  rw [hord, cond_true] at h
  split at h
  ·rename_i L g' K' hrun
   obtain ⟨hlen, hst⟩ := yF E _ _ _ _ _ _ hrun
   have hgK : g' = g ∧ K' = K := by
    split at h
    ·cases h; exact ⟨rfl, rfl⟩
    ·rcases aU h with h | h
     ·cases h; exact ⟨rfl, rfl⟩
     ·cases h
   obtain ⟨rfl, rfl⟩ := hgK
   have hlen' : L.length = ops.size := by rw [hlen, Array.length_toList]
   let A := L ++ [(g', K', undef, false)]
   let d : iM := (g', K', undef, false)
   let F := fun i => (A.getD i d).1
   let HH := fun i => (A.getD i d).2.1
   let V := fun i => (A.getD i d).2.2.1
   let M := fun i => (A.getD i d).2.2.2
   have hA : ∀ i, i < ops.size → ∃ s, L[i]? = some s ∧ A.getD i d = s := by
    intro i hi
    refine ⟨L[i]'(by omega), by simp [hlen', hi], ?_⟩
    simp only [A, List.getD_eq_getElem?_getD]
    rw [List.getElem?_append_left (by omega)]
    simp [hlen', hi]
   have hAn : A.getD ops.size d = d := by
    simp only [A, List.getD_eq_getElem?_getD]
    rw [List.getElem?_append_right (by omega)]
    simp [hlen', d]
   have hstep : ∀ i o, ops[i]? = some o → lX E call ops o (F i) (HH i) = some (V i, HH (i + 1), M i) ∧ (F i).put o.dst (V i) = some (F (i + 1)) := by
    intro i o ho
    obtain ⟨s, h1, h2⟩ := hA i (alt_of_getElem? ho)
    obtain ⟨s', q1, q2, q3⟩ := hst i o s (by simpa using ho) h1
    have e : A.getD (i + 1) d = s' := by simp only [A, List.getD_eq_getElem?_getD, q1, Option.getD_some]
    simp only [F, HH, V, M, h2, e]
    exact ⟨q2, q3⟩
   have hmm : ∀ i, i < ops.size → (M i = true ↔ i ∈ eW 0 L) := by
    intro i hi
    obtain ⟨s, h1, h2⟩ := hA i hi
    rw [fY]
    simp only [M, h2]
    constructor
    ·intro hM; exact ⟨i, s, h1, hM, by omega⟩
    ·rintro ⟨j, s', h3, h4, h5⟩
     obtain rfl : j = i := by omega
     rw [h1] at h3; cases h3; exact h4
   have hF0 : F 0 = f ∧ HH 0 = H := by
    by_cases hz : ops.size = 0
    ·have hnil : ops.toList = [] := List.eq_nil_of_length_eq_zero (by rw [Array.length_toList]; exact hz)
     rw [hnil] at hrun
     simp [fO] at hrun
     obtain ⟨rfl, rfl, rfl⟩ := hrun
     exact ⟨rfl, rfl⟩
    ·cases hops : ops.toList with
     | nil => have : ops.toList.length = 0 := by rw [hops]; rfl
              rw [Array.length_toList] at this; omega
     | cons o r =>
      rw [hops] at hrun
      simp only [fO] at hrun
      split at hrun
      ·split at hrun
       ·split at hrun
        ·cases hrun; exact ⟨rfl, rfl⟩
        ·cases hrun
       ·cases hrun
      ·cases hrun
   have still : ∀ i, i < ops.size → M i = false → HH (i + 1) = HH i := by
    intro i hi hM
    have ho : ops[i]? = some ops[i] := Array.getElem?_eq_getElem hi
    rcases cU E (hstep i _ ho).1 with ⟨_, _, _, h4⟩ | ⟨_, _, h4, _⟩ | ⟨_, h4, _⟩ | ⟨_, h4, _⟩
    ·exact h4
    ·exact h4
    ·rw [hM] at h4; cases h4
    ·rw [hM] at h4; cases h4
   have w0s : ∀ i, i < ops.size → (HH (i + 1)).w0 = (HH i).w0 := by
    intro i hi
    have ho : ops[i]? = some ops[i] := Array.getElem?_eq_getElem hi
    rcases cU E (hstep i _ ho).1 with ⟨_, _, _, h4⟩ | ⟨_, _, h4, _⟩ | ⟨_, _, h4⟩ | ⟨_, _, c, args, _, h4⟩
    ·rw [h4]
    ·rw [h4]
    ·exact mR E h4
    ·exact (hcall _ _ _ _ _ h4).1
   have hfl : ∃ fl, (∀ i ∈ fl, i ∈ eW 0 L) ∧ mO (bef ops) fl (eW 0 L) = true ∧ aDk ops L fl = true ∧ xB ops.size (bef ops) (eW 0 L) fl = true := by
    split at h
    ·rename_i hnil
     rw [hnil]
     exact ⟨[], (fun i hi => by cases hi), rfl, rfl, by simp [xB]⟩
    ·rename_i m r hms
     cases hck : ((eO (bef ops) (m :: r) || pZ ops L (bef ops) (m :: r) (lI (bef ops) (m :: r))) && iF E ops (bef ops) (m :: r) ((0, H) :: gI L K' (m :: r)) 0 L) with
     | false => rw [hck] at h; cases h
     | true =>
      simp only [Bool.and_eq_true] at hck
      rw [hms]
      exact aBo hck.1
   obtain ⟨fl, hsub, hpairs, hfine, hford⟩ := hfl
   have hford' := aEr hford
   have T : TraceF E ops F HH V M (fun i => fl.contains i) := by
    refine ⟨⟨hord, fun i o ho => (hstep i o ho).2⟩, fun i o ho hFi => ?_, fun i o ho hFi => ?_, still, fun i j hij hj hMi hMj => ?_, fun k i j hk hi hj hFk hFi hMj hb => ?_, fun i j hi hj hFi hFj => ?_⟩
    ·have hi := alt_of_getElem? ho
     rcases cU E (hstep i o ho).1 with ⟨h1, h2, h3, h4⟩ | ⟨h1, h2, h3, h4, h5⟩ | ⟨h1, h2, h3⟩ | ⟨h1, h2, c, args, h3, h4⟩
     ·exact .inl ⟨h1, h2, h3⟩
     ·refine .inr (.inl ⟨h1, h2, h4, fun t ht hb ha => ?_⟩)
      cases hp : hP E o.op with
      | true => exact xD E hp h5 (HH t)
      | false =>
       split at h
       ·-- no mains at all
        rename_i hnil
        have hno : ∀ j, j < ops.size → M j = false := by
         intro j hj
         cases hMj : M j with
         | false => rfl
         | true => have := (hmm j hj).1 hMj; rw [hnil] at this; cases this
        have hconst : ∀ k, k ≤ ops.size → HH k = HH 0 := by
         intro k
         induction k with
         | zero => intro _; rfl
         | succ k ihk => intro hk; rw [still k (by omega) (hno k (by omega))]; exact ihk (by omega)
        rw [hconst t ht, ← hconst i (by omega)]; exact h5
       ·rename_i m r hms
        cases hck : ((eO (bef ops) (m :: r) || pZ ops L (bef ops) (m :: r) (lI (bef ops) (m :: r))) && iF E ops (bef ops) (m :: r) ((0, H) :: gI L K' (m :: r)) 0 L) with
        | false => rw [hck] at h; cases h
        | true =>
         simp only [Bool.and_eq_true] at hck
         obtain ⟨s, hs1, hs2⟩ := hA i hi
         have hF : F i = s.1 := by simp only [F, hs2]
         have hV : V i = s.2.2.1 := by simp only [V, hs2]
         have hM : M i = s.2.2.2 := by simp only [M, hs2]
         have hq := uR E L 0 hck.2 i s o hs1 (by rw [Nat.zero_add]; exact ho) (by rw [← hM]; exact h2) hp (by rw [← hF]; exact h1)
         rw [Nat.zero_add] at hq
         -- the heap at t is one of those that were tried
         have hrep : ∃ t', t' ≤ t ∧ HH t' = HH t ∧ (t', HH t') ∈ ((0, H) :: gI L K' (m :: r)) ∧ (∀ j, j < ops.size → M j = true → j < t → j < t') := by
          clear hb ha
          induction t with
          | zero => exact ⟨0, Nat.le_refl _, rfl, by rw [hF0.2]; exact List.mem_cons_self .., fun j _ _ h => h⟩
          | succ t iht =>
           cases hMt : M t with
           | true =>
            refine ⟨t + 1, Nat.le_refl _, rfl, List.mem_cons_of_mem _ ?_, fun j _ _ h => h⟩
            have hin := (hmm t (by omega)).1 hMt
            rw [hms] at hin
            have := uB (L := L) (last := K') hin
            have e : HH (t + 1) = (match L[t + 1]? with | some s => s.2.1 | none => K') := by
             by_cases hlt : t + 1 < ops.size
             ·obtain ⟨s2, q1, q2⟩ := hA (t + 1) hlt
              simp only [HH, q2, q1]
             ·have he : t + 1 = ops.size := by omega
              have : L[t + 1]? = none := List.getElem?_eq_none (by omega)
              simp only [HH, he, hAn, d]
              rw [← he, this]
            rw [e]; exact this
           | false =>
            obtain ⟨t', r1, r2, r3, r4⟩ := iht (by omega)
            refine ⟨t', by omega, by rw [r2, still t (by omega) hMt], r3, fun j hj hMj hjt => ?_⟩
            by_cases e : j = t
            ·subst e; rw [hMt] at hMj; cases hMj
            ·exact r4 j hj hMj (by omega)
         obtain ⟨t', r1, r2, r3, r4⟩ := hrep
         have hqa := hq _ r3
         simp only [uP, Bool.or_eq_true, List.any_eq_true, Bool.and_eq_true, Bool.not_eq_true'] at hqa
         rcases hqa with ⟨j, hj, hbit, hge⟩ | ⟨j, hj, hbit, hlt⟩ | hval
         ·exfalso
          rw [← hms] at hj
          obtain ⟨ii, ss, q1, q2, rfl⟩ := (fY L 0 j).1 hj
          have hjlt : 0 + ii < ops.size := by have := lt_of_getElem? q1; omega
          have hMj := (hmm _ hjlt).2 hj
          have := r4 _ hjlt hMj (hb _ hjlt hMj hbit)
          have hlt' : Nat.blt (0 + ii) t' = true := by simp only [Nat.blt, Nat.ble_eq]; omega
          rw [hlt'] at hge; cases hge
         ·exfalso
          rw [← hms] at hj
          obtain ⟨ii, ss, q1, q2, rfl⟩ := (fY L 0 j).1 hj
          have hjlt : 0 + ii < ops.size := by have := lt_of_getElem? q1; omega
          have hMj := (hmm _ hjlt).2 hj
          have := ha _ hjlt hMj hbit
          simp only [Nat.blt, Nat.ble_eq] at hlt
          omega
         ·rw [← r2]
          split at hval
          ·rename_i u K2 hu
           have e1 := rS hval
           have e2 := jO E h4 hu
           rw [hF, hV, hu, e1, e2]
          ·cases hval
     ·exact .inr (.inr (.inl ⟨h1, h2, h3⟩))
     ·exact .inr (.inr (.inr ⟨h1, h2, c, args, h3, (hcall _ _ _ _ _ h4).2⟩))
    ·-- makers
     have hin : i ∈ fl := by simpa using hFi
     have hi := alt_of_getElem? ho
     have hMi : M i = true := (hmm i hi).2 (hsub i hin)
     obtain ⟨s, hs1, hs2⟩ := hA i hi
     have hF : F i = s.1 := by simp only [F, hs2]
     have hmk : uG (F i) o = true := by
      have := List.all_eq_true.1 hfine i hin
      simp only [ho, hs1] at this
      rw [hF]; exact this
     rcases cU E (hstep i o ho).1 with ⟨_, _, h3, _⟩ | ⟨_, h3, _⟩ | ⟨h1, h2, h3⟩ | ⟨h1, h2, c, args, h3, _⟩
     ·rw [hMi] at h3; cases h3
     ·rw [hMi] at h3; cases h3
     ·unfold uG at hmk
      split at hmk
      ·rename_i ty hop
       obtain ⟨d2, hd2⟩ := Option.isSome_iff_exists.1 hmk
       rw [hop] at h3
       simp only [aop, wT] at h3
       split at h3
       ·rename_i ii hii
        split at h3
        ·rename_i z hz
         simp only [aEb, Option.some.injEq, Prod.mk.injEq] at h3
         exact ⟨hMi, h1, d2, none, _, hd2, h3.1.symm, h3.2.symm, aGp E hii hz hop _⟩
        ·cases h3
       ·cases h3
      ·rename_i t n ps hop
       obtain ⟨d2, hd2⟩ := Option.isSome_iff_exists.1 hmk
       rw [hop] at h3
       simp only [aop] at h3
       obtain ⟨ob, q1, q2, q3⟩ := aHw E hop h3
       exact ⟨hMi, h1, d2, some n, ob, hd2, q1, q2, q3⟩
      ·cases hmk
     ·unfold uG at hmk
      split at hmk
      ·rename_i ty hop; rw [hop] at h3; simp only [dE] at h3; cases h3
      ·rename_i t n ps hop; rw [hop] at h3; simp only [dE] at h3; cases h3
      ·cases hmk
    ·exact aDe hpairs (nD L 0) i j ((hmm i (by omega)).1 hMi) ((hmm j hj).1 hMj) hij
    ·exact hford'.1 k i j hk (by simpa using hFk) (by simpa using hFi) ((hmm j (by omega)).1 hMj) hj hb
    ·exact hford'.2 i j (by simpa using hFi) (by simpa using hFj)
   exact ⟨F, HH, V, M, fun i => fl.contains i, T, w0s, hF0.1, hF0.2, by show (A.getD ops.size d).1 = _; rw [hAn], by show (A.getD ops.size d).2.1 = _; rw [hAn]⟩
  ·cases h
theorem qY {call : dM} (hcall : eR P call) (hm : P.follows .mixedOrders = true) {ops : Array Oper} {Q : AQ} {f g : Fr} {H K : AH} (hQ : Q .normal g K) (h : gF E call ops f H = some (g, K)) (id : Nat) : ACode P (.region id ops true) Q f H := by
 obtain ⟨F, HH, V, M, Fl, T, w0s, rfl, rfl, rfl, rfl⟩ := qC E hcall h
 exact T.region hm w0s hQ id
theorem lM {call : dM} (hcall : eR P call) {ops : Array Oper} {f g : Fr} {H K : AH} (h : gF E call ops f H = some (g, K)) : K.w0 = H.w0 := by
 unfold gF at h
 rcases aU h with h | h
 ·split at h
  ·rename_i L g' K' hr
   split at h
   ·cases h; exact nT E hcall _ _ _ _ _ _ hr
   ·rcases aU h with h | h
    ·cases h; exact nT E hcall _ _ _ _ _ _ hr
    ·cases h
  ·cases h
 ·cases h
end
section
variable {P : Program} (E : Env P)
theorem oA {ops : Array Oper} {listed : Array Bool} {i : Nat} (h : i ∈ Region.ready .any ops listed) : i < ops.size ∧ listed.getD i true = false := by
 unfold Region.ready at h
 rw [List.mem_filter] at h
 obtain ⟨h1, h2⟩ := h
 simp only [Bool.and_eq_true, Bool.not_eq_true'] at h2
 exact ⟨List.mem_range.1 h1, h2.1⟩
theorem aCl {ops : Array Oper} {listed : Array Bool} (hord : dH ops (bef ops) = true) (hs : listed.size = ops.size) {i : Nat} (hi : i < ops.size) (hl : listed.getD i false = false) : Region.ready .any ops listed ≠ [] := by
 have key : ∀ n i, i ≤ n → i < ops.size → listed.getD i false = false → ∃ j, j ∈ Region.ready .any ops listed := by
  intro n
  induction n using Nat.strongRecOn with
  | ind n ih =>
   intro i hin hi hl
   by_cases hex : ∃ j, j < i ∧ listed.getD j false = false
   ·obtain ⟨j, hj, hlj⟩ := hex
    exact ih j (by omega) j (Nat.le_refl _) (by omega) hlj
   ·refine ⟨i, ?_⟩
    unfold Region.ready
    rw [List.mem_filter]
    refine ⟨List.mem_range.2 hi, ?_⟩
    have ho : ops[i]? = some ops[i] := Array.getElem?_eq_getElem hi
    have hlt : listed.getD i true = false := by
     simp only [Array.getD_eq_getD_getElem?] at hl ⊢
     rw [Array.getElem?_eq_getElem (by omega)] at hl ⊢
     exact hl
    simp only [hlt, ho, Option.map_some, Option.getD_some, Bool.not_false, Bool.true_and]
    rw [Array.all_eq_true']
    intro e he
    cases hb : Region.binds .any e with
    | false => simp
    | true =>
     have hlt2 := gD hord ho he hb
     cases hle : listed.getD e.on false with
     | true => simp
     | false => exact absurd ⟨e.on, hlt2, hle⟩ hex
 obtain ⟨j, hj⟩ := key i i (Nat.le_refl _) hi hl
 intro h
 rw [h] at hj
 cases hj
theorem aGz {ops : Array Oper} {listed : Array Bool} (hs : listed.size = ops.size) (h : ∀ i, i < ops.size → listed.getD i false = true) : Region.ready .any ops listed = [] := by
 rw [List.eq_nil_iff_forall_not_mem]
 intro i hi
 obtain ⟨h1, h2⟩ := oA hi
 have := h i h1
 simp only [Array.getD_eq_getD_getElem?] at this h2
 rw [Array.getElem?_eq_getElem (by omega)] at this h2
 simp at this h2
 rw [this] at h2; cases h2
theorem kA {π : Pins} {ops : Array Oper} {Q : Exit → Act → World → Prop} {i : Nat} {o : Oper} {K : Act → World → Prop} {f g : Fr} {H H' : AH} {v : Value} {φ : List Place} {a : Act} {w : World} (ho : ops[i]? = some o) (hg : o.guard = none) (hop : aop E (bS f) o.op H = some (v, H')) (hp : f.put o.dst v = some g)
 (hf : FRel φ f a) (hR : Rel φ H w) (next : ∀ φ' a' w', φ <+: φ' → FRel φ' g a' → Rel φ' H' w' → K a' w') : wpOp P ops Q i K a w := by
 obtain ⟨φ', v', w', h1, h2, h3, h4⟩ := sF E hR (ρ := bS f) (ρ' := a.eval) hf.eval hop
 have hw' : Region.wanted o (yielded ops a.tmps) = true := by simp [Region.wanted, hg]
 have nx : K (a.put o.dst v') w' := next φ' _ w' h1 ((hf.mono h1).put h3 hp) h2
 unfold wpOp
 simp only [ho, hw', if_true]
 left
 unfold Oper.wp
 rcases h4 with h4 | ⟨h4, rfl⟩
 ·rw [h4]; exact nx
 ·rw [h4]; exact nx
def aFb (P : Program) (ops : Array Oper) (k m : Nat) (Q : Exit → Act → World → Prop) : Exit → Act → World → Prop
 | .normal => fun a w => wpAny P .any ops Q m (Array.replicate k true ++ Array.replicate m false) a w
 | e => Q e
theorem qN {l r : Array Bool} {i : Nat} (h : i < l.size) : (l ++ r).getD i false = l.getD i false := by
 simp only [Array.getD_eq_getD_getElem?, Array.getElem?_append_left h]
theorem aDb {l : Array Bool} {m i : Nat} (h : l.size ≤ i) : (l ++ Array.replicate m false).getD i false = false := by
 simp only [Array.getD_eq_getD_getElem?, Array.getElem?_append_right h, Array.getElem?_replicate]
 split <;> rfl
theorem xP {ops ops' : Array Oper} {k m : Nat} (hord : dH ops (bef ops) = true) (hsz : ops.size = k + m) (hsz' : ops'.size = k) (hpre : ∀ i, i < k → ops'[i]? = ops[i]?) (hng : ∀ i o, i < k → ops[i]? = some o → o.guard = none)
 (hbar : ∀ i j, i < k → k ≤ j → j < ops.size → ((bef ops).getD j 0).testBit i = true) {Q : Exit → Act → World → Prop} : ∀ (fuel : Nat) (l : Array Bool) (a : Act) (w : World), l.size = k → fX ops (fun i => (l ++ Array.replicate m false).getD i false) → l.toList.countP id + fuel = k →
 wpAny P .any ops' (aFb P ops k m Q) fuel l a w → wpAny P .any ops Q (fuel + m) (l ++ Array.replicate m false) a w := by
 intro fuel
 induction fuel with
 | zero =>
  intro l a w hl hC hcnt h
  have hall : l = Array.replicate k true := by
   rw [← Array.toList_inj]
   simp only [Array.toList_replicate]
   have hlen : l.toList.length = k := by rw [Array.length_toList]; exact hl
   have h1 : l.toList.countP id = l.toList.length := by omega
   rw [List.countP_eq_length] at h1
   rw [← hlen]
   exact List.eq_replicate_iff.2 ⟨rfl, fun b hb => by simpa using h1 b hb⟩
  subst hall
  have := h.2
  rw [Nat.zero_add]
  exact this
 | succ fuel ih =>
  intro l a w hl hC hcnt h
  have hex : ∃ i, i < k ∧ l.getD i false = false := by
   by_cases hx : ∃ i, i < k ∧ l.getD i false = false
   ·exact hx
   ·exfalso
    have hc : l.toList.countP id = l.toList.length := by
     rw [List.countP_eq_length]
     intro b hb
     obtain ⟨n, hn, rfl⟩ := List.mem_iff_getElem.1 hb
     rw [Array.length_toList] at hn
     cases hbn : l[n] with
     | true => simpa using hbn
     | false => exact absurd ⟨n, by omega, by simp [Array.getD_eq_getD_getElem?, hn, hbn]⟩ hx
    rw [Array.length_toList] at hc
    omega
  obtain ⟨i0, hi0, hl0⟩ := hex
  have hLs : (l ++ Array.replicate m false).size = ops.size := by simp [hl, hsz]
  have hne : Region.ready .any ops (l ++ Array.replicate m false) ≠ [] := aCl hord hLs (i := i0) (by omega) (by rw [qN (by omega)]; exact hl0)
  rw [show fuel + 1 + m = (fuel + m) + 1 by omega]
  refine ⟨fun e => absurd e hne, fun i hi => ?_⟩
  have hik : i < k := by
   rcases Nat.lt_or_ge i k with h | h
   ·exact h
   ·exfalso
    have hS := iO hC hi
    have := fH (S := fun j => if j = i then true else (l ++ Array.replicate m false).getD j false) hS (hbar i0 i hi0 h (oA hi).1) (by simp)
    rw [if_neg (by omega), qN (by omega), hl0] at this
    cases this
  have ho : ops[i]? = some ops[i] := Array.getElem?_eq_getElem (by omega)
  have hi' : i ∈ Region.ready .any ops' l := by
   unfold Region.ready at hi ⊢
   rw [List.mem_filter] at hi ⊢
   obtain ⟨h1, h2⟩ := hi
   refine ⟨List.mem_range.2 (by omega), ?_⟩
   rw [hpre i hik]
   simp only [ho, Option.map_some, Option.getD_some, Bool.and_eq_true, Bool.not_eq_true'] at h2 ⊢
   refine ⟨?_, ?_⟩
   ·have := h2.1
    simp only [Array.getD_eq_getD_getElem?] at this ⊢
    rw [Array.getElem?_append_left (by omega)] at this
    exact this
   ·have h3 := h2.2
    rw [Array.all_eq_true'] at h3 ⊢
    intro e he
    have h4 := h3 e he
    cases hb : Region.binds .any e with
    | false => simp
    | true =>
     rw [hb] at h4
     have hlt := gD hord ho he hb
     rw [qN (by omega)] at h4
     simpa using h4
  have hst := h.2 i hi'
  have hg := hng i _ hik ho
  unfold wpOp at hst ⊢
  rw [hpre i hik, ho] at hst
  rw [ho]
  simp only at hst ⊢
  have hw1 : Region.wanted ops[i] (yielded ops' a.tmps) = true := by simp [Region.wanted, hg]
  have hw2 : Region.wanted ops[i] (yielded ops a.tmps) = true := by simp [Region.wanted, hg]
  simp only [hw1, hw2, if_true] at hst ⊢
  have hset : (l ++ Array.replicate m false).setIfInBounds i true = l.setIfInBounds i true ++ Array.replicate m false := by
   rw [Array.setIfInBounds_append_left (by omega)]
  have hgo : ∀ a w, wpAny P .any ops' (aFb P ops k m Q) fuel (l.setIfInBounds i true) a w → wpAny P .any ops Q (fuel + m) ((l ++ Array.replicate m false).setIfInBounds i true) a w := by
   intro a w h
   rw [hset]
   refine ih _ a w (by simp [hl]) ?_ ?_ h
   ·have := iO hC hi
    intro q o hq hS e he hb
    have hgl : ∀ j, (l.setIfInBounds i true ++ Array.replicate m false).getD j false = if j = i then true else (l ++ Array.replicate m false).getD j false := fun j => by
     rw [← hset]; exact kL (by simp [hl]; omega)
    have hS' : (l.setIfInBounds i true ++ Array.replicate m false).getD q false = true := hS
    show (l.setIfInBounds i true ++ Array.replicate m false).getD e.on false = true
    rw [hgl] at hS' ⊢
    exact this q o hq hS' e he hb
   ·have hli : l.getD i false = false := by
     have := (oA hi').2
     simp only [Array.getD_eq_getD_getElem?] at this ⊢
     rw [Array.getElem?_eq_getElem (by omega)] at this ⊢
     exact this
    have : (l.setIfInBounds i true).toList.countP id = l.toList.countP id + 1 := by
     rw [Array.toList_setIfInBounds]
     have hin : i < l.toList.length := by rw [Array.length_toList]; omega
     have hlv : l.toList[i] = false := by
      simp only [Array.getD_eq_getD_getElem?] at hli
      rw [Array.getElem?_eq_getElem (by omega)] at hli
      simpa using hli
     rw [List.countP_set hin]
     simp [hlv]
    omega
  refine hst.imp (fun hh => Oper.wp_mono hgo ?_) (fun hh => hh)
  exact hh
end
theorem wQ {α : Type} {b : Bool} {x : α} {y : α} (h : (bif b then some x else none) = some y) : b = true ∧ x = y := by
 cases b with
 | true => rw [cond_true] at h; exact ⟨rfl, Option.some.inj h⟩
 | false => cases h
def aJk : AObj → AObj → Bool
 | .cells a n x, .cells b m y => aDo a b && (Nat.beq n m && (x == y))
 | _, _ => false
theorem aLl {o o' : AObj} (h : aJk o o' = true) : o = o' := by
 unfold aJk at h
 split at h
 ·simp only [Bool.and_eq_true, beq_iff_eq] at h
  rw [zK h.1, Nat.eq_of_beq_eq_true h.2.1, h.2.2]
 ·cases h
def sM (H K : AH) (i : Nat) : Bool := match H.tr.get i, K.tr.get i with
 | some o, some o' => aJk o o'
 | _, _ => false
theorem nS {H K : AH} {i : Nat} (h : sM H K i = true) : H.tr.get i = K.tr.get i := by
 unfold sM at h
 split at h
 ·rename_i o o' h1 h2; rw [h1, h2, aLl h]
 ·cases h
def tgt (v : Value) : Nat := match v with
 | .pointer (some a) => a.block / 2
 | _ => 0
section
variable {P : Program} (E : Env P)
theorem iC {ρ : Operand → Value} {t : TypeId} {x y : Operand} {H H' : AH} {v : Value} (h : aop E ρ (.store t x y) H = some (v, H')) : H'.w0 = H.w0 ∧ H'.nx = H.nx ∧ ∀ j, j ≠ tgt (ρ x) → H'.tr.get j = H.tr.get j := by
 simp only [aop] at h
 split at h
 ·rename_i a ha
  split at h
  ·rename_i K hK
   cases h
   have key : ∀ {vs : List Value} {K : AH}, iG H a vs = some K → K.w0 = H.w0 ∧ K.nx = H.nx ∧ ∀ j, j ≠ a.block / 2 → K.tr.get j = H.tr.get j := by
    intro vs K hs
    unfold iG at hs
    rcases aU hs with hs | hs
    ·cases hs
    ·split at hs
     ·rcases aU hs with hs | hs
      ·cases hs; exact ⟨rfl, rfl, fun j hj => by simp only; rw [Tr.get_set_ne _ _ hj]⟩
      ·cases hs
     ·cases hs
   rw [show tgt (ρ x) = a.block / 2 by rw [ha]; rfl]
   unfold jG at hK
   split at hK
   ·rcases aU hK with hK | hK
    ·exact key hK
    ·cases hK
   ·cases hK
  ·cases h
 ·cases h
def nY (p : Oper) (t1 : TypeId) (x1 y1 : Operand) (t2 : TypeId) (x2 y2 : Operand) (f : Fr) (H : AH) : Option (Fr × AH) :=
 match aop E (bS f) p.op H with
 | some (v, _) => (match f.put p.dst v with
  | some g => (match aop E (bS g) (.store t1 x1 y1) H with
   | some (_, H1) => (match aop E (bS g) (.store t2 x2 y2) H1, aop E (bS g) (.store t2 x2 y2) H, aop E (bS f) (.store t2 x2 y2) H with
    | some (_, K), some (_, H2), some (_, H3) => (match aop E (bS g) (.store t1 x1 y1) H2, aop E (bS f) p.op H3, aop E (bS g) (.store t1 x1 y1) H3 with
     | some (_, K2), some (v3, _), some (_, K3) =>
      bif dI E p.op && (veq v v3 && (Nat.beq (tgt (bS f x2)) (tgt (bS g x2)) && (sM K K2 (tgt (bS g x1)) && (sM K K2 (tgt (bS g x2)) && (sM K K3 (tgt (bS g x1)) && sM K K3 (tgt (bS g x2))))))) then some (g, K) else none
     | _, _, _ => none)
    | _, _, _ => none)
   | none => none)
  | none => none)
 | none => none
theorem Rel.same {π : Pins} {φ : List Place} {H K : AH} {w : World} (R : Rel φ K w) (h0 : K.w0 = H.w0) (hn : K.nx = H.nx) (hg : ∀ j, H.tr.get j = K.tr.get j) : Rel φ H w :=
 ⟨by rw [← h0]; exact R.below, by rw [← hn]; exact R.len, fun i o h => by rw [← h0]; exact R.obj i o (by rw [← hg]; exact h), fun i j o o' p q h1 h2 => R.inj i j o o' p q (by rw [← hg]; exact h1) (by rw [← hg]; exact h2), R.pin, R.lt⟩
theorem aEh {ops : Array Oper} {k : Nat} (hord : dH ops (bef ops) = true) (hsz : ops.size = k + 3) {p s1 s2 : Oper} (hp0 : ops[k]? = some p) (hp1 : ops[k + 1]? = some s1) (hp2 : ops[k + 2]? = some s2) (hgp : p.guard = none) (hg1 : s1.guard = none) (hg2 : s2.guard = none)
 (hd1 : s1.dst = none) (hd2 : s2.dst = none) {t1 t2 : TypeId} {x1 y1 x2 y2 : Operand} (ho1 : s1.op = .store t1 x1 y1) (ho2 : s2.op = .store t2 x2 y2) (hb1 : ((bef ops).getD (k + 1) 0).testBit k = true)
 {f g : Fr} {H K : AH} (h : nY E p t1 x1 y1 t2 x2 y2 f H = some (g, K)) {Q : AQ} (hQ : Q .normal g K) (π : Pins) (φ0 φ : List Place) (w0 : World) (hφ : φ0 <+: φ) (hw0 : H.w0 = w0) (a : Act) (w : World) (hf : FRel φ f a) (hR : Rel φ H w) :
 wpAny P .any ops (iN φ0 w0 Q) 3 (Array.replicate k true ++ Array.replicate 3 false) a w := by
 unfold nY at h
 split at h
 ·rename_i v Hp ep
  split at h
  ·rename_i g' eg
   split at h
   ·rename_i u1 H1 e1
    split at h
    ·rename_i u2 K' u3 H2 u4 H3 e2 e3 e4
     split at h
     ·rename_i u5 K2 v3 H4 u6 K3 e5 e6 e7
      rcases wQ h with ⟨hc, h⟩
      cases h
      simp only [Bool.and_eq_true] at hc
      obtain ⟨hq, hv, ht, c1, c2, c3, c4⟩ := hc
      have hHp : Hp = H := jO E hq ep
      have hH4 : H4 = H3 := jO E hq e6
      subst hHp; subst hH4
      obtain rfl := rS hv
      have ht := Nat.eq_of_beq_eq_true ht
      -- the heaps agree
      have a1 := iC E e1; have a2 := iC E e2; have a3 := iC E e3; have a4 := iC E e4; have a5 := iC E e5; have a7 := iC E e7
      rw [ht] at a4
      have k2 : K2.w0 = K.w0 ∧ K2.nx = K.nx ∧ ∀ j, K.tr.get j = K2.tr.get j := by
       refine ⟨(a5.1.trans a3.1).trans (a2.1.trans a1.1).symm, (a5.2.1.trans a3.2.1).trans (a2.2.1.trans a1.2.1).symm, fun j => ?_⟩
       by_cases j1 : j = tgt (bS g x1)
       ·rw [j1]; exact nS c1
       ·by_cases j2 : j = tgt (bS g x2)
        ·rw [j2]; exact nS c2
        ·rw [a2.2.2 j j2, a1.2.2 j j1, a5.2.2 j j1, a3.2.2 j j2]
      have k3 : K3.w0 = K.w0 ∧ K3.nx = K.nx ∧ ∀ j, K.tr.get j = K3.tr.get j := by
       refine ⟨(a7.1.trans a4.1).trans (a2.1.trans a1.1).symm, (a7.2.1.trans a4.2.1).trans (a2.2.1.trans a1.2.1).symm, fun j => ?_⟩
       by_cases j1 : j = tgt (bS g x1)
       ·rw [j1]; exact nS c3
       ·by_cases j2 : j = tgt (bS g x2)
        ·rw [j2]; exact nS c4
        ·rw [a2.2.2 j j2, a1.2.2 j j1, a7.2.2 j j1, a4.2.2 j j2]
      have hKw : K.w0 = w0 := (a2.1.trans a1.1).trans hw0
      -- which operations are listed
      have gL : ∀ j, j < k + 3 → (Array.replicate k true ++ Array.replicate 3 false).getD j false = decide (j < k) := by
       intro j hj
       by_cases hjk : j < k
       ·rw [qN (by simpa using hjk)]; simp [Array.getD_eq_getD_getElem?, hjk]
       ·rw [aDb (by simpa using Nat.le_of_not_lt hjk)]; simp [hjk]
      have hsL : (Array.replicate k true ++ Array.replicate 3 false).size = ops.size := by simp [hsz]
      generalize hL : (Array.replicate k true ++ Array.replicate 3 false : Array Bool) = L at gL hsL
      have hC : fX ops (fun i => L.getD i false) := by
       intro i o ho hi e he hb
       have hlt := alt_of_getElem? ho
       have := gD hord ho he hb
       simp only at hi ⊢
       rw [gL i (by omega)] at hi
       rw [gL e.on (by omega)]
       simp only [decide_eq_true_eq] at hi ⊢
       omega
      have nof : ∀ {l : Array Bool} {i : Nat}, l.size = ops.size → i ∈ Region.ready .any ops l → i < k + 3 ∧ l.getD i false = false := by
       intro l i hl hi
       obtain ⟨q1, q2⟩ := oA hi
       refine ⟨by omega, ?_⟩
       simp only [Array.getD_eq_getD_getElem?] at q2 ⊢
       rw [Array.getElem?_eq_getElem (by omega)] at q2 ⊢
       exact q2
      have gs : ∀ {l : Array Bool} {i j : Nat}, l.size = ops.size → i < k + 3 → (l.setIfInBounds i true).getD j false = if j = i then true else l.getD j false := fun hl hi => kL (by omega)
      have cs : ∀ {l : Array Bool} {i : Nat}, l.size = ops.size → fX ops (fun j => l.getD j false) → i ∈ Region.ready .any ops l → fX ops (fun j => (l.setIfInBounds i true).getD j false) := by
       intro l i hl hcl hi q o hq hS e he hb
       have hik := (nof hl hi).1
       simp only [gs hl hik] at hS ⊢
       exact iO hcl hi q o hq hS e he hb
      have need : ∀ {l : Array Bool}, l.size = ops.size → fX ops (fun j => l.getD j false) → k + 1 ∈ Region.ready .any ops l → l.getD k false = true := by
       intro l hl hcl hi
       have := fH (S := fun j => if j = k + 1 then true else l.getD j false) (iO hcl hi) hb1 (by simp)
       simpa using this
      have ne : ∀ {l : Array Bool} {i : Nat}, l.size = ops.size → i < k + 3 → l.getD i false = false → Region.ready .any ops l ≠ [] := fun hl hi hx => aCl hord hl (by omega) hx
      have fin : ∀ {l : Array Bool} {φ' : List Place} {a' : Act} {w' : World}, l.size = ops.size → (∀ j, j < k + 3 → l.getD j false = true) → φ <+: φ' → FRel φ' g a' → Rel φ' K w' → wpAny P .any ops (iN φ0 w0 Q) 0 l a' w' :=
       fun hl hall p q r => ⟨aGz hl (fun i hi => hall i (by omega)), _, g, K, hφ.trans p, q, r, hKw, hQ⟩
      have op1 : ∀ {ρ : Operand → Value} {H : AH}, aop E ρ s1.op H = aop E ρ (.store t1 x1 y1) H := by intro ρ H; rw [ho1]
      have op2 : ∀ {ρ : Operand → Value} {H : AH}, aop E ρ s2.op H = aop E ρ (.store t2 x2 y2) H := by intro ρ H; rw [ho2]
      have pd1 : ∀ (f : Fr) (v : Value), f.put s1.dst v = some f := fun f v => by rw [hd1]; rfl
      have pd2 : ∀ (f : Fr) (v : Value), f.put s2.dst v = some f := fun f v => by rw [hd2]; rfl
      refine ⟨fun e => absurd e (ne hsL (i := k) (by omega) (by rw [gL k (by omega)]; simp)), fun i hi => ?_⟩
      obtain ⟨q1, q2⟩ := nof hsL hi
      rw [gL i q1] at q2
      have hik : k ≤ i := by simpa using q2
      have s1L : (L.setIfInBounds i true).size = ops.size := by simp [hsL]
      have C1 := cs hsL hC hi
      have g1 : ∀ j, j < k + 3 → (L.setIfInBounds i true).getD j false = if j = i then true else decide (j < k) := fun j hj => by rw [gs hsL q1, gL j hj]
      rcases (show i = k ∨ i = k + 1 ∨ i = k + 2 by omega) with rfl | rfl | rfl
      ·-- first the quiet one
       refine kA E hp0 hgp ep eg hf hR fun φ1 a1' w1 p1 f1 r1 => ?_
       refine ⟨fun e => absurd e (ne s1L (i := i + 1) (by omega) (by rw [g1 _ (by omega)]; simp)), fun j hj => ?_⟩
       obtain ⟨m1, m2⟩ := nof s1L hj
       rw [g1 j m1] at m2
       have hjk : j = i + 1 ∨ j = i + 2 := by
        by_cases hji : j = i
        ·rw [if_pos hji] at m2; cases m2
        ·rw [if_neg hji] at m2; simp at m2; omega
       have s2L : ((L.setIfInBounds i true).setIfInBounds j true).size = ops.size := by simp [hsL]
       have g2 : ∀ n, n < i + 3 → ((L.setIfInBounds i true).setIfInBounds j true).getD n false = if n = j then true else if n = i then true else decide (n < i) := fun n hn => by rw [gs s1L m1, g1 n hn]
       have last : ∀ q, q ∈ Region.ready .any ops ((L.setIfInBounds i true).setIfInBounds j true) → q ≠ j ∧ (q = i + 1 ∨ q = i + 2) := by
        intro q hq
        obtain ⟨n1, n2⟩ := nof s2L hq
        rw [g2 q n1] at n2
        by_cases h1 : q = j
        ·rw [if_pos h1] at n2; cases n2
        ·rw [if_neg h1] at n2
         by_cases h2 : q = i
         ·rw [if_pos h2] at n2; cases n2
         ·rw [if_neg h2] at n2; simp at n2; exact ⟨h1, by omega⟩
       have all3 : ∀ q, q ≠ j → (q = i + 1 ∨ q = i + 2) → ∀ n, n < i + 3 → (((L.setIfInBounds i true).setIfInBounds j true).setIfInBounds q true).getD n false = true := by
        intro q hqj hq n hn
        rw [gs s2L (by omega), g2 n hn]
        by_cases h1 : n = q
        ·rw [if_pos h1]
        ·rw [if_neg h1]
         by_cases h2 : n = j
         ·rw [if_pos h2]
         ·rw [if_neg h2]
          by_cases h3 : n = i
          ·rw [if_pos h3]
          ·rw [if_neg h3]; simp; omega
       rcases hjk with rfl | rfl
       ·refine kA E hp1 hg1 (op1.trans e1) (pd1 _ _) f1 r1 fun φ2 a2' w2 p2 f2 r2 => ?_
        refine ⟨fun e => absurd e (ne s2L (i := i + 2) (by omega) (by rw [g2 _ (by omega)]; simp)), fun q hq => ?_⟩
        obtain ⟨l1, l2⟩ := last q hq
        have hq2 : q = i + 2 := by omega
        have A3 := all3 q l1 l2
        subst hq2
        exact kA E hp2 hg2 (op2.trans e2) (pd2 _ _) f2 r2 fun φ3 a3' w3 p3 f3 r3 => fin (by simp [hsL]) A3 ((p1.trans p2).trans p3) f3 r3
       ·refine kA E hp2 hg2 (op2.trans e3) (pd2 _ _) f1 r1 fun φ2 a2' w2 p2 f2 r2 => ?_
        refine ⟨fun e => absurd e (ne s2L (i := i + 1) (by omega) (by rw [g2 _ (by omega)]; simp)), fun q hq => ?_⟩
        obtain ⟨l1, l2⟩ := last q hq
        have hq2 : q = i + 1 := by omega
        have A3 := all3 q l1 l2
        subst hq2
        exact kA E hp1 hg1 (op1.trans e5) (pd1 _ _) f2 r2 fun φ3 a3' w3 p3 f3 r3 => fin (by simp [hsL]) A3 ((p1.trans p2).trans p3) f3 (r3.same k2.1 k2.2.1 k2.2.2)
      ·exfalso
       have := need hsL hC hi
       rw [gL k (by omega)] at this
       simp at this
      ·-- first the late store
       refine kA E hp2 hg2 (op2.trans e4) (pd2 _ _) hf hR fun φ1 a1' w1 p1 f1 r1 => ?_
       refine ⟨fun e => absurd e (ne s1L (i := k) (by omega) (by rw [g1 _ (by omega)]; simp)), fun j hj => ?_⟩
       obtain ⟨m1, m2⟩ := nof s1L hj
       rw [g1 j m1] at m2
       have hjk : j = k ∨ j = k + 1 := by
        by_cases hji : j = k + 2
        ·rw [if_pos hji] at m2; cases m2
        ·rw [if_neg hji] at m2; simp at m2; omega
       rcases hjk with rfl | rfl
       ·refine kA E hp0 hgp e6 eg f1 r1 fun φ2 a2' w2 p2 f2 r2 => ?_
        have s2L : ((L.setIfInBounds (j + 2) true).setIfInBounds j true).size = ops.size := by simp [hsL]
        have g2 : ∀ n, n < j + 3 → ((L.setIfInBounds (j + 2) true).setIfInBounds j true).getD n false = if n = j then true else if n = j + 2 then true else decide (n < j) := fun n hn => by rw [gs s1L m1, g1 n hn]
        refine ⟨fun e => absurd e (ne s2L (i := j + 1) (by omega) (by rw [g2 _ (by omega)]; simp)), fun q hq => ?_⟩
        obtain ⟨n1, n2⟩ := nof s2L hq
        rw [g2 q n1] at n2
        have hq2 : q = j + 1 := by
         by_cases h1 : q = j
         ·rw [if_pos h1] at n2; cases n2
         ·rw [if_neg h1] at n2
          by_cases h2 : q = j + 2
          ·rw [if_pos h2] at n2; cases n2
          ·rw [if_neg h2] at n2; simp at n2; omega
        subst hq2
        refine kA E hp1 hg1 (op1.trans e7) (pd1 _ _) f2 r2 fun φ3 a3' w3 p3 f3 r3 => fin (by simp [hsL]) (fun n hn => ?_) ((p1.trans p2).trans p3) f3 (r3.same k3.1 k3.2.1 k3.2.2)
        rw [gs s2L n1, g2 n hn]
        by_cases h1 : n = j + 1
        ·rw [if_pos h1]
        ·rw [if_neg h1]
         by_cases h2 : n = j
         ·rw [if_pos h2]
         ·rw [if_neg h2]
          by_cases h3 : n = j + 2
          ·rw [if_pos h3]
          ·rw [if_neg h3]; simp; omega
       ·exfalso
        have := need s1L C1 hj
        rw [g1 k (by omega)] at this
        simp at this
     ·cases h
    ·cases h
   ·cases h
  ·cases h
 ·cases h
end
theorem aCy {P : Program} {ops : Array Oper} {Q Q' : Exit → Act → World → Prop} (h : ∀ e a w, Q e a w → Q' e a w) {i : Nat} {K K' : Act → World → Prop} (hK : ∀ a w, K a w → K' a w) {a : Act} {w : World} (k : wpOp P ops Q i K a w) : wpOp P ops Q' i K' a w := by
 unfold wpOp at k ⊢
 cases ho : ops[i]? with
 | none => simp only [ho] at k ⊢; exact hK _ _ k
 | some o =>
  simp only [ho] at k ⊢
  split
  ·rename_i hw
   simp only [hw, if_true] at k
   rcases k with k | ⟨k1, k2⟩
   ·left
    unfold Oper.wp at *
    generalize (execOp a.eval o).run P w = r at *
    cases r with
    | ok n w' =>
     cases n <;> simp only [Oper.upon] at k ⊢ <;>
      first
       | exact hK _ _ k
       | exact Calls.mono k (fun e w'' he => by cases e <;> first | exact hK _ _ he | exact h _ _ _ he | exact jF h he)
       | exact Rows.mono k (fun _ _ he => hK _ _ he)
    | halt x w' => cases x <;> simp only [Oper.upon] at k ⊢ <;> first | exact h _ _ _ k | exact k
   ·exact .inr ⟨k1, jF h k2⟩
  ·rename_i hw
   simp only [hw] at k
   exact hK _ _ k
theorem tU {P : Program} {md : Region.Mode} {ops : Array Oper} {Q Q' : Exit → Act → World → Prop} (h : ∀ e a w, Q e a w → Q' e a w) : ∀ (n : Nat) (l : Array Bool) (a : Act) (w : World), wpAny P md ops Q n l a w → wpAny P md ops Q' n l a w
 | 0, l, a, w, k => ⟨k.1, h _ _ _ k.2⟩
 | n + 1, l, a, w, k => ⟨fun e => h _ _ _ (k.1 e), fun i hi => aCy h (fun a w q => tU h n _ a w q) (k.2 i hi)⟩
def uZ (ops : Array Oper) (bs : List Nat) (k : Nat) : Bool :=
 (List.range k).all (fun i => (match ops[i]? with | some o => o.guard.isNone | none => true) && ((bs.getD k 0).testBit i && ((bs.getD (k + 1) 0).testBit i && (bs.getD (k + 2) 0).testBit i))) && (bs.getD (k + 1) 0).testBit k
section
variable {P : Program} (E : Env P)
def lB (call : dM) (ops : Array Oper) (f : Fr) (H : AH) : Option (Fr × AH) :=
 match ops.toList.drop (ops.size - 3) with
 | [p, s1, s2] => (match s1.op, s2.op with
  | .store t1 x1 y1, .store t2 x2 y2 =>
   bif dH ops (bef ops) && (uZ ops (bef ops) (ops.size - 3) && (p.guard.isNone && (s1.guard.isNone && (s2.guard.isNone && (s1.dst.isNone && s2.dst.isNone))))) then
    (match gF E call (ops.toList.take (ops.size - 3)).toArray f H with
    | some (g, K) => nY E p t1 x1 y1 t2 x2 y2 g K
    | none => none)
   else none
  | _, _ => none)
 | _ => none
theorem aDy {p : Oper} {t1 t2 : TypeId} {x1 y1 x2 y2 : Operand} {f g : Fr} {H K : AH} (h : nY E p t1 x1 y1 t2 x2 y2 f H = some (g, K)) : K.w0 = H.w0 := by
 unfold nY at h
 split at h
 ·split at h
  ·split at h
   ·rename_i u1 H1 e1
    split at h
    ·rename_i u2 K' u3 H2 u4 H3 e2 e3 e4
     split at h
     ·obtain ⟨_, h⟩ := wQ h
      cases h
      exact (iC E e2).1.trans (iC E e1).1
     ·cases h
    ·cases h
   ·cases h
  ·cases h
 ·cases h
theorem rG {call : dM} (hcall : eR P call) (hm : P.follows .mixedOrders = true) {ops : Array Oper} {f g : Fr} {H K : AH} (h : lB E call ops f H = some (g, K)) (id : Nat) : mI P (.region id ops true) .normal g K f H := by
 unfold lB at h
 split at h
 ·rename_i p s1 s2 hdrop
  split at h
  ·rename_i t1 x1 y1 t2 x2 y2 ho1 ho2
   cases hc : (dH ops (bef ops) && (uZ ops (bef ops) (ops.size - 3) && (p.guard.isNone && (s1.guard.isNone && (s2.guard.isNone && (s1.dst.isNone && s2.dst.isNone)))))) with
   | false => rw [hc] at h; cases h
   | true =>
    rw [hc, cond_true] at h
    simp only [Bool.and_eq_true, Option.isNone_iff_eq_none] at hc
    obtain ⟨hord, hlate, hgp, hg1, hg2, hd1, hd2⟩ := hc
    split at h
    ·rename_i g1 K1 hrun
     generalize ops.size - 3 = k at hdrop hlate hrun
     have hlen : (ops.toList.drop k).length = 3 := by rw [hdrop]; rfl
     have hsz : ops.size = k + 3 := by rw [List.length_drop, Array.length_toList] at hlen; omega
     have hp : ∀ i, (ops.toList.drop k)[i]? = ops[k + i]? := fun i => by rw [List.getElem?_drop, Array.getElem?_toList]
     have hp0 : ops[k]? = some p := by have := hp 0; rw [hdrop] at this; simpa using this.symm
     have hp1 : ops[k + 1]? = some s1 := by have := hp 1; rw [hdrop] at this; simpa using this.symm
     have hp2 : ops[k + 2]? = some s2 := by have := hp 2; rw [hdrop] at this; simpa using this.symm
     have hpre : ∀ i, i < k → (ops.toList.take k).toArray[i]? = ops[i]? := fun i hi => by simp [List.getElem?_take, hi]
     have hsz' : (ops.toList.take k).toArray.size = k := by simp; omega
     simp only [uZ, Bool.and_eq_true, List.all_eq_true] at hlate
     obtain ⟨hl1, hb1⟩ := hlate
     have hng : ∀ i o, i < k → ops[i]? = some o → o.guard = none := fun i o hi ho => by
      have := (hl1 i (List.mem_range.2 hi)).1
      rw [ho] at this
      simpa using this
     have hbar : ∀ i j, i < k → k ≤ j → j < ops.size → ((bef ops).getD j 0).testBit i = true := fun i j hi hkj hj => by
      have := (hl1 i (List.mem_range.2 hi)).2
      rcases (show j = k ∨ j = k + 1 ∨ j = k + 2 by omega) with rfl | rfl | rfl
      ·exact this.1
      ·exact this.2.1
      ·exact this.2.2
     have hw1 := lM E hcall hrun
     refine ⟨(aDy E h).trans hw1, ?_⟩
     obtain ⟨F, HH, V, M, Fl, T, w0s, rfl, rfl, rfl, rfl⟩ := qC E hcall hrun
     intro π φ a w hf hR
     refine wp_region_any hm ?_
     have hall := T.anyAll w0s (Q := fun e f' H' => e = Exit.normal ∧ f' = F _ ∧ H' = HH _) ⟨rfl, rfl, rfl⟩ π φ a w hf hR
     have hrep : Array.replicate ops.size false = Array.replicate k false ++ Array.replicate 3 false := by rw [hsz, Array.replicate_append_replicate]
     rw [hrep]
     have hsz2 : ops.size = k + 3 := hsz
     rw [hsz2]
     refine xP hord hsz hsz' hpre hng hbar k (Array.replicate k false) a w.drew (by simp) ?_ (by simp [Array.toList_replicate]) ?_
     ·intro i o ho hi
      have : (Array.replicate k false ++ Array.replicate 3 false).getD i false = false := by
       rw [Array.replicate_append_replicate]
       simp only [Array.getD_eq_getD_getElem?, Array.getElem?_replicate]
       split <;> rfl
      replace hi : (Array.replicate k false ++ Array.replicate 3 false).getD i false = true := hi
      rw [this] at hi; cases hi
     ·rw [hsz'] at hall h
      refine tU ?_ _ _ _ _ hall
      rintro e a' w' ⟨φ', f', H', p1, q1, q2, q3, rfl, rfl, rfl⟩
      exact aEh E hord hsz hp0 hp1 hp2 hgp hg1 hg2 hd1 hd2 ho1 ho2 hb1 h (Q := fun e' g' K' => e' = Exit.normal ∧ g' = g ∧ K' = K) ⟨rfl, rfl, rfl⟩ π φ φ' _ p1 q3 a' w' q1 q2
    ·cases h
  ·cases h
 ·cases h
end
section
variable {P : Program} (E : Env P)
def gK (call : dM) (fuel : Nat) : Code → Fr → AH → Option (Exit × Fr × AH)
 | .skip, f, H => some (.normal, f, H)
 | .label _, f, H => some (.normal, f, H)
 | .exit i, f, H => some (.exit i, f, H)
 | .ret, f, H => some (.ret, f, H)
 | .seq a b, f, H => (match gK call fuel a f H with
  | some (.normal, f', H') => gK call fuel b f' H'
  | r => r)
 | .cond c x y, f, H => (match bS f c with
  | .bool true => gK call fuel x f H
  | .bool false => gK call fuel y f H
  | _ => none)
 | .block i c, f, H => (match gK call fuel c f H with
  | some (.exit j, f', H') => bif Nat.beq j i then some (.normal, f', H') else some (.exit j, f', H')
  | r => r)
 | .loop c, f, H => qI (gK call fuel c) fuel f H
 | .region _ ops draw, f, H =>
  bif draw then (match gF E call ops f H with
   | some (g, K) => some (.normal, g, K)
   | none => (match lB E call ops f H with
    | some (g, K) => some (.normal, g, K)
    | none => none))
  else (match eI E call ops ops.toList f H with
   | some (g, K) => some (.normal, g, K)
   | none => none)
 | _, _, _ => none
theorem aMd {call : dM} (hcall : eR P call) (hm : P.follows .mixedOrders = true) (fuel : Nat) : ∀ (c : Code) (f : Fr) (H : AH) (e : Exit) (g : Fr) (K : AH), gK E call fuel c f H = some (e, g, K) → mI P c e g K f H := by
 intro c
 induction c with
 | skip => intro f H e g K h; simp only [gK] at h; cases h; exact ⟨rfl, ACode.skip ⟨rfl, rfl, rfl⟩⟩
 | label l => intro f H e g K h; simp only [gK] at h; cases h; exact ⟨rfl, ACode.label ⟨rfl, rfl, rfl⟩⟩
 | exit i => intro f H e g K h; simp only [gK] at h; cases h; exact ⟨rfl, ACode.exit ⟨rfl, rfl, rfl⟩⟩
 | ret => intro f H e g K h; simp only [gK] at h; cases h; exact ⟨rfl, ACode.ret ⟨rfl, rfl, rfl⟩⟩
 | seq x y ihx ihy =>
  intro f H e g K h
  simp only [gK] at h
  cases hx : gK E call fuel x f H with
  | none => rw [hx] at h; cases h
  | some r =>
   obtain ⟨e1, f1, H1⟩ := r
   rw [hx] at h
   obtain ⟨w1, c1⟩ := ihx _ _ _ _ _ hx
   by_cases he : e1 = .normal
   ·subst he
    simp only at h
    obtain ⟨w2, c2⟩ := ihy _ _ _ _ _ h
    refine ⟨w2.trans w1, ACode.seq c1 ?_ ?_⟩
    ·rintro f' H' ⟨_, rfl, rfl⟩; exact c2
    ·rintro e' f' H' hne ⟨rfl, _⟩; exact absurd rfl hne
   ·have hh : e1 = e ∧ f1 = g ∧ H1 = K := by
     cases e1 with
     | normal => exact absurd rfl he
     | _ => simp only [Option.some.injEq, Prod.mk.injEq] at h; exact h
    obtain ⟨rfl, rfl, rfl⟩ := hh
    refine ⟨w1, ACode.seq c1 ?_ ?_⟩
    ·rintro f' H' ⟨e0, _⟩; exact absurd e0.symm he
    ·rintro e' f' H' _ k; exact k
 | cond c x y ihx ihy =>
  intro f H e g K h
  simp only [gK] at h
  split at h
  ·rename_i hc
   obtain ⟨w1, c1⟩ := ihx _ _ _ _ _ h
   exact ⟨w1, ACode.cond hc c1⟩
  ·rename_i hc
   obtain ⟨w1, c1⟩ := ihy _ _ _ _ _ h
   exact ⟨w1, ACode.cond hc c1⟩
  ·cases h
 | block i c ih =>
  intro f H e g K h
  simp only [gK] at h
  cases hx : gK E call fuel c f H with
  | none => rw [hx] at h; cases h
  | some r =>
   obtain ⟨e1, f1, H1⟩ := r
   rw [hx] at h
   obtain ⟨w1, c1⟩ := ih _ _ _ _ _ hx
   have fin : H1 = K → f1 = g → (∀ f' H', f' = g → H' = K → (match e1 with | .exit j => if j = i then (Exit.normal = e ∧ f' = g ∧ H' = K) else (Exit.exit j = e ∧ f' = g ∧ H' = K) | e' => (e' = e ∧ f' = g ∧ H' = K))) → mI P (.block i c) e g K f H := by
    rintro rfl rfl k
    refine ⟨w1, ACode.block (c1.mono ?_)⟩
    rintro e' f' H' ⟨rfl, rfl, rfl⟩
    have := k f' H' rfl rfl
    cases e' <;> exact this
   cases e1 with
   | exit j =>
    simp only at h
    cases hj : Nat.beq j i with
    | true =>
     rw [hj, cond_true] at h
     cases h
     have := Nat.eq_of_beq_eq_true hj
     exact fin rfl rfl fun f' H' h1 h2 => by simp only [this, if_true]; exact ⟨trivial, h1, h2⟩
    | false =>
     rw [hj, cond_false] at h
     cases h
     have : ¬ j = i := fun e => by rw [e] at hj; simp at hj
     exact fin rfl rfl fun f' H' h1 h2 => by simp only [this, if_false]; exact ⟨trivial, h1, h2⟩
   | _ =>
    simp only [Option.some.injEq, Prod.mk.injEq] at h
    obtain ⟨rfl, rfl, rfl⟩ := h
    exact fin rfl rfl fun f' H' h1 h2 => ⟨rfl, h1, h2⟩
 | loop c ih =>
  intro f H e g K h
  simp only [gK] at h
  exact aBn ih fuel f H e g K h
 | region i ops draw =>
  intro f H e g K h
  simp only [gK] at h
  cases draw with
  | true =>
   rw [cond_true] at h
   split at h
   ·rename_i g' K' hd
    cases h
    exact ⟨lM E hcall hd, qY E hcall hm ⟨rfl, rfl, rfl⟩ hd i⟩
   ·split at h
    ·rename_i g' K' hd
     cases h
     exact rG E hcall hm hd i
    ·cases h
  | false =>
   rw [cond_false] at h
   split at h
   ·rename_i g' K' hd
    cases h
    refine ⟨pL E hcall _ _ _ hd, ACode.region ?_⟩
    have := pX E hcall (Q := fun e' g'' K'' => e' = Exit.normal ∧ g'' = g ∧ K'' = K) ⟨rfl, rfl, rfl⟩ ops.toList 0 f H (fun j => by simp) hd
    rw [Array.length_toList, ← List.range_eq_range'] at this
    exact this
   ·cases h
 | _ => intro f H e g K h; simp only [gK] at h; cases h
end
end Go.AM
namespace Go.AM
open Go.RowKit
variable [σ : Sg]
section
variable {P : Program} (E : Env P)
end
end Go.AM
namespace Go.AM
open Go.RowKit
variable [σ : Sg]
section
variable {P : Program} {E : Env P} {G : RG} {i n d : Nat} {r : List Oper} {Q : Fr → AH → Prop} {t : Tr Value} {l : List (Nat × Value)} {S H0 : AH} {A0 A : Nat → Prop} {L L' : OL} {v u : Value} {x y : Operand} {gd : Option (Nat × Bool)} {af : Array Edge} {ps : String} {ty : TypeId}
end
section
variable {P : Program} {E : Env P} {t : TypeId} {k : IntKind} {a b c : Int}
theorem aOd (hb : b ≠ 0) (h : k.wrap (a.tdiv b) = c) : cT E .quo t (.int k a) (.int k b) = some (.int k c) := by simp only [cT, dY]; rw [if_neg hb, h, if_pos trivial]
end
end Go.AM
namespace Go.AM
open Go.RowKit
variable [σ : Sg]
section
variable {P : Program} {E : Env P} {ops : Array Oper} {ms : List Nat} {W W' : AH → Prop}
end
section
variable {P : Program} {E : Env P} {S H0 : AH} {A0 A : Nat → Prop} {L : OL} {K : AQ}
end
end Go.AM
namespace Go.AM
variable [σ : Sg]
theorem aEu {α : Type} (l : List α) (a c : Nat) : l.drop a = (l.drop a).take c ++ l.drop (a + c) := by
 rw [← List.drop_drop]; exact (List.take_append_drop c (l.drop a)).symm
theorem iD {α β : Type} (f : List α → List β) (hn : f [] = []) (ha : ∀ a b, f (a ++ b) = f a ++ f b) (l : List α) (c : Nat) : ∀ (Ls : List (List β)) (a : Nat), (∀ i L, Ls[i]? = some L → f ((l.drop (a + i * c)).take c) = L) → l.length ≤ a + Ls.length * c → f (l.drop a) = Ls.flatten
 | [], a, _, hl => by
  rw [List.drop_eq_nil_of_le (by simpa using hl), hn]; rfl
 | L :: Ls, a, h, hl => by
  rw [aEu l a c, ha, List.flatten_cons]
  have h0 := h 0 L rfl
  rw [Nat.zero_mul, Nat.add_zero] at h0
  rw [h0, iD f hn ha l c Ls (a + c) (fun i M hi => by
   have := h (i + 1) M (by simpa using hi)
   rwa [show a + (i + 1) * c = a + c + i * c by rw [Nat.add_mul]; omega] at this) (by rw [List.length_cons, Nat.add_mul] at hl; omega)]
section
variable {P P' : Program}
def bare (F : Func) : Bool := F.body.isNone
theorem aPa (h : P.funcs.toList.filter bare = P'.funcs.toList) (w : String) : P.worded w = P'.worded w := by
 unfold Program.worded
 rw [← Array.any_toList, ← Array.any_toList, ← h, List.any_filter]
 congr 1
 funext F
 unfold bare
 cases F.body.isNone <;> rfl
theorem aEe (h : P.funcs.toList.filter bare = P'.funcs.toList) : P.doorBytes = P'.doorBytes := by
 unfold Program.doorBytes
 rw [← h, List.filterMap_filter]
 congr 2
 funext F
 unfold bare
 cases F.body.isNone <;> rfl
theorem vR (h : P.doorBytes = P'.doorBytes) (v : String) : P.kindBase v = P'.kindBase v := by
 unfold Program.kindBase Program.wordedOn Program.tailsOn
 rw [h]
theorem aGd (h : P.doorBytes = P'.doorBytes) (v : String) : P.kindOfLater v = P'.kindOfLater v := by
 unfold Program.kindOfLater Program.wordedOn Program.tailsOn
 rw [vR h, h]
theorem wX {p : Nat → Bool} {i : Nat} : ∀ (m : Nat), i < m → (∀ j, j < m → p j = decide (j = i)) → (List.range m).filter p = [i]
 | 0, h, _ => by omega
 | m + 1, h, hp => by
  rw [List.range_succ, List.filter_append]
  by_cases e : i = m
  ·subst e
   have h1 : (List.range i).filter p = [] := by
    rw [List.filter_eq_nil_iff]
    intro j hj
    rw [hp j (by have := List.mem_range.1 hj; omega)]
    have := List.mem_range.1 hj
    simp; omega
   rw [h1, List.nil_append, List.filter_cons, hp i (by omega)]
   simp
  ·rw [wX m (by omega) fun j hj => hp j (by omega), List.filter_cons, hp m (by omega)]
   simp [Ne.symm e]
theorem mG {nm : List String} (h : P.funcs.toList.map (fun F : Func => F.name) = nm) {n : String} {i : Nat} (hi : nm[i]? = some n) (h1 : (nm.take i).all (fun x => !(x == n)) = true) (h2 : (nm.drop (i + 1)).all (fun x => !(x == n)) = true) : P.funcNamed n = some i := by
 have hlen : nm.length = P.funcs.size := by rw [← h, List.length_map, Array.length_toList]
 have hlt : i < nm.length := by
  obtain ⟨q, _⟩ := List.getElem?_eq_some_iff.1 hi
  exact q
 have hat : ∀ j, (P.funcs[j]?).map (fun F : Func => F.name) = nm[j]? := fun j => by rw [← h, List.getElem?_map, Array.getElem?_toList]
 have hp : ∀ j, j < P.funcs.size → ((P.funcs[j]?).any (·.name == n)) = decide (j = i) := by
  intro j hj
  have hx : nm[j]? = some (nm[j]'(by omega)) := List.getElem?_eq_getElem (by omega)
  generalize nm[j]'(by omega) = x at hx
  have hq := hat j
  rw [hx] at hq
  cases hF : P.funcs[j]? with
  | none => rw [hF] at hq; cases hq
  | some F =>
   rw [hF] at hq
   have hq : F.name = x := Option.some.inj hq
   simp only [Option.any_some, hq]
   by_cases e : j = i
   ·subst e
    rw [hi] at hx; cases hx
    simp
   ·have hne : (x == n) = false := by
     rcases Nat.lt_or_ge j i with hl | hl
     ·rw [List.all_eq_true] at h1
      have := h1 x (List.mem_of_getElem? (i := j) (by rw [List.getElem?_take, if_pos hl]; exact hx))
      simpa using this
     ·rw [List.all_eq_true] at h2
      have := h2 x (List.mem_of_getElem? (i := j - (i + 1)) (by rw [List.getElem?_drop, show i + 1 + (j - (i + 1)) = j by omega]; exact hx))
      simpa using this
    rw [hne]; simp [e]
 unfold Program.funcNamed
 rw [wX P.funcs.size (by omega) hp]
def wV {α : Type} : List α → Nat → Tr α → Tr α
 | [], _, t => t
 | x :: l, i, t => wV l (i + 1) (t.set i (some x))
theorem aBu {α : Type} : ∀ (l : List α) (i : Nat) (t : Tr α) (j : Nat), (∀ k, i ≤ k → t.get k = none) → (wV l i t).get j = if i ≤ j then l[j - i]? else t.get j
 | [], i, t, j, h => by
  simp only [wV]
  split
  ·rename_i hj; rw [h j hj]; simp
  ·rfl
 | x :: l, i, t, j, h => by
  simp only [wV]
  rw [aBu l (i + 1) _ j (fun k hk => by rw [Tr.get_set, if_neg (by omega)]; exact h k (by omega)), Tr.get_set]
  by_cases e : j = i
  ·subst e; rw [if_neg (by omega), if_pos rfl, if_pos (Nat.le_refl _), Nat.sub_self]; rfl
  ·rw [if_neg e]
   by_cases q : i + 1 ≤ j
   ·rw [if_pos q, if_pos (by omega), show j - i = (j - (i + 1)) + 1 by omega, List.getElem?_cons_succ]
   ·rw [if_neg q, if_neg (by omega)]
theorem aAi {α : Type} (l : List α) (j : Nat) : (wV l 0 .nil).get j = l[j]? := by
 rw [aBu l 0 .nil j (fun k _ => Tr.get_nil k), if_pos (Nat.zero_le _), Nat.sub_zero]
def clT (T : Tr (List Nat)) : Nat → List Nat → Tr Unit → List Nat → List Nat
 | 0, _, _, acc => acc.reverse
 | _ + 1, [], _, acc => acc.reverse
 | n + 1, f :: todo, s, acc => match s.get f with
  | some _ => clT T n todo s acc
  | none => clT T n ((T.get f).getD [] ++ todo) (s.set f (some ())) (f :: acc)
theorem aSg {T : List (List Nat)} (hT : P.funcs.toList.map P.leadsTo = T) : ∀ (n : Nat) (todo : List Nat) (s : Tr Unit) (acc : List Nat), (∀ x, acc.contains x = (s.get x).isSome) → clT (wV T 0 .nil) n todo s acc = P.closureVia n todo acc := by
 have hat : ∀ f, (P.funcs[f]?).elim [] P.leadsTo = ((wV T 0 .nil).get f).getD [] := fun f => by
  rw [aAi, ← hT, List.getElem?_map, Array.getElem?_toList]
  cases P.funcs[f]? <;> rfl
 intro n
 induction n with
 | zero => intro todo s acc _; simp only [clT, Program.closureVia]
 | succ n ih =>
  intro todo s acc hs
  cases todo with
  | nil => simp only [clT, Program.closureVia]
  | cons f todo =>
   simp only [clT, Program.closureVia]
   cases hf : s.get f with
   | some u => rw [hs f, hf, Option.isSome_some, if_pos rfl]; exact ih todo s acc hs
   | none =>
    rw [hs f, hf, Option.isSome_none, if_neg (by decide), hat f]
    refine ih _ _ _ fun x => ?_
    rw [Tr.get_set, List.contains_cons, hs x]
    by_cases e : x = f
    ·subst e; simp
    ·rw [if_neg e]; simp [e]
theorem xI {T : List (List Nat)} (hT : P.funcs.toList.map P.leadsTo = T) (f : Nat) {fuel : Nat} (hf : 1 + (T.map fun l => l.length + 1).sum = fuel) {C : List Nat} (hC : clT (wV T 0 .nil) fuel [f] .nil [] = C) : P.closure f = C := by
 have hs : ∀ x : Nat, ([] : List Nat).contains x = ((Tr.nil : Tr Unit).get x).isSome := fun x => by rw [Tr.get_nil]; rfl
 have e : (P.funcs.toList.map fun g => (P.leadsTo g).length + 1) = T.map fun l => l.length + 1 := by rw [← hT, List.map_map]; rfl
 rw [← hC, aSg hT fuel [f] .nil [] hs, Program.closure, e, hf]
theorem wJ {β : Type} {q : Func → Option β} {I : List (Option β)} (h : P.funcs.toList.map q = I) (C : List Nat) : (C.filterMap fun g => (P.funcs[g]?).bind q) = C.filterMap fun g => ((wV I 0 .nil).get g).bind id := by
 congr 1
 funext g
 rw [aAi, ← h, List.getElem?_map, Array.getElem?_toList]
 cases P.funcs[g]? <;> rfl
theorem aEn {β : Type} {q : Func → List β} {I : List (List β)} (h : P.funcs.toList.map q = I) (C : List Nat) : (C.flatMap fun g => (P.funcs[g]?).elim [] q) = C.flatMap fun g => ((wV I 0 .nil).get g).getD [] := by
 congr 1
 funext g
 rw [aAi, ← h, List.getElem?_map, Array.getElem?_toList]
 cases P.funcs[g]? <;> rfl
theorem aHi {I : List (List Nat)} (h : P.funcs.toList.map (fun F : Func => F.body.elim [] Code.globalsNamed) = I) (C : List Nat) : (C.flatMap fun g => ((P.funcs[g]?).bind (·.body)).elim [] Code.globalsNamed) = C.flatMap fun g => ((wV I 0 .nil).get g).getD [] := by
 rw [← aEn h]
 congr 1
 funext g
 cases P.funcs[g]? <;> rfl
end
end Go.AM
namespace Go.AM
open Go.RowKit
variable [σ : Sg]
inductive Fm where
 | code (c : Code)
 | blk (i : Nat)
structure Stt where
 e : Exit
 k : List Fm
 f : Fr
 H : AH
def rJ (P : Program) (Q : AQ) : List Fm → AQ
 | [] => Q
 | .code c :: k => fun e f H => (e = .normal ∧ ACode P c (rJ P Q k) f H) ∨ (e ≠ .normal ∧ rJ P Q k e f H)
 | .blk i :: k => fun e f H => match e with
  | .exit j => if j = i then rJ P Q k .normal f H else rJ P Q k (.exit j) f H
  | e => rJ P Q k e f H
def Stt.Ok (P : Program) (Q : AQ) (s : Stt) : Prop := rJ P Q s.k s.e s.f s.H
section
variable {P : Program} (E : Env P)
end
theorem Rel.less [Pins] {φ : List Place} {H H' : AH} {w : World} (R : Rel φ H w) (h0 : H'.w0 = H.w0) (hn : H'.nx = H.nx) (hg : ∀ i o, H'.tr.get i = some o → H.tr.get i = some o) : Rel φ H' w :=
 ⟨by rw [h0]; exact R.below, by rw [hn]; exact R.len, fun i o h => by rw [h0]; exact R.obj i o (hg i o h), fun i j o o' p q h1 h2 => R.inj i j o o' p q (hg _ _ h1) (hg _ _ h2), R.pin, R.lt⟩
section
variable {P : Program} (E : Env P)
end
inductive Mv where
 | b (x : Bool)
 | e (x : Exit)
def vT (l : List Nat) : Value := .string ⟨⟨l.map UInt8.ofNat⟩⟩
def vI (n : Int) : Value := .int .i64 n
def vP (b o : Nat) : Value := .pointer (some ⟨b, o, none⟩)
def vS (b o l c : Nat) : Value := .slice (some ⟨b, o, none⟩) l c
end Go.AM
namespace Go.AM
open Go.RowKit
variable [σ : Sg]
inductive Takes : OL → OL → OL → Prop
 | nil {L : OL} : Takes [] L L
 | cons {N : Nat} {o : AObj} {r L L1 L2 : OL} (h : Rem N o L L1) (k : Takes r L1 L2) : Takes ((N, o) :: r) L L2
theorem Takes.sub {T L L0 : OL} (h : Takes T L L0) : L0.Sublist L := by
 induction h with
 | nil => exact List.Sublist.refl _
 | cons h _ ih => exact ih.trans h.sub
theorem Takes.mem {T L L0 : OL} (h : Takes T L L0) : ∀ p ∈ T, p ∈ L := by
 induction h with
 | nil => intro p hp; cases hp
 | cons h _ ih =>
  intro p hp
  rcases List.mem_cons.1 hp with rfl | hp
  ·exact h.mem
  ·exact h.sub.subset (ih p hp)
def ids (L : OL) (j : Nat) : Prop := ∃ p ∈ L, p.1 = j
theorem Takes.ne {T L L0 : OL} (h : Takes T L L0) : L.Pairwise (fun p q => p.1 ≠ q.1) → ∀ p ∈ L0, ¬ ids T p.1 := by
 induction h with
 | nil => rintro _ p _ ⟨q, hq, _⟩; cases hq
 | @cons N o r L L1 L2 h k ih =>
  rintro hd p hp ⟨q, hq, e⟩
  rcases List.mem_cons.1 hq with rfl | hq
  ·exact h.ne hd p (k.sub.subset hp) e.symm
  ·exact ih (hd.sublist h.sub) p hp ⟨q, hq, e⟩
structure Turned (Li : OL) (S H : AH) (Lo : OL) : Prop where
 w0 : H.w0 = S.w0
 get : ∀ j, j < S.nx → ¬ ids Li j → H.tr.get j = S.tr.get j
 lt : ∀ j, j < S.nx → ¬ ids Li j → j < H.nx
 out : ∀ p ∈ Lo, H.tr.get p.1 = some p.2 ∧ p.1 < H.nx ∧ (ids Li p.1 ∨ S.nx ≤ p.1)
 dist : Lo.Pairwise (fun p q => p.1 ≠ q.1)
 sv : ∃ p, p ∈ Lo
def frs (A : Nat → Prop) (H H' : AH) (Lo : OL) : Nat → Prop := fun j => A j ∨ (H.nx ≤ j ∧ j < H'.nx ∧ ¬ ids Lo j)
def aNk (S : AH) : AH := { S with nx := 0 }
def mQ (S : AH) (Li : OL) : Nat → Prop := fun j => j < S.nx ∧ ¬ ids Li j
section
variable {P : Program} {E : Env P} {G : RG} {i n d : Nat} {r : List Oper} {rs : List ResultVar} {R : Value → AH → Prop} {Q : Fr → AH → Prop} {t : Tr Value} {l : List (Nat × Value)} {S H H0 H1 : AH} {A0 A A1 : Nat → Prop} {L L' Li Lo : OL} {v : Value}
 {ty : TypeId} {ps : String} {af : Array Edge} {gd : Option (Nat × Bool)}
theorem eQ {g : FuncId} {c : Code} {args : List Value} (hg : E.fn g = some ⟨n, rs, c⟩) (hin : ∀ p ∈ Li, S.tr.get p.1 = some p.2 ∧ p.1 < S.nx) (hd : Li.Pairwise (fun p q => p.1 ≠ q.1)) (hf : mB args n = fr n .nil l)
 (h : SX P c (aLo E rs R) (fr n .nil l) (aNk S) (mQ S Li) S (mQ S Li) Li) : XCall P g args S R :=
 XCall.body E hg (by
  rw [hf]
  exact h S ⟨⟨rfl, Nat.zero_le _, fun i hi => absurd hi (Nat.not_lt_zero _)⟩, fun _ _ => rfl, rfl, fun _ h => .inl h, fun _ h => h.1, fun p hp => ⟨(hin p hp).1, Nat.zero_le _, (hin p hp).2, fun h => h.2 ⟨p, hp, rfl⟩⟩, hd⟩)
theorem HS.turned (h : HS (aNk S) H1 A0 A1 Lo H) (g : Gr (mQ S Li) S A1 H1) (sv : ∃ p, p ∈ Lo) : Turned Li S H Lo := by
 have key : ∀ j, j < S.nx → ¬ ids Li j → H.tr.get j = S.tr.get j ∧ j < H.nx := fun j h1 h2 => by
  have ha := g.sub j ⟨h1, h2⟩
  exact ⟨(h.base j ha).trans (g.get j ⟨h1, h2⟩), h.lt j ha⟩
 refine ⟨h.kept.w0, fun j h1 h2 => (key j h1 h2).1, fun j h1 h2 => (key j h1 h2).2, fun p hp => ?_, h.dist, sv⟩
 obtain ⟨q1, _, q3, q4⟩ := h.own p hp
 refine ⟨q1, q3, ?_⟩
 by_cases e : ids Li p.1
 ·exact .inl e
 ·rcases Nat.lt_or_ge p.1 S.nx with hl | hl
  ·exact absurd (g.sub _ ⟨hl, e⟩) q4
  ·exact .inr hl
theorem HS.newT (h : HS (aNk S) H1 A0 A1 Lo H) (g : Gr (mQ S Li) S A1 H1) {N : Nat} {o : AObj} (hN : (N, o) ∈ Lo) (hn : ¬ ids Li N) : S.nx ≤ N := by
 rcases Nat.lt_or_ge N S.nx with hl | hl
 ·exact absurd (g.sub _ ⟨hl, hn⟩) (h.own _ hN).2.2.2
 ·exact hl
theorem HS.after {Sc Hc : AH} {L0 : OL} (hH : HS Sc H0 A0 A L H) (ht : Takes Li L L0) (k : Turned Li H H1 Lo) : HS Sc H1 A0 (frs A H H1 Lo) (Lo ++ L0) H1 ∧ Gr A H0 (frs A H H1 Lo) H1 := by
 have hown : ∀ j, ids Li j → Sc.nx ≤ j ∧ j < H.nx ∧ ¬ A j := by
  rintro j ⟨p, hp, rfl⟩
  obtain ⟨_, q2, q3, q4⟩ := hH.own p (ht.mem p hp)
  exact ⟨q2, q3, q4⟩
 have hnA : ∀ j, A j → ¬ ids Li j := fun j h e => (hown j e).2.2 h
 have hnx : Sc.nx ≤ H1.nx := by
  obtain ⟨p, hp⟩ := k.sv
  obtain ⟨_, q2, q3⟩ := k.out p hp
  rcases q3 with e | e
  ·have := (hown _ e).1; omega
  ·have := hH.kept.nx; omega
 have hne := ht.ne hH.dist
 refine ⟨⟨⟨k.w0.trans hH.kept.w0, hnx, fun j hj => ?_⟩, fun _ _ => rfl, rfl, fun j hj => ?_, fun j hj => ?_, fun p hp => ?_, List.pairwise_append.2 ⟨k.dist, hH.dist.sublist ht.sub, fun p hp q hq => ?_⟩⟩, ⟨fun j hj => .inl hj, fun j hj => ?_, k.w0.trans hH.w0.symm⟩⟩
 ·have h1 : ¬ ids Li j := fun e => by have := (hown j e).1; omega
  exact (k.get j (Nat.lt_of_lt_of_le hj hH.kept.nx) h1).trans (hH.kept.get j hj)
 ·rcases hj with hj | ⟨hj, _⟩
  ·exact hH.sub j hj
  ·exact .inr (Nat.le_trans hH.kept.nx hj)
 ·rcases hj with hj | ⟨_, hj, _⟩
  ·exact k.lt j (hH.lt j hj) (hnA j hj)
  ·exact hj
 ·rcases List.mem_append.1 hp with hp | hp
  ·obtain ⟨q1, q2, q3⟩ := k.out p hp
   refine ⟨q1, ?_, q2, ?_⟩
   ·rcases q3 with q3 | q3
    ·exact (hown _ q3).1
    ·exact Nat.le_trans hH.kept.nx q3
   ·rintro (h | ⟨_, _, h⟩)
    ·rcases q3 with q3 | q3
     ·exact hnA _ h q3
     ·have := hH.lt _ h; omega
    ·exact h ⟨p, hp, rfl⟩
  ·obtain ⟨q1, q2, q3, q4⟩ := hH.own p (ht.sub.subset hp)
   refine ⟨(k.get _ q3 (hne p hp)).trans q1, q2, k.lt _ q3 (hne p hp), ?_⟩
   rintro (h | ⟨h, _, _⟩)
   ·exact q4 h
   ·omega
 ·intro e
  rcases (k.out p hp).2.2 with h | h
  ·exact hne q hq (e ▸ h)
  ·have := (hH.own q (ht.sub.subset hq)).2.2.1; omega
 ·exact (k.get j (hH.lt j hj) (hnA j hj)).trans (hH.base j hj)
theorem HS.perm (h : HS S H0 A0 A L H) (hp : L'.Perm L) : HS S H0 A0 A L' H :=
 ⟨h.kept, h.base, h.w0, h.sub, h.lt, fun p q => h.own p (hp.subset q), (List.Perm.pairwise_iff (fun {a b} (q : a.1 ≠ b.1) => q.symm) hp).2 h.dist⟩
theorem HS.after0 {Sc Hc : AH} {L0 : OL} (hH : HS Sc H0 A0 A L H) (ht : Takes Li L L0) (k : Turned Li H H1 Lo) : HS Sc H0 A0 A (Lo ++ L0) H1 := by
 obtain ⟨hs, g⟩ := hH.after (Hc := H) ht k
 exact ⟨hs.kept, fun j hj => g.get j hj, g.w0.symm, fun j hj => hs.sub j (.inl hj), fun j hj => hs.lt j (.inl hj), fun p hp => by
  obtain ⟨q1, q2, q3, q4⟩ := hs.own p hp
  exact ⟨q1, q2, q3, fun h => q4 (.inl h)⟩, hs.dist⟩
theorem aPc {f : Fr} {ops : List Oper} (hp : L'.Perm L) (hD : G.D = true → G.Lw.Sublist L') (h : SO E G i ops Q f H0 A L') : SO E G i ops Q f H0 A L := fun hDs H hH => h (hDs.list hD) H (hH.perm hp)
theorem cK {c : Call} {g : FuncId} {vs : List Value} {L0 : OL} (T : Value → OL → Prop) (hw : gok G.ops l gd = true) (hdn : Nat.ble (d + 1) n = true) (hm : G.D = true → i ∈ G.ms) (hc : c.callee = .value (.func g)) (hg : ∃ fn, E.fn g = some fn) (ha : Opvs l c.args.toList vs) (ht : Takes Li L L0) (hDs : G.D = true → G.Lw.Sublist L0)
 (hk : ∀ H, HS G.S H0 G.A0 A L H → XCall P g vs H fun u H' => ∃ Lo, Turned Li H H' Lo ∧ T u Lo)
 (h : ∀ u Lo, T u Lo → SO E G (i + 1) r Q (fr n t ((d, u) :: l)) H0 A (Lo ++ L0)) : SO E G i (⟨some d, .call c, ty, ps, af, gd⟩ :: r) Q (fr n t l) H0 A L :=
 mP hw rfl hdn hm fun hD H hH => by
  obtain ⟨fn, hg⟩ := hg
  obtain ⟨u, H', ⟨Lo, hT, hu⟩, hw0, hcall⟩ := hk H hH
  refine ⟨u, H', H0, A, Lo ++ L0, .inr ⟨hw0, g, vs, ?_, hcall⟩, hH.after0 (Hc := H) ht hT, hD.list fun hD => (hDs hD).trans (List.sublist_append_right _ _), h u Lo hu⟩
  simp only [dE, hc, oC, hg, ha.ok, List.append_nil, List.nil_append]
theorem HS.have (hH : HS S H0 A0 A L H) (hs : ∀ p ∈ Li, p ∈ L) : ∀ p ∈ Li, H.tr.get p.1 = some p.2 ∧ p.1 < H.nx := fun p hp => ⟨(hH.own p (hs p hp)).1, (hH.own p (hs p hp)).2.2.1⟩
theorem HS.ne {N M : Nat} {o o' : AObj} (hH : HS S H0 A0 A L H) (h : L.Pairwise (fun p q => p.1 ≠ q.1) → N ≠ M) : N ≠ M := h hH.dist
end
end Go.AM
namespace Go.AM
open Go.RowKit
variable [σ : Sg]
section
variable {P : Program} {E : Env P} {t : TypeId} {k k' : IntKind} {a b c : Int}
theorem kN {s u v : ByteArray} (hl : s.data.toList.length + u.data.toList.length ≤ 9223372036854775807) (h : v = ⟨⟨s.data.toList ++ u.data.toList⟩⟩) : cT E .add t (.string s) (.string u) = some (.string v) := by
 subst h
 have e1 : s.size = s.data.toList.length := by rw [Array.length_toList]; rfl
 have e2 : u.size = u.data.toList.length := by rw [Array.length_toList]; rfl
 simp only [cT, qX, e1, e2, hl, if_true]
end
section
variable {P : Program} {E : Env P} {G : RG} {i n d : Nat} {r : List Oper} {Q : Fr → AH → Prop} {t : Tr Value} {l : List (Nat × Value)} {H0 : AH} {A : Nat → Prop} {L L' : OL} {v : Value}
 {ty : TypeId} {ps : String} {af : Array Edge} {gd : Option (Nat × Bool)} {x y : Operand}
theorem so_un {op : UnOp} {ta : TypeId} {a : Value} (hw : gok G.ops l gd = true) (hdn : Nat.ble (d + 1) n = true) (hx : opv l x = some a) (hb : aun op a = some v) (h : SO E G (i + 1) r Q (fr n t ((d, v) :: l)) H0 A L) :
 SO E G i (⟨some d, .unOp op ta x, ty, ps, af, gd⟩ :: r) Q (fr n t l) H0 A L :=
 dG hw rfl hdn rfl (fun H => by simp only [aop, bF hx, aJz, hb, cH]) h
theorem kV {kk : IntKind} {b off m j s o' : Nat} {e : TypeId} {ii : TI} {ta : TypeId} (hw : gok G.ops l gd = true) (hdn : Nat.ble (d + 1) n = true) (hx : opv l x = some (.pointer (some ⟨b, off, none⟩))) (hy : opv l y = some (.int kk ((j : Nat) : Int))) (hu : E.und ta = some (.array m e)) (hi : E.inf e = some ii) (hs : ii.size = s)
 (hj : j < m) (ho : off + j * s = o') (h : SO E G (i + 1) r Q (fr n t ((d, .pointer (some ⟨b, o', none⟩)) :: l)) H0 A L) : SO E G i (⟨some d, .indexAddr ta x y, ty, ps, af, gd⟩ :: r) Q (fr n t l) H0 A L :=
 dG hw rfl hdn rfl (fun H => by
  have : oE (.int kk ((j : Nat) : Int)) m = some j := by simp only [oE]; rw [if_pos ⟨by omega, by omega⟩]; simp
  simp only [aop, bF hx, bF hy, iS, hu, hi, this, cH, hs, uO, ho]) h
end
def aN (b : UInt8) : Value := .int .u8 (b.toNat : Int)
theorem aHg (l : List UInt8) : lO (l.map aN) = some l := by
 induction l with
 | nil => rfl
 | cons b l ih => simp [lO, aN, ih]
theorem qP (l : List UInt8) : cO (l.map aN) = true := by
 induction l with
 | nil => rfl
 | cons b l ih => simp [cO, aN, ih, Value.oneCell']
theorem aEw : ∀ n : Int, 0 ≤ n → n < 2 ^ 64 → IntKind.u64.wrap n = n := fun n h0 h1 => by
 have e : IntKind.u64.wrap n = n % 18446744073709551616 := rfl
 rw [e]; omega
end Go.AM
namespace Go.AM
open Go.RowKit
variable [σ : Sg]
section
variable {P : Program} {E : Env P} {G : RG} {i n d : Nat} {r : List Oper} {Q : Fr → AH → Prop} {t : Tr Value} {l : List (Nat × Value)} {H0 : AH} {A : Nat → Prop} {L L' : OL} {v : Value}
 {ty : TypeId} {ps : String} {af : Array Edge} {gd : Option (Nat × Bool)} {x y : Operand}
theorem aKz {ii : TI} {zv : Value} (hz : ii.zero = some zv) : (Nat.beq 1 0 || ii.zero.isNone) = false := by rw [hz]; rfl
theorem aEy {a b : Nat} (h : b ≠ 0) : Nat.ble (a + b) a = false := by
 cases hq : Nat.ble (a + b) a with
 | false => rfl
 | true => have := Nat.le_of_ble_eq_true hq; omega
theorem aEm {c : Call} {sT xT : TypeId} {ii : TI} {zv : Value} {k : Nat} {s : ByteArray} (hw : gok G.ops l gd = true) (hdn : Nat.ble (d + 1) n = true) (hm : G.D = true → i ∈ G.ms) (hc : c.callee = .builtin .append) (ha : c.args.toList = [x, y]) (ht : c.argTypes.toList = [sT, xT])
 (hx : opv l x = some (.slice none 0 0)) (hy : opv l y = some (.string s)) (hu : E.und sT = some (.slice 5)) (hux : E.und xT = some .string) (hi : E.inf 5 = some ii) (hz : ii.zero = some zv) (hs : ii.size = 1) (hbt : ii.bytes = 1) (h0 : s.data.toList ≠ [])
 (hbig : s.data.toList.length ≤ 140737488355328) (hk : s.data.toList.length = k)
 (h : ∀ M, SO E G (i + 1) r Q (fr n t ((d, .slice (some ⟨2 * M + 1, 0, none⟩) k k) :: l)) H0 A ((M, .cells (s.data.toList.map aN) (fK + 5) false) :: L)) : SO E G i (⟨some d, .call c, ty, ps, af, gd⟩ :: r) Q (fr n t l) H0 A L := by
 subst hk
 refine oB (f := fun N => .slice (some ⟨2 * N + 1, 0, none⟩) s.data.toList.length s.data.toList.length) hw rfl hdn hm (fun H hH => ?_) h
 have hm0 : s.data.toList.length ≠ 0 := fun e => h0 (List.eq_nil_of_length_eq_zero e)
 have e1 := aKz hz
 have e2 : Nat.beq s.data.toList.length 0 = false := by cases hq : s.data.toList.length with | zero => exact absurd hq hm0 | succ k => rfl
 have e5 : eM 1 s.data.toList.length (.string s) H = some (s.data.toList.map aN) := (yG rfl rfl H).2.2
 have e4 : (jC s.data.toList.length 1 && (Nat.ble s.data.toList.length 140737488355328 && (Nat.beq ([] : List Value).length (0 * 1) && Nat.beq (s.data.toList.map aN).length (s.data.toList.length * 1)))) = true := by
  simp only [Bool.and_eq_true]
  exact ⟨jU (by omega), Nat.ble_eq_true_of_le (by omega), by simp, by simp⟩
 simp only [aop, hc, ha, ht, iJ, bF hx, bF hy, hu, hux, gX, cond_false, hi, jB, hs, e1, hbt, e5, e2, show (Nat.beq 0 0 && Nat.beq 0 0) = true from rfl, cond_true, fF, show eM 1 0 (.slice none 0 0) H = some [] from rfl, show pH 5 (.string s) 1 = fK + 5 from rfl, e4, eD, Nat.zero_add, List.nil_append]
end
section
variable {P : Program} {E : Env P} {G : RG} {i n d : Nat} {r : List Oper} {Q : Fr → AH → Prop} {t : Tr Value} {l : List (Nat × Value)} {H0 : AH} {A : Nat → Prop} {L L' : OL} {v : Value}
 {ty : TypeId} {ps : String} {af : Array Edge} {gd : Option (Nat × Bool)} {x y : Operand}
end
theorem Takes.app {T L0 : OL} : Takes T (T ++ L0) L0 := by
 induction T with
 | nil => exact .nil
 | cons p r ih => obtain ⟨N, o⟩ := p; exact .cons .zero ih
theorem Takes.skip {T L L0 : OL} (h : Takes T L L0) (x : Nat × AObj) : Takes T (x :: L) (x :: L0) := by
 induction h with
 | nil => exact .nil
 | cons h _ ih => exact .cons (.succ h) ih
theorem Takes.self {T : OL} : Takes T T [] := by
 have := Takes.app (T := T) (L0 := [])
 rwa [List.append_nil] at this
end Go.AM
namespace Go.AM
open Go.RowKit
variable [σ : Sg]
section
variable {P : Program} {E : Env P} {G : RG} {i n d : Nat} {r : List Oper} {Q : Fr → AH → Prop} {t : Tr Value} {l : List (Nat × Value)} {H0 : AH} {A : Nat → Prop} {L : OL} {x y : Operand}
 {ty : TypeId} {ps : String} {af : Array Edge} {gd : Option (Nat × Bool)}
end
end Go.AM
namespace Go.AM
open Go.RowKit
variable [σ : Sg]
def grow (M sz : Nat) (cs : List Value) : Nat → OL
 | 0 => []
 | _ + 1 => [(M, .cells cs sz false)]
def gsl (M : Nat) : Nat → Value
 | 0 => .slice none 0 0
 | k + 1 => .slice (some ⟨2 * M + 1, 0, none⟩) (k + 1) (k + 1)
theorem aPr (M k : Nat) : ∃ a, gsl M k = .slice a k k := by cases k <;> exact ⟨_, rfl⟩
theorem Takes.nil' {L L' : OL} (h : Takes [] L L') : L' = L := by cases h; rfl
theorem Takes.one {N : Nat} {o : AObj} {L L' : OL} (h : Takes [(N, o)] L L') : Rem N o L L' := by
 cases h with
 | cons h k => rw [← k.nil'] at h; exact h
section
variable {P : Program} {E : Env P} {G : RG} {i n d : Nat} {r : List Oper} {Q : Fr → AH → Prop} {t : Tr Value} {l : List (Nat × Value)} {S H0 H H1 : AH} {A0 A A1 : Nat → Prop} {L L' Li Lo : OL} {v u : Value}
 {ty : TypeId} {ps : String} {af : Array Edge} {gd : Option (Nat × Bool)} {x y z : Operand}
theorem aPm {c : Call} {e sT xT : TypeId} {dx : TypeDesc} {ii : TI} {zv : Value} {M k sz bt : Nat} {w : Value} {cells new cs' : List Value} (hw : gok G.ops l gd = true) (hdn : Nat.ble (d + 1) n = true) (hm : G.D = true → i ∈ G.ms) (hc : c.callee = .builtin .append) (ha : c.args.toList = [x, y]) (ht : c.argTypes.toList = [sT, xT])
 (hx : opv l x = some (gsl M k)) (hy : opv l y = some w) (hu : E.und sT = some (.slice e)) (hux : E.und xT = some dx) (hdx : gX dx = false) (hi : E.inf e = some ii) (hz : ii.zero = some zv) (hs : ii.size = sz) (hs0 : sz ≠ 0) (hbt : ii.bytes = bt) (hf : kH G.S H0 G.A0 A L sz 1 w new)
 (hr : Takes (grow M sz cells k) L L') (hol : cells.length = k * sz) (h1 : cO new = true) (hbig : (k + 1) * bt ≤ 140737488351232) (hbig2 : k + 1 ≤ 140737488351232) (hcs : cells ++ new = cs') (hD' : G.D = true → G.Lw.Sublist L')
 (h : ∀ M, SO E G (i + 1) r Q (fr n t ((d, gsl M (k + 1)) :: l)) H0 A (grow M sz cs' (k + 1) ++ L')) : SO E G i (⟨some d, .call c, ty, ps, af, gd⟩ :: r) Q (fr n t l) H0 A L := by
 cases k with
 | zero =>
  obtain rfl := hr.nil'
  obtain rfl : cells = [] := List.eq_nil_of_length_eq_zero (by rw [hol]; simp)
  exact sY (m := 1) (base := none) (sl := 0) (old := []) hw hdn hm hc ha ht hx hy hu hux hdx hi hz hs hs0 hbt (by decide) hf (.inl ⟨rfl, rfl, rfl⟩) (jU (by omega)) (by omega) hcs rfl h
 | succ k =>
  exact aHh (m := 1) hw hdn hm hc ha ht hx hy hu hux hdx hi hz hs hs0 hbt (by decide) hf hr.one hol h1 (jU (by omega)) (by omega) hcs hD' rfl h
theorem Takes.end' {T : OL} : ∀ {L1 : OL}, Takes T (L1 ++ T) L1
 | [] => Takes.self
 | x :: L1 => (Takes.end' (L1 := L1)).skip x
theorem aGk {L1 : OL} {c : Call} {e sT xT : TypeId} {dx : TypeDesc} {ii : TI} {zv : Value} {M k sz bt : Nat} {w : Value} {cells new cs' : List Value} (hw : gok G.ops l gd = true) (hdn : Nat.ble (d + 1) n = true) (hm : G.D = true → i ∈ G.ms) (hc : c.callee = .builtin .append) (ha : c.args.toList = [x, y]) (ht : c.argTypes.toList = [sT, xT])
 (hx : opv l x = some (gsl M k)) (hy : opv l y = some w) (hu : E.und sT = some (.slice e)) (hux : E.und xT = some dx) (hdx : gX dx = false) (hi : E.inf e = some ii) (hz : ii.zero = some zv) (hs : ii.size = sz) (hs0 : sz ≠ 0) (hbt : ii.bytes = bt) (hf : kH G.S H0 G.A0 A (L1 ++ grow M sz cells k) sz 1 w new)
 (hol : cells.length = k * sz) (h1 : cO new = true) (hbig : (k + 1) * bt ≤ 140737488351232) (hbig2 : k + 1 ≤ 140737488351232) (hcs : cells ++ new = cs') (hD' : G.D = true → G.Lw.Sublist L1)
 (h : ∀ M, SO E G (i + 1) r Q (fr n t ((d, gsl M (k + 1)) :: l)) H0 A (L1 ++ grow M sz cs' (k + 1))) : SO E G i (⟨some d, .call c, ty, ps, af, gd⟩ :: r) Q (fr n t l) H0 A (L1 ++ grow M sz cells k) :=
 aPm hw hdn hm hc ha ht hx hy hu hux hdx hi hz hs hs0 hbt hf Takes.end' hol h1 hbig hbig2 hcs hD' fun M2 => aPc List.perm_append_comm (fun hD => (hD' hD).trans (List.sublist_append_left _ _)) (h M2)
def nw (S : AH) (A : Nat → Prop) : Nat → Prop := fun j => A j ∧ S.nx ≤ j
theorem Gr.nw (g : Gr A H0 A1 H1) : Gr (nw S A) H0 (nw S A1) H1 := ⟨fun j h => ⟨g.sub j h.1, h.2⟩, fun j h => g.get j h.1, g.w0⟩
def OkC (ks : List Kd) (c : List CT) : Prop := c.length = ks.length ∧ ∀ (A : Nat → Prop) (H : AH), CellsA A H ks (c.map CT.val) c
theorem CellA.any {A' : Nat → Prop} {H' : AH} {k : Kd} {w : Value} {c : CT} (h : CellA A H k w c) (hk : k.isFlat = true) : CellA A' H' k c.val c := by
 cases k with
 | int k => obtain ⟨n, rfl, rfl, hw⟩ := h.int; simp only [CellA, CT.val]; exact ⟨trivial, n, rfl, hw⟩
 | bool => obtain ⟨n, rfl, rfl⟩ := h.bool; simp only [CellA, CT.val]; exact ⟨trivial, n, rfl⟩
 | str => obtain ⟨n, rfl, rfl, hw⟩ := h.str; simp only [CellA, CT.val]; exact ⟨trivial, n, rfl, hw⟩
 | row b ks => simp [Kd.isFlat] at hk
theorem CellsA.any {A' : Nat → Prop} {H' : AH} : ∀ {ks : List Kd} {xs : List Value} {cs : List CT}, CellsA A H ks xs cs → ks.all Kd.isFlat = true → CellsA A' H' ks (cs.map CT.val) cs
 | [], [], [], _, _ => by simp only [List.map, CellsA]
 | k :: ks, w :: xs, c :: cs, h, hk => by
  simp only [CellsA] at h
  simp only [List.all_cons, Bool.and_eq_true] at hk
  simp only [List.map, CellsA]
  exact ⟨h.1.any hk.1, CellsA.any h.2 hk.2⟩
 | [], [], _ :: _, h, _ => by simp only [CellsA] at h
 | [], _ :: _, _, h, _ => by simp only [CellsA] at h
 | _ :: _, [], _, h, _ => by simp only [CellsA] at h
 | _ :: _, _ :: _, [], h, _ => by simp only [CellsA] at h
theorem OkC.one {ks : List Kd} {c : List CT} (h : OkC ks c) (S : AH) : cO (c.map CT.val) = true := (h.2 (fun _ => False) S).one
end
end Go.AM
