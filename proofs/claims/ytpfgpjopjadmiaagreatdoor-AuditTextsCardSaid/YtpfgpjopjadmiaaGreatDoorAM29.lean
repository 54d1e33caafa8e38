/-
  The abstract machine, part 29: runs in which new blocks may be made ahead of what stands before them in the text.
-/
import Derived.Test.YtpfgpjopjadmiaaGreatDoorAM22
set_option linter.unusedVariables false
set_option linter.unusedSimpArgs false
noncomputable section
namespace Go.AM
open Go.RowKit

theorem flat_VR {φ ψ : List Place} {v v' : Value} (h : VR φ v v') (hf : flat v = true) : VR ψ v v' := by
  refine flatT_VR h ?_
  cases v with
  | tuple cs => simp [flat, flat1] at hf
  | _ => exact hf

section
variable {P : Program} (E : Env P)

theorem build_new {t : TypeId} {len : Nat} {ps : Array (Nat × Operand)} {o : Oper} (hop : o.op = .buildSlice t len ps) {ρ : Operand → Value} {H H' : AH} {v : Value} (h : abuildSlice E t len (ps.toList.map fun x => (x.1, ρ x.2)) H = some (v, H')) :
    ∃ ob, v = mkV (some len) (2 * H.nx + 1) ∧ H' = anew H ob ∧ MakesNew P o ρ (some len) ob := by
  unfold abuildSlice at h
  split at h
  · rename_i e hu
    split at h
    · rename_i i hi
      cases hb : (Nat.ble (len * i.size) 16777216 && !(Nat.beq i.size 0)) with
      | false => rw [hb] at h; cases h
      | true =>
        rw [hb, cond_true] at h
        simp only [Bool.and_eq_true] at hb
        have hle := Nat.le_of_ble_eq_true hb.1
        split at h
        · rename_i z hz
          split at h
          · rename_i out hf
            cases hlen : Nat.beq out.length (len * i.size) with
            | false => rw [hlen] at h; cases h
            | true =>
              rw [hlen, cond_true] at h
              cases h
              have hlen' := Nat.eq_of_beq_eq_true hlen
              refine ⟨_, rfl, rfl, fun ρ' w φ hρ => ?_⟩
              have hv : ∀ x ∈ ps.toList, ∀ ψ, φ <+: ψ → VR ψ (ρ x.2) (ρ' x.2) := fun x hx ψ hψ =>
                (hρ x.2 (by rw [hop]; show x.2 ∈ (ps.toList.map (·.2)).toArray; exact List.mem_toArray.2 (List.mem_map.2 ⟨x, hx, rfl⟩))).mono hψ
              have hpp : ∀ (ψ : List Place), φ <+: ψ → ∀ (i n : Nat) (v : Value) (n' : Nat) (v' : Value), (ps.toList.map fun x => (x.1, ρ x.2))[i]? = some (n, v) → (ps.toList.map fun x => (x.1, ρ' x.2))[i]? = some (n', v') → n = n' ∧ VR ψ v v' := by
                intro ψ hψ i n v n' v' h1 h2
                rw [List.getElem?_map] at h1 h2
                cases hl : ps.toList[i]? with
                | none => rw [hl] at h1; simp at h1
                | some x =>
                  rw [hl] at h1 h2
                  simp at h1 h2
                  obtain ⟨rfl, rfl⟩ := h1
                  obtain ⟨rfl, rfl⟩ := h2
                  exact ⟨rfl, hv x (List.mem_of_getElem? hl) ψ hψ⟩
              obtain ⟨out', h1, h2⟩ := fillL_ok _ _ _ _ _ out (VRs.ext φ (zcells (if len * i.size = 0 then #[] else z.cells) (len * i.size))) (by simp) (hpp φ (List.prefix_refl _)) hf
              have hall : ∀ ψ, φ <+: ψ → VRs ψ out out' := fun ψ hψ => by
                obtain ⟨out2, q1, q2⟩ := fillL_ok _ _ _ _ _ out (VRs.ext ψ (zcells (if len * i.size = 0 then #[] else z.cells) (len * i.size))) (by simp) (hpp ψ hψ) hf
                rw [h1] at q1
                cases q1
                exact q2
              refine ⟨.cells out'.toArray e, out'.length, i.size, ?_, fun n hn => ?_, fun ψ hψ => ?_⟩
              · have hps : (ps.map fun (x : Nat × Operand) => (x.1, ρ' x.2)) = ⟨ps.toList.map fun x => (x.1, ρ' x.2)⟩ := by rw [← Array.toList_inj]; simp
                have hne : ¬ (16777216 < len * i.size) := by omega
                simp only [zcells, Array.toArray_toList] at h1
                have run : (Instr.buildSlice t len ⟨ps.toList.map fun x => (x.1, ρ' x.2)⟩).run P w = .ok (.slice (some ⟨w.heap.size, 0, none⟩) len len) (w.alloc (.cells out'.toArray e)) := by
                  by_cases hz0 : len * i.size = 0
                  · rw [if_pos hz0] at h1
                    simp [Instr.buildSlice, run_und E hu, run_sizeOf' E hi, hz0, newRow] at h1 ⊢
                    simp [h1]
                  · rw [if_neg hz0] at h1
                    simp [Instr.buildSlice, run_und E hu, run_sizeOf' E hi, hne, hz0, run_zeroValue' E hi hz, h1, newRow]
                simp only [execOp, hop, hps, Sem.run_bind, run, Result.andThen_ok, Sem.run_pure, mkV]
              · cases hn; rw [← (h2.1), hlen', esz_small (E.sz_lt _ _ hi)]; exact Nat.le_refl _
              · have hc := hall ψ hψ
                refine ⟨out'.toArray, e, 0, 0, rfl, fun k _ => by omega, by simp, ⟨rfl, SzE.small (E.sz_lt _ _ hi), fun _ => rfl⟩, by simp [hc.1], fun _ => by simp [hc.1], ?_⟩
                rw [hc.1]
                simpa using hc
          · cases h
        · cases h
    · cases h
  · cases h

/-- the mains that are not behind all mains before them -/
def floatsOf (bs ms : List Nat) : List Nat := ms.filter fun j => ms.any fun i => Nat.blt i j && !((bs.getD j 0).testBit i)
def makesFl (f : Fr) (o : Oper) : Bool :=
  match o.op with
  | .alloc _ => o.dst.isSome
  | .buildSlice _ _ _ => o.dst.isSome
  | _ => false
def flFine (ops : Array Oper) (L : List Step) (fl : List Nat) : Bool := fl.all fun i => match ops[i]?, L[i]? with
  | some o, some s => makesFl s.1 o
  | _, _ => false
def flOrd (n : Nat) (bs ms fl : List Nat) : Bool :=
  ((List.range n).all fun k => fl.contains k || fl.all fun i => !((bs.getD k 0).testBit i) || ms.all fun j => Nat.ble i j || (bs.getD k 0).testBit j) &&
  (fl.all fun i => fl.all fun j => !((bs.getD i 0).testBit j))
def drawFl (ops : Array Oper) (L : List Step) (bs ms fl : List Nat) : Bool := pairsF bs fl ms && (flFine ops L fl && flOrd ops.size bs ms fl)

def arunDrawF (call : Callf) (ops : Array Oper) (f : Fr) (H : AH) : Option (Fr × AH) :=
  bif orderOk ops (bef ops) then
    (match arunTr E call ops ops.toList f H with
    | some (l, g, H') =>
      (match mainsOf 0 l with
      | [] => some (g, H')
      | m :: r => bif (pairsOk (bef ops) (m :: r) || drawFl ops l (bef ops) (m :: r) (floatsOf (bef ops) (m :: r))) && quietOk E ops (bef ops) (m :: r) ((0, H) :: heapsOf l H' (m :: r)) 0 l then some (g, H') else none)
    | none => none)
  else none

theorem pairsF_nil (bs : List Nat) : ∀ ms : List Nat, pairsF bs [] ms = pairsOk bs ms
  | [] => rfl
  | i :: r => by simp [pairsF, pairsOk, pairsF_nil bs r]

theorem floats_some {ops : Array Oper} {L : List Step} {ms : List Nat} (h : (pairsOk (bef ops) ms || drawFl ops L (bef ops) ms (floatsOf (bef ops) ms)) = true) : ∃ fl, (∀ i ∈ fl, i ∈ ms) ∧ pairsF (bef ops) fl ms = true ∧ flFine ops L fl = true ∧ flOrd ops.size (bef ops) ms fl = true := by
  rcases Bool.or_eq_true_iff.1 h with h | h
  · exact ⟨[], (fun i hi => by cases hi), by rw [pairsF_nil]; exact h, rfl, by simp [flOrd]⟩
  · simp only [drawFl, Bool.and_eq_true] at h
    exact ⟨_, fun i hi => (List.mem_filter.1 hi).1, h.1, h.2.1, h.2.2⟩

theorem flOrd_spec {n : Nat} {bs ms fl : List Nat} (h : flOrd n bs ms fl = true) :
    (∀ k i j, k < n → k ∉ fl → i ∈ fl → j ∈ ms → j < i → (bs.getD k 0).testBit i = true → (bs.getD k 0).testBit j = true) ∧ (∀ i j, i ∈ fl → j ∈ fl → (bs.getD i 0).testBit j = false) := by
  simp only [flOrd, Bool.and_eq_true, List.all_eq_true] at h
  obtain ⟨h2, h3⟩ := h
  refine ⟨fun k i j hk hnk hi hj hji hb => ?_, fun i j hi hj => ?_⟩
  · have := h2 k (List.mem_range.2 hk)
    simp only [Bool.or_eq_true, List.all_eq_true] at this
    rcases this with q | q
    · exact absurd (by simpa using q) hnk
    · rcases q i hi with q | q
      · rw [hb] at q; cases q
      · rcases q j hj with q | q
        · have := Nat.le_of_ble_eq_true q; omega
        · exact q
  · have := h3 i hi j hj
    simpa using this
theorem arunDrawF_ok {call : Callf} (hcall : CallOk P call) (hm : P.follows .mixedOrders = true) {ops : Array Oper} {Q : AQ} {f g : Fr} {H K : AH} (hQ : Q .normal g K) (h : arunDrawF E call ops f H = some (g, K)) (id : Nat) : ACode P (.region id ops true) Q f H := by
  unfold arunDrawF at h
  cases hord : orderOk ops (bef ops) with
  | false => rw [hord] at h; cases h
  | true =>
    rw [hord, cond_true] at h
    split at h
    · rename_i L g' K' hrun
      obtain ⟨hlen, hst⟩ := arunTr_ok E _ _ _ _ _ _ hrun
      have hgK : g' = g ∧ K' = K := by
        split at h
        · cases h; exact ⟨rfl, rfl⟩
        · rcases cond_some h with h | h
          · cases h; exact ⟨rfl, rfl⟩
          · cases h
      obtain ⟨rfl, rfl⟩ := hgK
      have hlen' : L.length = ops.size := by rw [hlen, Array.length_toList]
      let A := L ++ [(g', K', undef, false)]
      let d : Step := (g', K', undef, false)
      let F := fun i => (A.getD i d).1
      let HH := fun i => (A.getD i d).2.1
      let V := fun i => (A.getD i d).2.2.1
      let M := fun i => (A.getD i d).2.2.2
      have hA : ∀ i, i < ops.size → ∃ s, L[i]? = some s ∧ A.getD i d = s := by
        intro i hi
        refine ⟨L[i]'(by omega), by simp [hlen', hi], ?_⟩
        simp only [A, List.getD_eq_getElem?_getD]
        rw [List.getElem?_append_left (by omega)]
        simp [hlen', hi]
      have hAn : A.getD ops.size d = d := by
        simp only [A, List.getD_eq_getElem?_getD]
        rw [List.getElem?_append_right (by omega)]
        simp [hlen', d]
      have hstep : ∀ i o, ops[i]? = some o → stepOp E call ops o (F i) (HH i) = some (V i, HH (i + 1), M i) ∧ (F i).put o.dst (V i) = some (F (i + 1)) := by
        intro i o ho
        obtain ⟨s, h1, h2⟩ := hA i (alt_of_getElem? ho)
        obtain ⟨s', q1, q2, q3⟩ := hst i o s (by simpa using ho) h1
        have e : A.getD (i + 1) d = s' := by simp only [A, List.getD_eq_getElem?_getD, q1, Option.getD_some]
        simp only [F, HH, V, M, h2, e]
        exact ⟨q2, q3⟩
      have hmm : ∀ i, i < ops.size → (M i = true ↔ i ∈ mainsOf 0 L) := by
        intro i hi
        obtain ⟨s, h1, h2⟩ := hA i hi
        rw [mem_mainsOf]
        simp only [M, h2]
        constructor
        · intro hM; exact ⟨i, s, h1, hM, by omega⟩
        · rintro ⟨j, s', h3, h4, h5⟩
          obtain rfl : j = i := by omega
          rw [h1] at h3; cases h3; exact h4
      have hF0 : F 0 = f ∧ HH 0 = H := by
        by_cases hz : ops.size = 0
        · have hnil : ops.toList = [] := List.eq_nil_of_length_eq_zero (by rw [Array.length_toList]; exact hz)
          rw [hnil] at hrun
          simp [arunTr] at hrun
          obtain ⟨rfl, rfl, rfl⟩ := hrun
          exact ⟨rfl, rfl⟩
        · cases hops : ops.toList with
          | nil => have : ops.toList.length = 0 := by rw [hops]; rfl
                   rw [Array.length_toList] at this; omega
          | cons o r =>
            rw [hops] at hrun
            simp only [arunTr] at hrun
            split at hrun
            · split at hrun
              · split at hrun
                · cases hrun; exact ⟨rfl, rfl⟩
                · cases hrun
              · cases hrun
            · cases hrun
      have still : ∀ i, i < ops.size → M i = false → HH (i + 1) = HH i := by
        intro i hi hM
        have ho : ops[i]? = some ops[i] := Array.getElem?_eq_getElem hi
        rcases stepOp_cases E (hstep i _ ho).1 with ⟨_, _, _, h4⟩ | ⟨_, _, h4, _⟩ | ⟨_, h4, _⟩ | ⟨_, h4, _⟩
        · exact h4
        · exact h4
        · rw [hM] at h4; cases h4
        · rw [hM] at h4; cases h4
      have w0s : ∀ i, i < ops.size → (HH (i + 1)).w0 = (HH i).w0 := by
        intro i hi
        have ho : ops[i]? = some ops[i] := Array.getElem?_eq_getElem hi
        rcases stepOp_cases E (hstep i _ ho).1 with ⟨_, _, _, h4⟩ | ⟨_, _, h4, _⟩ | ⟨_, _, h4⟩ | ⟨_, _, c, args, _, h4⟩
        · rw [h4]
        · rw [h4]
        · exact aop_w0 E h4
        · exact (hcall _ _ _ _ _ h4).1
      have hfl : ∃ fl, (∀ i ∈ fl, i ∈ mainsOf 0 L) ∧ pairsF (bef ops) fl (mainsOf 0 L) = true ∧ flFine ops L fl = true ∧ flOrd ops.size (bef ops) (mainsOf 0 L) fl = true := by
        split at h
        · rename_i hnil
          rw [hnil]
          exact ⟨[], (fun i hi => by cases hi), rfl, rfl, by simp [flOrd]⟩
        · rename_i m r hms
          cases hck : ((pairsOk (bef ops) (m :: r) || drawFl ops L (bef ops) (m :: r) (floatsOf (bef ops) (m :: r))) && quietOk E ops (bef ops) (m :: r) ((0, H) :: heapsOf L K' (m :: r)) 0 L) with
          | false => rw [hck] at h; cases h
          | true =>
            simp only [Bool.and_eq_true] at hck
            rw [hms]
            exact floats_some hck.1
      obtain ⟨fl, hsub, hpairs, hfine, hford⟩ := hfl
      have hford' := flOrd_spec hford
      have T : TraceF E ops F HH V M (fun i => fl.contains i) := by
        refine ⟨⟨hord, fun i o ho => (hstep i o ho).2⟩, fun i o ho hFi => ?_, fun i o ho hFi => ?_, still, fun i j hij hj hMi hMj => ?_, fun k i j hk hi hj hFk hFi hMj hb => ?_, fun i j hi hj hFi hFj => ?_⟩
        · have hi := alt_of_getElem? ho
          rcases stepOp_cases E (hstep i o ho).1 with ⟨h1, h2, h3, h4⟩ | ⟨h1, h2, h3, h4, h5⟩ | ⟨h1, h2, h3⟩ | ⟨h1, h2, c, args, h3, h4⟩
          · exact .inl ⟨h1, h2, h3⟩
          · refine .inr (.inl ⟨h1, h2, h4, fun t ht hb ha => ?_⟩)
            cases hp : isPure E o.op with
            | true => exact pure_any E hp h5 (HH t)
            | false =>
              split at h
              · -- no mains at all
                rename_i hnil
                have hno : ∀ j, j < ops.size → M j = false := by
                  intro j hj
                  cases hMj : M j with
                  | false => rfl
                  | true => have := (hmm j hj).1 hMj; rw [hnil] at this; cases this
                have hconst : ∀ k, k ≤ ops.size → HH k = HH 0 := by
                  intro k
                  induction k with
                  | zero => intro _; rfl
                  | succ k ihk => intro hk; rw [still k (by omega) (hno k (by omega))]; exact ihk (by omega)
                rw [hconst t ht, ← hconst i (by omega)]; exact h5
              · rename_i m r hms
                cases hck : ((pairsOk (bef ops) (m :: r) || drawFl ops L (bef ops) (m :: r) (floatsOf (bef ops) (m :: r))) && quietOk E ops (bef ops) (m :: r) ((0, H) :: heapsOf L K' (m :: r)) 0 L) with
                | false => rw [hck] at h; cases h
                | true =>
                  simp only [Bool.and_eq_true] at hck
                  obtain ⟨s, hs1, hs2⟩ := hA i hi
                  have hF : F i = s.1 := by simp only [F, hs2]
                  have hV : V i = s.2.2.1 := by simp only [V, hs2]
                  have hM : M i = s.2.2.2 := by simp only [M, hs2]
                  have hq := quietOk_at E L 0 hck.2 i s o hs1 (by rw [Nat.zero_add]; exact ho) (by rw [← hM]; exact h2) hp (by rw [← hF]; exact h1)
                  rw [Nat.zero_add] at hq
                  -- the heap at t is one of those that were tried
                  have hrep : ∃ t', t' ≤ t ∧ HH t' = HH t ∧ (t', HH t') ∈ ((0, H) :: heapsOf L K' (m :: r)) ∧ (∀ j, j < ops.size → M j = true → j < t → j < t') := by
                    clear hb ha
                    induction t with
                    | zero => exact ⟨0, Nat.le_refl _, rfl, by rw [hF0.2]; exact List.mem_cons_self .., fun j _ _ h => h⟩
                    | succ t iht =>
                      cases hMt : M t with
                      | true =>
                        refine ⟨t + 1, Nat.le_refl _, rfl, List.mem_cons_of_mem _ ?_, fun j _ _ h => h⟩
                        have hin := (hmm t (by omega)).1 hMt
                        rw [hms] at hin
                        have := mem_heapsOf (L := L) (last := K') hin
                        have e : HH (t + 1) = (match L[t + 1]? with | some s => s.2.1 | none => K') := by
                          by_cases hlt : t + 1 < ops.size
                          · obtain ⟨s2, q1, q2⟩ := hA (t + 1) hlt
                            simp only [HH, q2, q1]
                          · have he : t + 1 = ops.size := by omega
                            have : L[t + 1]? = none := List.getElem?_eq_none (by omega)
                            simp only [HH, he, hAn, d]
                            rw [← he, this]
                        rw [e]; exact this
                      | false =>
                        obtain ⟨t', r1, r2, r3, r4⟩ := iht (by omega)
                        refine ⟨t', by omega, by rw [r2, still t (by omega) hMt], r3, fun j hj hMj hjt => ?_⟩
                        by_cases e : j = t
                        · subst e; rw [hMt] at hMj; cases hMj
                        · exact r4 j hj hMj (by omega)
                  obtain ⟨t', r1, r2, r3, r4⟩ := hrep
                  have hqa := hq _ r3
                  simp only [quietAt, Bool.or_eq_true, List.any_eq_true, Bool.and_eq_true, Bool.not_eq_true'] at hqa
                  rcases hqa with ⟨j, hj, hbit, hge⟩ | ⟨j, hj, hbit, hlt⟩ | hval
                  · exfalso
                    rw [← hms] at hj
                    obtain ⟨ii, ss, q1, q2, rfl⟩ := (mem_mainsOf L 0 j).1 hj
                    have hjlt : 0 + ii < ops.size := by have := lt_of_getElem? q1; omega
                    have hMj := (hmm _ hjlt).2 hj
                    have := r4 _ hjlt hMj (hb _ hjlt hMj hbit)
                    have hlt' : Nat.blt (0 + ii) t' = true := by simp only [Nat.blt, Nat.ble_eq]; omega
                    rw [hlt'] at hge; cases hge
                  · exfalso
                    rw [← hms] at hj
                    obtain ⟨ii, ss, q1, q2, rfl⟩ := (mem_mainsOf L 0 j).1 hj
                    have hjlt : 0 + ii < ops.size := by have := lt_of_getElem? q1; omega
                    have hMj := (hmm _ hjlt).2 hj
                    have := ha _ hjlt hMj hbit
                    simp only [Nat.blt, Nat.ble_eq] at hlt
                    omega
                  · rw [← r2]
                    split at hval
                    · rename_i u K2 hu
                      have e1 := veq_eq hval
                      have e2 := quiet_heap E h4 hu
                      rw [hF, hV, hu, e1, e2]
                    · cases hval
          · exact .inr (.inr (.inl ⟨h1, h2, h3⟩))
          · exact .inr (.inr (.inr ⟨h1, h2, c, args, h3, (hcall _ _ _ _ _ h4).2⟩))
        · -- makers
          have hin : i ∈ fl := by simpa using hFi
          have hi := alt_of_getElem? ho
          have hMi : M i = true := (hmm i hi).2 (hsub i hin)
          obtain ⟨s, hs1, hs2⟩ := hA i hi
          have hF : F i = s.1 := by simp only [F, hs2]
          have hmk : makesFl (F i) o = true := by
            have := List.all_eq_true.1 hfine i hin
            simp only [ho, hs1] at this
            rw [hF]; exact this
          rcases stepOp_cases E (hstep i o ho).1 with ⟨_, _, h3, _⟩ | ⟨_, h3, _⟩ | ⟨h1, h2, h3⟩ | ⟨h1, h2, c, args, h3, _⟩
          · rw [hMi] at h3; cases h3
          · rw [hMi] at h3; cases h3
          · unfold makesFl at hmk
            split at hmk
            · rename_i ty hop
              obtain ⟨d2, hd2⟩ := Option.isSome_iff_exists.1 hmk
              rw [hop] at h3
              simp only [aop, aalloc] at h3
              split at h3
              · rename_i ii hii
                split at h3
                · rename_i z hz
                  simp only [abox, Option.some.injEq, Prod.mk.injEq] at h3
                  exact ⟨hMi, h1, d2, none, _, hd2, h3.1.symm, h3.2.symm, alloc_new E hii hz hop _⟩
                · cases h3
              · cases h3
            · rename_i t n ps hop
              obtain ⟨d2, hd2⟩ := Option.isSome_iff_exists.1 hmk
              rw [hop] at h3
              simp only [aop] at h3
              obtain ⟨ob, q1, q2, q3⟩ := build_new E hop h3
              exact ⟨hMi, h1, d2, some n, ob, hd2, q1, q2, q3⟩
            · cases hmk
          · unfold makesFl at hmk
            split at hmk
            · rename_i ty hop; rw [hop] at h3; simp only [acallee] at h3; cases h3
            · rename_i t n ps hop; rw [hop] at h3; simp only [acallee] at h3; cases h3
            · cases hmk
        · exact pairsF_bit hpairs (mainsOf_sorted L 0) i j ((hmm i (by omega)).1 hMi) ((hmm j hj).1 hMj) hij
        · exact hford'.1 k i j hk (by simpa using hFk) (by simpa using hFi) ((hmm j (by omega)).1 hMj) hj hb
        · exact hford'.2 i j (by simpa using hFi) (by simpa using hFj)
      have := T.region hm w0s (Q := Q) (by simp only [F, HH, hAn]; exact hQ) id
      rw [hF0.1, hF0.2] at this
      exact this
    · cases h
def arunG (call : Callf) (fuel : Nat) : Code → Fr → AH → Option (Exit × Fr × AH)
  | .skip, f, H => some (.normal, f, H)
  | .label _, f, H => some (.normal, f, H)
  | .exit i, f, H => some (.exit i, f, H)
  | .ret, f, H => some (.ret, f, H)
  | .seq a b, f, H => (match arunG call fuel a f H with
    | some (.normal, f', H') => arunG call fuel b f' H'
    | r => r)
  | .cond c x y, f, H => (match aval f c with
    | .bool true => arunG call fuel x f H
    | .bool false => arunG call fuel y f H
    | _ => none)
  | .block i c, f, H => (match arunG call fuel c f H with
    | some (.exit j, f', H') => bif Nat.beq j i then some (.normal, f', H') else some (.exit j, f', H')
    | r => r)
  | .loop c, f, H => aloop (arunG call fuel c) fuel f H
  | .region _ ops draw, f, H =>
    bif draw then (match arunDrawF E call ops f H with
      | some (g, K) => some (.normal, g, K)
      | none => none)
    else (match arunOps E call ops ops.toList f H with
      | some (g, K) => some (.normal, g, K)
      | none => none)
  | _, _, _ => none

def acallG : Nat → Callf
  | 0, _, _, _ => none
  | n + 1, g, args, H => (match E.fn g with
    | some x => (match arunG E (acallG n) n x.body (mkFr args x.ntmps) H with
      | some (.normal, f, H') => (match aresults E f H' x.results with
        | some vs => some (tupleUp vs, H')
        | none => none)
      | some (.ret, f, H') => (match aresults E f H' x.results with
        | some vs => some (tupleUp vs, H')
        | none => none)
      | _ => none)
    | none => none)

theorem arunDrawF_w0 {call : Callf} (hcall : CallOk P call) {ops : Array Oper} {f g : Fr} {H K : AH} (h : arunDrawF E call ops f H = some (g, K)) : K.w0 = H.w0 := by
  unfold arunDrawF at h
  rcases cond_some h with h | h
  · split at h
    · rename_i L g' K' hr
      split at h
      · cases h; exact arunTr_w0 E hcall _ _ _ _ _ _ hr
      · rcases cond_some h with h | h
        · cases h; exact arunTr_w0 E hcall _ _ _ _ _ _ hr
        · cases h
    · cases h
  · cases h

theorem arunG_ok {call : Callf} (hcall : CallOk P call) (hm : P.follows .mixedOrders = true) (fuel : Nat) : ∀ (c : Code) (f : Fr) (H : AH) (e : Exit) (g : Fr) (K : AH), arunG E call fuel c f H = some (e, g, K) → Says P c e g K f H := by
  intro c
  induction c with
  | skip => intro f H e g K h; simp only [arunG] at h; cases h; exact ⟨rfl, ACode.skip ⟨rfl, rfl, rfl⟩⟩
  | label l => intro f H e g K h; simp only [arunG] at h; cases h; exact ⟨rfl, ACode.label ⟨rfl, rfl, rfl⟩⟩
  | exit i => intro f H e g K h; simp only [arunG] at h; cases h; exact ⟨rfl, ACode.exit ⟨rfl, rfl, rfl⟩⟩
  | ret => intro f H e g K h; simp only [arunG] at h; cases h; exact ⟨rfl, ACode.ret ⟨rfl, rfl, rfl⟩⟩
  | seq x y ihx ihy =>
    intro f H e g K h
    simp only [arunG] at h
    cases hx : arunG E call fuel x f H with
    | none => rw [hx] at h; cases h
    | some r =>
      obtain ⟨e1, f1, H1⟩ := r
      rw [hx] at h
      obtain ⟨w1, c1⟩ := ihx _ _ _ _ _ hx
      by_cases he : e1 = .normal
      · subst he
        simp only at h
        obtain ⟨w2, c2⟩ := ihy _ _ _ _ _ h
        refine ⟨w2.trans w1, ACode.seq c1 ?_ ?_⟩
        · rintro f' H' ⟨_, rfl, rfl⟩; exact c2
        · rintro e' f' H' hne ⟨rfl, _⟩; exact absurd rfl hne
      · have hh : e1 = e ∧ f1 = g ∧ H1 = K := by
          cases e1 with
          | normal => exact absurd rfl he
          | _ => simp only [Option.some.injEq, Prod.mk.injEq] at h; exact h
        obtain ⟨rfl, rfl, rfl⟩ := hh
        refine ⟨w1, ACode.seq c1 ?_ ?_⟩
        · rintro f' H' ⟨e0, _⟩; exact absurd e0.symm he
        · rintro e' f' H' _ k; exact k
  | cond c x y ihx ihy =>
    intro f H e g K h
    simp only [arunG] at h
    split at h
    · rename_i hc
      obtain ⟨w1, c1⟩ := ihx _ _ _ _ _ h
      exact ⟨w1, ACode.cond hc c1⟩
    · rename_i hc
      obtain ⟨w1, c1⟩ := ihy _ _ _ _ _ h
      exact ⟨w1, ACode.cond hc c1⟩
    · cases h
  | block i c ih =>
    intro f H e g K h
    simp only [arunG] at h
    cases hx : arunG E call fuel c f H with
    | none => rw [hx] at h; cases h
    | some r =>
      obtain ⟨e1, f1, H1⟩ := r
      rw [hx] at h
      obtain ⟨w1, c1⟩ := ih _ _ _ _ _ hx
      have fin : H1 = K → f1 = g → (∀ f' H', f' = g → H' = K → (match e1 with | .exit j => if j = i then (Exit.normal = e ∧ f' = g ∧ H' = K) else (Exit.exit j = e ∧ f' = g ∧ H' = K) | e' => (e' = e ∧ f' = g ∧ H' = K))) → Says P (.block i c) e g K f H := by
        rintro rfl rfl k
        refine ⟨w1, ACode.block (c1.mono ?_)⟩
        rintro e' f' H' ⟨rfl, rfl, rfl⟩
        have := k f' H' rfl rfl
        cases e' <;> exact this
      cases e1 with
      | exit j =>
        simp only at h
        cases hj : Nat.beq j i with
        | true =>
          rw [hj, cond_true] at h
          cases h
          have := Nat.eq_of_beq_eq_true hj
          exact fin rfl rfl fun f' H' h1 h2 => by simp only [this, if_true]; exact ⟨trivial, h1, h2⟩
        | false =>
          rw [hj, cond_false] at h
          cases h
          have : ¬ j = i := fun e => by rw [e] at hj; simp at hj
          exact fin rfl rfl fun f' H' h1 h2 => by simp only [this, if_false]; exact ⟨trivial, h1, h2⟩
      | _ =>
        simp only [Option.some.injEq, Prod.mk.injEq] at h
        obtain ⟨rfl, rfl, rfl⟩ := h
        exact fin rfl rfl fun f' H' h1 h2 => ⟨rfl, h1, h2⟩
  | loop c ih =>
    intro f H e g K h
    simp only [arunG] at h
    exact aloop_ok ih fuel f H e g K h
  | region i ops draw =>
    intro f H e g K h
    simp only [arunG] at h
    cases draw with
    | true =>
      rw [cond_true] at h
      split at h
      · rename_i g' K' hd
        cases h
        exact ⟨arunDrawF_w0 E hcall hd, arunDrawF_ok E hcall hm ⟨rfl, rfl, rfl⟩ hd i⟩
      · cases h
    | false =>
      rw [cond_false] at h
      split at h
      · rename_i g' K' hd
        cases h
        refine ⟨arunOps_w0 E hcall _ _ _ hd, ACode.region ?_⟩
        have := arunOps_ok E hcall (Q := fun e' g'' K'' => e' = Exit.normal ∧ g'' = g ∧ K'' = K) ⟨rfl, rfl, rfl⟩ ops.toList 0 f H (fun j => by simp) hd
        rw [Array.length_toList, ← List.range_eq_range'] at this
        exact this
      · cases h
  | _ => intro f H e g K h; simp only [arunG] at h; cases h

theorem acallG_ok (hm : P.follows .mixedOrders = true) : ∀ n, CallOk P (acallG E n) := by
  intro n
  induction n with
  | zero => intro g args H v H' h; cases h
  | succ n ih =>
    intro g args H v H' h
    simp only [acallG] at h
    split at h
    · rename_i x hg
      have fin : ∀ {e f K}, arunG E (acallG E n) n x.body (mkFr args x.ntmps) H = some (e, f, K) → (e = .normal ∨ e = .ret) → (match aresults E f K x.results with | some vs => some (tupleUp vs, K) | none => none) = some (v, H') →
          H'.w0 = H.w0 ∧ ACalls P g args H fun u K => u = v ∧ K = H' := by
        intro e f K hr he hv
        split at hv
        · rename_i vs hvs
          cases hv
          obtain ⟨w1, c1⟩ := arunG_ok E ih hm n _ _ _ _ _ _ hr
          refine ⟨w1, ACalls.body E hg (c1.mono ?_)⟩
          rintro e' f' K' ⟨rfl, rfl, rfl⟩
          exact ⟨he, vs, hvs, rfl, rfl⟩
        · cases hv
      split at h
      · rename_i f K hr; exact fin hr (.inl rfl) h
      · rename_i f K hr; exact fin hr (.inr rfl) h
      · cases h
    · cases h

/-- a run without inputs -/
theorem Flat.closedG (hm : P.follows .mixedOrders = true) {g : FuncId} {r : Value} (n : Nat) (h : ∀ w : World, ∃ H', acallG E n g [] (start w) = some (r, H')) (w : World) : Flat P g [] w r := by
  obtain ⟨H', hH⟩ := h w
  exact ((acallG_ok E hm n _ _ _ _ _ hH).2).mono fun v K hv => hv.1
end
end Go.AM
